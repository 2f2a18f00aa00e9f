/-
  Pass: its walks. And more of the book's walks (merged texts).
-/
import Derived.Test.YtfnlghjkjmppdaaCBb
import Derived.Test.YtfnlghjkjmppdaaCCd
namespace Go.Proofs.Ytfnlghjkjmppdaa.PC
open Go.RowKit Go.Proofs.YtfnlghjkjmppdaaW.PrintWords Go.Proofs.YtfnlghjkjmppdaaW.PrintLast Go.Proofs.YtfnlghjkjmppdaaW.PrintMore
set_option linter.unusedVariables false
set_option linter.unusedSimpArgs false
/-- Does grant n give a person the right to pass this on? -/
def rightB (day : Int) (G : List S39) (n : Nat) (by_ v r u s : Int) : Bool :=
  (by_ == (gr G n).f3) && stB day G n && (bits .and .i64 (gr G n).f5 2 != 0) && ((bits .andNot .i64 v (gr G n).f4 == 0) && (bits .andNot .i64 r (gr G n).f5 == 0) && decide (u ≤ (gr G n).f6)) && (decide ((gr G n).f7 = -1) || (!decide (s = -1) && decide (s ≤ (gr G n).f7)))
theorem Pass_nil (w : World) (bv : Value) (n by_ h_ v r u s : Int) (h : NoBook w bv) : Calls Try.prog 16 #[bv, .int .i64 n, .int .i64 by_, .int .i64 h_, .int .i64 v, .int .i64 r, .int .i64 u, .int .i64 s] w fun e w' => e = .returned (.tuple #[.int .i64 0, .int .i64 1]) ∧ Below w.heap.size w w' := by
  have HN := lhid h
  clear h
  have hmf : ∀ (fn : Fn) (first cap : Array Value) (w : World), (Instr.makeFunc fn first cap).run Try.prog w = .ok (.func fn first cap) w := fun _ _ _ _ => rfl
  go_enter_defers Try.func16, Try.ntmps16
  go_upto_region 2 with (fail)
  have HB_1 := lhid (Below.refl w.heap.size w)
  have hb := below_alloc (Below.refl w.heap.size w) (.cells #[.int .i64 0] 24)
  have hn := blk_new w (.cells #[.int .i64 0] 24)
  have HZ1 := lhid (show (World.alloc w (.cells #[.int .i64 0] 24)).heap.size = w.heap.size + 1 from by simp)
  generalize hq : World.alloc w (.cells #[.int .i64 0] 24) = w1 at hb hn HZ1 ⊢
  clear hq
  have HN_2 := lhid (HN.out.next hb)
  have HB_3 := lhid (below_then HB_1.out HB_1.out.size hb)
  clear HN HB_1 hb
  have BX_4 := lhid (hn)
  clear hn
  clear hmf
  go_wp2_with fail
  with_reducible refine (get_nil w1 bv n HN_2.out).mono ?_
  rintro e w' ⟨rfl, rfl⟩
  refine leaves_cons (f := 45) (args := #[.pointer (some ⟨w.heap.size, 0, none⟩)]) (by simp) (by simp [go_sem]) ?_
  refine (catch45_panicking ⟨w.heap.size, 0, none⟩ 0 1 [] _ (blk_cell BX_4.out 0) (blk_frozen BX_4.out 0)).mono ?_
  rintro e u' w'' ⟨rfl, rfl, w1, hb, rfl⟩
  have hbw := (below_then HB_3.out HB_3.out.size hb).setCell (p := ⟨w.heap.size, 0, none⟩) (Nat.le_refl _) (.int .i64 1)
  have hcw := blk_cell (blk_put (blk_below BX_4.out hb) 0 (.int .i64 1) rfl) 0
  simp [Leaves, settle, results, Try.results16, go_sem, hcw]
  exact hbw
theorem Pass_none (base g : Nat) (F : Nat → Prop) (w : World) (day : Int) (G : List S39) (E : List S44) (n by_ h_ v r u s : Int) (h : BK base F w g day G E) (hn : ¬ (1 ≤ n ∧ n ≤ G.length)) : Calls Try.prog 16 #[.pointer (some ⟨g, 0, none⟩), .int .i64 n, .int .i64 by_, .int .i64 h_, .int .i64 v, .int .i64 r, .int .i64 u, .int .i64 s] w fun e w' => e = .returned (.tuple #[.int .i64 0, .int .i64 6]) ∧ Below w.heap.size w w' := by
  have HBK := lhid h
  clear h
  have hmf : ∀ (fn : Fn) (first cap : Array Value) (w : World), (Instr.makeFunc fn first cap).run Try.prog w = .ok (.func fn first cap) w := fun _ _ _ _ => rfl
  go_enter_defers Try.func16, Try.ntmps16
  go_upto_region 2 with (fail)
  have HB_1 := lhid (Below.refl w.heap.size w)
  have hb := below_alloc (Below.refl w.heap.size w) (.cells #[.int .i64 0] 24)
  have hn := blk_new w (.cells #[.int .i64 0] 24)
  have HZ1 := lhid (show (World.alloc w (.cells #[.int .i64 0] 24)).heap.size = w.heap.size + 1 from by simp)
  generalize hq : World.alloc w (.cells #[.int .i64 0] 24) = w1 at hb hn HZ1 ⊢
  clear hq
  have HBK_2 := lhid (HBK.out.next hb)
  have HB_3 := lhid (below_then HB_1.out HB_1.out.size hb)
  clear HBK HB_1 hb
  have BX_4 := lhid (hn)
  clear hn
  clear hmf
  go_wp2_with fail
  with_reducible refine (get_none base g F w1 day G E n HBK_2.out hn).mono ?_
  rintro e w' ⟨rfl, rfl⟩
  refine leaves_cons (f := 45) (args := #[.pointer (some ⟨w.heap.size, 0, none⟩)]) (by simp) (by simp [go_sem]) ?_
  refine (catch45_panicking ⟨w.heap.size, 0, none⟩ 0 6 [] _ (blk_cell BX_4.out 0) (blk_frozen BX_4.out 0)).mono ?_
  rintro e u' w'' ⟨rfl, rfl, w1, hb, rfl⟩
  have hbw := (below_then HB_3.out HB_3.out.size hb).setCell (p := ⟨w.heap.size, 0, none⟩) (Nat.le_refl _) (.int .i64 6)
  have hcw := blk_cell (blk_put (blk_below BX_4.out hb) 0 (.int .i64 6) rfl) 0
  simp [Leaves, settle, results, Try.results16, go_sem, hcw]
  exact hbw
theorem Pass_may (base g : Nat) (F : Nat → Prop) (w : World) (day : Int) (G : List S39) (E : List S44) (n by_ h_ v r u s : Int) (h : BK base F w g day G E) (hT : Tree G) (h1 : 1 ≤ n) (h2 : n ≤ G.length) (hm : mayB h_ v r u s = false) : Calls Try.prog 16 #[.pointer (some ⟨g, 0, none⟩), .int .i64 n, .int .i64 by_, .int .i64 h_, .int .i64 v, .int .i64 r, .int .i64 u, .int .i64 s] w fun e w' => e = .returned (.tuple #[.int .i64 0, .int .i64 2]) ∧ Below w.heap.size w w' := by
  have hu70 := Try.underlying70
  have hu39 := Try.underlying39
  obtain ⟨AG, cG, AE, cE, ho⟩ := h.opn
  obtain ⟨b, hA, hFb⟩ := ho.ad (by omega)
  subst hA
  have hl := hT.1
  obtain ⟨m, rfl⟩ : ∃ m : Nat, n = m := ⟨n.toNat, by omega⟩
  have hm1 : 1 ≤ m := by omega
  have hm2 : m ≤ G.length := by omega
  have HT := lhid hT
  have HF := lhid (show ∀ k, F k → k < w.heap.size from fun k q => (h.fb k q).2)
  clear h hT
  have HO_1 := lhid (ho)
  clear ho
  obtain ⟨x, hx⟩ : ∃ x, x = gr G m := ⟨_, rfl⟩
  have HX := lhid hx
  clear hx
  have hmf : ∀ (fn : Fn) (first cap : Array Value) (w : World), (Instr.makeFunc fn first cap).run Try.prog w = .ok (.func fn first cap) w := fun _ _ _ _ => rfl
  go_enter_defers Try.func16, Try.ntmps16
  go_upto_region 2 with (fail)
  have HB_2 := lhid (Below.refl w.heap.size w)
  have hb := below_alloc (Below.refl w.heap.size w) (.cells #[.int .i64 0] 24)
  have hn := blk_new w (.cells #[.int .i64 0] 24)
  have HZ1 := lhid (show (World.alloc w (.cells #[.int .i64 0] 24)).heap.size = w.heap.size + 1 from by simp)
  generalize hq : World.alloc w (.cells #[.int .i64 0] 24) = w1 at hb hn HZ1 ⊢
  clear hq
  have HO_3 := lhid (HO_1.out.next hb)
  have HB_4 := lhid (below_then HB_2.out HB_2.out.size hb)
  clear HO_1 HB_2 hb
  have BX_5 := lhid (hn)
  clear hn
  clear hmf
  go_wp2_with fail
  with_reducible refine (get_some base g F w1 day G E cG AE cE b m HO_3.out (by omega) (by omega) (by omega)).mono ?_
  rintro e w' ⟨rfl, rfl⟩
  rw [Int.toNat_natCast]
  unfold pt
  have hcs := HO_3.out.cells m hm1 hm2
  rw [← HX.out] at hcs
  obtain ⟨x0, x1, x2, x3, x4, x5, x6, x7, x8⟩ := hcs
  go_upto_region 4 with (fail)
  clear x0 x1 x2 x3 x4 x5 x6 x7 x8
  have hb := below_alloc (Below.refl w1.heap.size w1) (.cells #[.int .i64 0, .int .i64 m, .int .i64 x.f2, .int .i64 h_, .int .i64 v, .int .i64 r, .int .i64 u, .int .i64 s, .bool false] 39)
  have hn := blk_new w1 (.cells #[.int .i64 0, .int .i64 m, .int .i64 x.f2, .int .i64 h_, .int .i64 v, .int .i64 r, .int .i64 u, .int .i64 s, .bool false] 39)
  have HZ2 := lhid (show (World.alloc w1 (.cells #[.int .i64 0, .int .i64 m, .int .i64 x.f2, .int .i64 h_, .int .i64 v, .int .i64 r, .int .i64 u, .int .i64 s, .bool false] 39)).heap.size = w1.heap.size + 1 from by simp)
  generalize hq : World.alloc w1 (.cells #[.int .i64 0, .int .i64 m, .int .i64 x.f2, .int .i64 h_, .int .i64 v, .int .i64 r, .int .i64 u, .int .i64 s, .bool false] 39) = w2 at hb hn HZ2 ⊢
  clear hq
  have HO_6 := lhid (HO_3.out.next hb)
  have HB_7 := lhid (below_then HB_4.out HB_4.out.size hb)
  have BX_8 := lhid (blk_below BX_5.out hb)
  clear HO_3 HB_4 BX_5 hb
  have BG_9 := lhid (hn)
  clear hn
  obtain ⟨gb, hgb⟩ : ∃ q, q = w1.heap.size := ⟨_, rfl⟩
  rw [← hgb] at BG_9 ⊢
  clear hgb
  obtain ⟨hx0, hx1, hx2, hx3, hx4, hx5, hx6, hx7, hx8⟩ := nine BG_9.out
  go_wp2_with fail
  with_reducible refine (custody_may.calls 0 m x.f2 h_ v r u s false false w2 (by rw [may_f]; exact congrArg some hm)).mono ?_
  rintro e w3 ⟨rfl, hb⟩
  have HO_10 := lhid (HO_6.out.next hb)
  have HB_11 := lhid (below_then HB_7.out HB_7.out.size hb)
  have BX_12 := lhid (blk_below BX_8.out hb)
  have BG_13 := lhid (blk_below BG_9.out hb)
  clear HO_6 HB_7 BX_8 BG_9 hb
  clear hx0 hx1 hx2 hx3 hx4 hx5 hx6 hx7 hx8
  go_wp2_with fail
  with_reducible refine (refuse_yes _ 2).mono ?_
  rintro e w' ⟨rfl, rfl⟩
  refine leaves_cons (f := 45) (args := #[.pointer (some ⟨w.heap.size, 0, none⟩)]) (by simp) (by simp [go_sem]) ?_
  refine (catch45_panicking ⟨w.heap.size, 0, none⟩ 0 2 [] _ (blk_cell BX_12.out 0) (blk_frozen BX_12.out 0)).mono ?_
  rintro e u' w'' ⟨rfl, rfl, w1, hb, rfl⟩
  have hbw := (below_then HB_11.out HB_11.out.size hb).setCell (p := ⟨w.heap.size, 0, none⟩) (Nat.le_refl _) (.int .i64 2)
  have hcw := blk_cell (blk_put (blk_below BX_12.out hb) 0 (.int .i64 2) rfl) 0
  simp [Leaves, settle, results, Try.results16, go_sem, hcw]
  exact hbw
theorem Pass_per (base g : Nat) (F : Nat → Prop) (w : World) (day : Int) (G : List S39) (E : List S44) (n by_ h_ v r u s : Int) (h : BK base F w g day G E) (hT : Tree G) (h1 : 1 ≤ n) (h2 : n ≤ G.length) (hm : mayB h_ v r u s = true) (hp : perB by_ = false) : Calls Try.prog 16 #[.pointer (some ⟨g, 0, none⟩), .int .i64 n, .int .i64 by_, .int .i64 h_, .int .i64 v, .int .i64 r, .int .i64 u, .int .i64 s] w fun e w' => e = .returned (.tuple #[.int .i64 0, .int .i64 2]) ∧ Below w.heap.size w w' := by
  have hu70 := Try.underlying70
  have hu39 := Try.underlying39
  obtain ⟨AG, cG, AE, cE, ho⟩ := h.opn
  obtain ⟨b, hA, hFb⟩ := ho.ad (by omega)
  subst hA
  have hl := hT.1
  obtain ⟨m, rfl⟩ : ∃ m : Nat, n = m := ⟨n.toNat, by omega⟩
  have hm1 : 1 ≤ m := by omega
  have hm2 : m ≤ G.length := by omega
  have HT := lhid hT
  have HF := lhid (show ∀ k, F k → k < w.heap.size from fun k q => (h.fb k q).2)
  clear h hT
  have HO_1 := lhid (ho)
  clear ho
  obtain ⟨x, hx⟩ : ∃ x, x = gr G m := ⟨_, rfl⟩
  have HX := lhid hx
  clear hx
  have hmf : ∀ (fn : Fn) (first cap : Array Value) (w : World), (Instr.makeFunc fn first cap).run Try.prog w = .ok (.func fn first cap) w := fun _ _ _ _ => rfl
  go_enter_defers Try.func16, Try.ntmps16
  go_upto_region 2 with (fail)
  have HB_2 := lhid (Below.refl w.heap.size w)
  have hb := below_alloc (Below.refl w.heap.size w) (.cells #[.int .i64 0] 24)
  have hn := blk_new w (.cells #[.int .i64 0] 24)
  have HZ1 := lhid (show (World.alloc w (.cells #[.int .i64 0] 24)).heap.size = w.heap.size + 1 from by simp)
  generalize hq : World.alloc w (.cells #[.int .i64 0] 24) = w1 at hb hn HZ1 ⊢
  clear hq
  have HO_3 := lhid (HO_1.out.next hb)
  have HB_4 := lhid (below_then HB_2.out HB_2.out.size hb)
  clear HO_1 HB_2 hb
  have BX_5 := lhid (hn)
  clear hn
  clear hmf
  go_wp2_with fail
  with_reducible refine (get_some base g F w1 day G E cG AE cE b m HO_3.out (by omega) (by omega) (by omega)).mono ?_
  rintro e w' ⟨rfl, rfl⟩
  rw [Int.toNat_natCast]
  unfold pt
  have hcs := HO_3.out.cells m hm1 hm2
  rw [← HX.out] at hcs
  obtain ⟨x0, x1, x2, x3, x4, x5, x6, x7, x8⟩ := hcs
  go_upto_region 4 with (fail)
  clear x0 x1 x2 x3 x4 x5 x6 x7 x8
  have hb := below_alloc (Below.refl w1.heap.size w1) (.cells #[.int .i64 0, .int .i64 m, .int .i64 x.f2, .int .i64 h_, .int .i64 v, .int .i64 r, .int .i64 u, .int .i64 s, .bool false] 39)
  have hn := blk_new w1 (.cells #[.int .i64 0, .int .i64 m, .int .i64 x.f2, .int .i64 h_, .int .i64 v, .int .i64 r, .int .i64 u, .int .i64 s, .bool false] 39)
  have HZ2 := lhid (show (World.alloc w1 (.cells #[.int .i64 0, .int .i64 m, .int .i64 x.f2, .int .i64 h_, .int .i64 v, .int .i64 r, .int .i64 u, .int .i64 s, .bool false] 39)).heap.size = w1.heap.size + 1 from by simp)
  generalize hq : World.alloc w1 (.cells #[.int .i64 0, .int .i64 m, .int .i64 x.f2, .int .i64 h_, .int .i64 v, .int .i64 r, .int .i64 u, .int .i64 s, .bool false] 39) = w2 at hb hn HZ2 ⊢
  clear hq
  have HO_6 := lhid (HO_3.out.next hb)
  have HB_7 := lhid (below_then HB_4.out HB_4.out.size hb)
  have BX_8 := lhid (blk_below BX_5.out hb)
  clear HO_3 HB_4 BX_5 hb
  have BG_9 := lhid (hn)
  clear hn
  obtain ⟨gb, hgb⟩ : ∃ q, q = w1.heap.size := ⟨_, rfl⟩
  rw [← hgb] at BG_9 ⊢
  clear hgb
  obtain ⟨hx0, hx1, hx2, hx3, hx4, hx5, hx6, hx7, hx8⟩ := nine BG_9.out
  go_wp2_with fail
  with_reducible refine (custody_may.calls 0 m x.f2 h_ v r u s false true w2 (by rw [may_f]; exact congrArg some hm)).mono ?_
  rintro e w3 ⟨rfl, hb⟩
  have HO_10 := lhid (HO_6.out.next hb)
  have HB_11 := lhid (below_then HB_7.out HB_7.out.size hb)
  have BX_12 := lhid (blk_below BX_8.out hb)
  have BG_13 := lhid (blk_below BG_9.out hb)
  clear HO_6 HB_7 BX_8 BG_9 hb
  clear hx0 hx1 hx2 hx3 hx4 hx5 hx6 hx7 hx8
  go_wp2_with fail
  with_reducible refine (custody_person.calls by_ false w3 (by rw [person_f]; exact congrArg some hp)).mono ?_
  rintro e w4 ⟨rfl, nd, hq⟩
  have hb := pw_below_drewN (Below.refl w3.heap.size w3) nd
  rw [← hq] at hb
  clear hq
  have HO_14 := lhid (HO_10.out.next hb)
  have HB_15 := lhid (below_then HB_11.out HB_11.out.size hb)
  have BX_16 := lhid (blk_below BX_12.out hb)
  have BG_17 := lhid (blk_below BG_13.out hb)
  clear HO_10 HB_11 BX_12 BG_13 hb
  go_wp2_with fail
  with_reducible refine (refuse_yes _ 2).mono ?_
  rintro e w' ⟨rfl, rfl⟩
  refine leaves_cons (f := 45) (args := #[.pointer (some ⟨w.heap.size, 0, none⟩)]) (by simp) (by simp [go_sem]) ?_
  refine (catch45_panicking ⟨w.heap.size, 0, none⟩ 0 2 [] _ (blk_cell BX_16.out 0) (blk_frozen BX_16.out 0)).mono ?_
  rintro e u' w'' ⟨rfl, rfl, w1, hb, rfl⟩
  have hbw := (below_then HB_15.out HB_15.out.size hb).setCell (p := ⟨w.heap.size, 0, none⟩) (Nat.le_refl _) (.int .i64 2)
  have hcw := blk_cell (blk_put (blk_below BX_16.out hb) 0 (.int .i64 2) rfl) 0
  simp [Leaves, settle, results, Try.results16, go_sem, hcw]
  exact hbw
theorem Pass_right (base g : Nat) (F : Nat → Prop) (w : World) (day : Int) (G : List S39) (E : List S44) (n by_ h_ v r u s : Int) (h : BK base F w g day G E) (hT : Tree G) (h1 : 1 ≤ n) (h2 : n ≤ G.length) (hm : mayB h_ v r u s = true) (hp : perB by_ = true) (hh : rightB day G n.toNat by_ v r u s = false) : Calls Try.prog 16 #[.pointer (some ⟨g, 0, none⟩), .int .i64 n, .int .i64 by_, .int .i64 h_, .int .i64 v, .int .i64 r, .int .i64 u, .int .i64 s] w fun e w' => e = .returned (.tuple #[.int .i64 0, .int .i64 12]) ∧ Below w.heap.size w w' := by
  have hu70 := Try.underlying70
  have hu39 := Try.underlying39
  obtain ⟨AG, cG, AE, cE, ho⟩ := h.opn
  obtain ⟨b, hA, hFb⟩ := ho.ad (by omega)
  subst hA
  have hl := hT.1
  obtain ⟨m, rfl⟩ : ∃ m : Nat, n = m := ⟨n.toNat, by omega⟩
  have hm1 : 1 ≤ m := by omega
  have hm2 : m ≤ G.length := by omega
  have HT := lhid hT
  have HF := lhid (show ∀ k, F k → k < w.heap.size from fun k q => (h.fb k q).2)
  clear h hT
  have HO_1 := lhid (ho)
  clear ho
  rw [Int.toNat_natCast] at hh
  have HH := lhid hh
  clear hh
  obtain ⟨x, hx⟩ : ∃ x, x = gr G m := ⟨_, rfl⟩
  have HX := lhid hx
  clear hx
  have hmf : ∀ (fn : Fn) (first cap : Array Value) (w : World), (Instr.makeFunc fn first cap).run Try.prog w = .ok (.func fn first cap) w := fun _ _ _ _ => rfl
  go_enter_defers Try.func16, Try.ntmps16
  go_upto_region 2 with (fail)
  have HB_2 := lhid (Below.refl w.heap.size w)
  have hb := below_alloc (Below.refl w.heap.size w) (.cells #[.int .i64 0] 24)
  have hn := blk_new w (.cells #[.int .i64 0] 24)
  have HZ1 := lhid (show (World.alloc w (.cells #[.int .i64 0] 24)).heap.size = w.heap.size + 1 from by simp)
  generalize hq : World.alloc w (.cells #[.int .i64 0] 24) = w1 at hb hn HZ1 ⊢
  clear hq
  have HO_3 := lhid (HO_1.out.next hb)
  have HB_4 := lhid (below_then HB_2.out HB_2.out.size hb)
  clear HO_1 HB_2 hb
  have BX_5 := lhid (hn)
  clear hn
  clear hmf
  go_wp2_with fail
  with_reducible refine (get_some base g F w1 day G E cG AE cE b m HO_3.out (by omega) (by omega) (by omega)).mono ?_
  rintro e w' ⟨rfl, rfl⟩
  rw [Int.toNat_natCast]
  unfold pt
  have hcs := HO_3.out.cells m hm1 hm2
  rw [← HX.out] at hcs
  obtain ⟨x0, x1, x2, x3, x4, x5, x6, x7, x8⟩ := hcs
  go_upto_region 4 with (fail)
  clear x0 x1 x2 x3 x4 x5 x6 x7 x8
  have hb := below_alloc (Below.refl w1.heap.size w1) (.cells #[.int .i64 0, .int .i64 m, .int .i64 x.f2, .int .i64 h_, .int .i64 v, .int .i64 r, .int .i64 u, .int .i64 s, .bool false] 39)
  have hn := blk_new w1 (.cells #[.int .i64 0, .int .i64 m, .int .i64 x.f2, .int .i64 h_, .int .i64 v, .int .i64 r, .int .i64 u, .int .i64 s, .bool false] 39)
  have HZ2 := lhid (show (World.alloc w1 (.cells #[.int .i64 0, .int .i64 m, .int .i64 x.f2, .int .i64 h_, .int .i64 v, .int .i64 r, .int .i64 u, .int .i64 s, .bool false] 39)).heap.size = w1.heap.size + 1 from by simp)
  generalize hq : World.alloc w1 (.cells #[.int .i64 0, .int .i64 m, .int .i64 x.f2, .int .i64 h_, .int .i64 v, .int .i64 r, .int .i64 u, .int .i64 s, .bool false] 39) = w2 at hb hn HZ2 ⊢
  clear hq
  have HO_6 := lhid (HO_3.out.next hb)
  have HB_7 := lhid (below_then HB_4.out HB_4.out.size hb)
  have BX_8 := lhid (blk_below BX_5.out hb)
  clear HO_3 HB_4 BX_5 hb
  have BG_9 := lhid (hn)
  clear hn
  obtain ⟨gb, hgb⟩ : ∃ q, q = w1.heap.size := ⟨_, rfl⟩
  rw [← hgb] at BG_9 ⊢
  clear hgb
  obtain ⟨hx0, hx1, hx2, hx3, hx4, hx5, hx6, hx7, hx8⟩ := nine BG_9.out
  go_wp2_with fail
  with_reducible refine (custody_may.calls 0 m x.f2 h_ v r u s false true w2 (by rw [may_f]; exact congrArg some hm)).mono ?_
  rintro e w3 ⟨rfl, hb⟩
  have HO_10 := lhid (HO_6.out.next hb)
  have HB_11 := lhid (below_then HB_7.out HB_7.out.size hb)
  have BX_12 := lhid (blk_below BX_8.out hb)
  have BG_13 := lhid (blk_below BG_9.out hb)
  clear HO_6 HB_7 BX_8 BG_9 hb
  clear hx0 hx1 hx2 hx3 hx4 hx5 hx6 hx7 hx8
  go_wp2_with fail
  with_reducible refine (custody_person.calls by_ true w3 (by rw [person_f]; exact congrArg some hp)).mono ?_
  rintro e w4 ⟨rfl, nd, hq⟩
  have hb := pw_below_drewN (Below.refl w3.heap.size w3) nd
  rw [← hq] at hb
  clear hq
  have HO_14 := lhid (HO_10.out.next hb)
  have HB_15 := lhid (below_then HB_11.out HB_11.out.size hb)
  have BX_16 := lhid (blk_below BX_12.out hb)
  have BG_17 := lhid (blk_below BG_13.out hb)
  clear HO_10 HB_11 BX_12 BG_13 hb
  go_wp2_with fail
  with_reducible refine (refuse_no _ 2).mono ?_
  rintro e w' ⟨rfl, rfl⟩
  have HR := lhid (show ((by_ == x.f3) && stB day G m && (bits .and .i64 x.f5 2 != 0) && ((bits .andNot .i64 v x.f4 == 0) && (bits .andNot .i64 r x.f5 == 0) && decide (u ≤ x.f6)) && (decide (x.f7 = -1) || (!decide (s = -1) && decide (s ≤ x.f7)))) = false by rw [HX.out]; exact HH.out)
  clear HH
  by_cases c1 : by_ = x.f3
  · have d1 : (by_ != x.f3) = false := bne_eq_false_iff_eq.mpr c1
    have hcs := HO_14.out.cells m hm1 hm2
    rw [← HX.out] at hcs
    obtain ⟨x0, x1, x2, x3, x4, x5, x6, x7, x8⟩ := hcs
    go_wp2_with fail
    with_reducible refine (stands_calls base g F w4 day G E m HO_14.out.bk HT.out (by omega) (by omega)).mono ?_
    rintro e w5 ⟨rfl, hb⟩
    have HO_18 := lhid (HO_14.out.next hb)
    have HB_19 := lhid (below_then HB_15.out HB_15.out.size hb)
    have BX_20 := lhid (blk_below BX_16.out hb)
    have BG_21 := lhid (blk_below BG_17.out hb)
    clear HO_14 HB_15 BX_16 BG_17 hb
    clear x0 x1 x2 x3 x4 x5 x6 x7 x8
    rw [Int.toNat_natCast]
    cases c2 : stB day G m
    · have hcs := HO_18.out.cells m hm1 hm2
      rw [← HX.out] at hcs
      obtain ⟨x0, x1, x2, x3, x4, x5, x6, x7, x8⟩ := hcs
      go_wp2_with fail
      with_reducible refine (refuse_yes _ 12).mono ?_
      rintro e w' ⟨rfl, rfl⟩
      refine leaves_cons (f := 45) (args := #[.pointer (some ⟨w.heap.size, 0, none⟩)]) (by simp) (by simp [go_sem]) ?_
      refine (catch45_panicking ⟨w.heap.size, 0, none⟩ 0 12 [] _ (blk_cell BX_20.out 0) (blk_frozen BX_20.out 0)).mono ?_
      rintro e u' w'' ⟨rfl, rfl, w1, hb, rfl⟩
      have hbw := (below_then HB_19.out HB_19.out.size hb).setCell (p := ⟨w.heap.size, 0, none⟩) (Nat.le_refl _) (.int .i64 12)
      have hcw := blk_cell (blk_put (blk_below BX_20.out hb) 0 (.int .i64 12) rfl) 0
      simp [Leaves, settle, results, Try.results16, go_sem, hcw]
      exact hbw
    · by_cases c3 : bits .and .i64 x.f5 2 = 0
      · have hcs := HO_18.out.cells m hm1 hm2
        rw [← HX.out] at hcs
        obtain ⟨x0, x1, x2, x3, x4, x5, x6, x7, x8⟩ := hcs
        have d3 : (bits .and .i64 x.f5 2 == 0) = true := beq_iff_eq.mpr c3
        go_wp2_with fail
        with_reducible refine (refuse_yes _ 12).mono ?_
        rintro e w' ⟨rfl, rfl⟩
        refine leaves_cons (f := 45) (args := #[.pointer (some ⟨w.heap.size, 0, none⟩)]) (by simp) (by simp [go_sem]) ?_
        refine (catch45_panicking ⟨w.heap.size, 0, none⟩ 0 12 [] _ (blk_cell BX_20.out 0) (blk_frozen BX_20.out 0)).mono ?_
        rintro e u' w'' ⟨rfl, rfl, w1, hb, rfl⟩
        have hbw := (below_then HB_19.out HB_19.out.size hb).setCell (p := ⟨w.heap.size, 0, none⟩) (Nat.le_refl _) (.int .i64 12)
        have hcw := blk_cell (blk_put (blk_below BX_20.out hb) 0 (.int .i64 12) rfl) 0
        simp [Leaves, settle, results, Try.results16, go_sem, hcw]
        exact hbw
      · have hcs := HO_18.out.cells m hm1 hm2
        rw [← HX.out] at hcs
        obtain ⟨x0, x1, x2, x3, x4, x5, x6, x7, x8⟩ := hcs
        have d3 : (bits .and .i64 x.f5 2 == 0) = false := beq_eq_false_iff_ne.mpr c3
        go_wp2_with fail
        with_reducible refine (refuse_no _ 12).mono ?_
        rintro e w' ⟨rfl, rfl⟩
        clear x0 x1 x2 x3 x4 x5 x6 x7 x8
        by_cases c4 : bits .andNot .i64 v x.f4 = 0
        · have d4 : (bits .andNot .i64 v x.f4 != 0) = false := bne_eq_false_iff_eq.mpr c4
          by_cases c5 : bits .andNot .i64 r x.f5 = 0
          · have d5 : (bits .andNot .i64 r x.f5 != 0) = false := bne_eq_false_iff_eq.mpr c5
            by_cases c6 : u ≤ x.f6
            · have d6 : decide (u > x.f6) = false := decide_eq_false (by omega)
              have hcs := HO_18.out.cells m hm1 hm2
              rw [← HX.out] at hcs
              obtain ⟨x0, x1, x2, x3, x4, x5, x6, x7, x8⟩ := hcs
              go_wp2_with fail
              with_reducible refine (refuse_no _ 12).mono ?_
              rintro e w' ⟨rfl, rfl⟩
              clear x0 x1 x2 x3 x4 x5 x6 x7 x8
              by_cases c7 : x.f7 = -1
              · exfalso
                have q := HR.out
                rw [c2] at q
                simp [c1, c3, c4, c5, c6, c7] at q
              · have d7 : (x.f7 != -1) = true := bne_iff_ne.mpr c7
                by_cases c8 : s = -1
                · have hcs := HO_18.out.cells m hm1 hm2
                  rw [← HX.out] at hcs
                  obtain ⟨x0, x1, x2, x3, x4, x5, x6, x7, x8⟩ := hcs
                  have d8 : (s == -1) = true := beq_iff_eq.mpr c8
                  go_wp2_with fail
                  with_reducible refine (refuse_yes _ 12).mono ?_
                  rintro e w' ⟨rfl, rfl⟩
                  refine leaves_cons (f := 45) (args := #[.pointer (some ⟨w.heap.size, 0, none⟩)]) (by simp) (by simp [go_sem]) ?_
                  refine (catch45_panicking ⟨w.heap.size, 0, none⟩ 0 12 [] _ (blk_cell BX_20.out 0) (blk_frozen BX_20.out 0)).mono ?_
                  rintro e u' w'' ⟨rfl, rfl, w1, hb, rfl⟩
                  have hbw := (below_then HB_19.out HB_19.out.size hb).setCell (p := ⟨w.heap.size, 0, none⟩) (Nat.le_refl _) (.int .i64 12)
                  have hcw := blk_cell (blk_put (blk_below BX_20.out hb) 0 (.int .i64 12) rfl) 0
                  simp [Leaves, settle, results, Try.results16, go_sem, hcw]
                  exact hbw
                · have d8 : (s == -1) = false := beq_eq_false_iff_ne.mpr c8
                  by_cases c9 : s ≤ x.f7
                  · exfalso
                    have q := HR.out
                    rw [c2] at q
                    simp [c1, c3, c4, c5, c6, c7, c8, c9] at q
                  · have hcs := HO_18.out.cells m hm1 hm2
                    rw [← HX.out] at hcs
                    obtain ⟨x0, x1, x2, x3, x4, x5, x6, x7, x8⟩ := hcs
                    have d9 : decide (s > x.f7) = true := decide_eq_true (by omega)
                    go_wp2_with fail
                    with_reducible refine (refuse_yes _ 12).mono ?_
                    rintro e w' ⟨rfl, rfl⟩
                    refine leaves_cons (f := 45) (args := #[.pointer (some ⟨w.heap.size, 0, none⟩)]) (by simp) (by simp [go_sem]) ?_
                    refine (catch45_panicking ⟨w.heap.size, 0, none⟩ 0 12 [] _ (blk_cell BX_20.out 0) (blk_frozen BX_20.out 0)).mono ?_
                    rintro e u' w'' ⟨rfl, rfl, w1, hb, rfl⟩
                    have hbw := (below_then HB_19.out HB_19.out.size hb).setCell (p := ⟨w.heap.size, 0, none⟩) (Nat.le_refl _) (.int .i64 12)
                    have hcw := blk_cell (blk_put (blk_below BX_20.out hb) 0 (.int .i64 12) rfl) 0
                    simp [Leaves, settle, results, Try.results16, go_sem, hcw]
                    exact hbw
            · have hcs := HO_18.out.cells m hm1 hm2
              rw [← HX.out] at hcs
              obtain ⟨x0, x1, x2, x3, x4, x5, x6, x7, x8⟩ := hcs
              have d6 : decide (u > x.f6) = true := decide_eq_true (by omega)
              go_wp2_with fail
              with_reducible refine (refuse_yes _ 12).mono ?_
              rintro e w' ⟨rfl, rfl⟩
              refine leaves_cons (f := 45) (args := #[.pointer (some ⟨w.heap.size, 0, none⟩)]) (by simp) (by simp [go_sem]) ?_
              refine (catch45_panicking ⟨w.heap.size, 0, none⟩ 0 12 [] _ (blk_cell BX_20.out 0) (blk_frozen BX_20.out 0)).mono ?_
              rintro e u' w'' ⟨rfl, rfl, w1, hb, rfl⟩
              have hbw := (below_then HB_19.out HB_19.out.size hb).setCell (p := ⟨w.heap.size, 0, none⟩) (Nat.le_refl _) (.int .i64 12)
              have hcw := blk_cell (blk_put (blk_below BX_20.out hb) 0 (.int .i64 12) rfl) 0
              simp [Leaves, settle, results, Try.results16, go_sem, hcw]
              exact hbw
          · have hcs := HO_18.out.cells m hm1 hm2
            rw [← HX.out] at hcs
            obtain ⟨x0, x1, x2, x3, x4, x5, x6, x7, x8⟩ := hcs
            have d5 : (bits .andNot .i64 r x.f5 != 0) = true := bne_iff_ne.mpr c5
            go_wp2_with fail
            with_reducible refine (refuse_yes _ 12).mono ?_
            rintro e w' ⟨rfl, rfl⟩
            refine leaves_cons (f := 45) (args := #[.pointer (some ⟨w.heap.size, 0, none⟩)]) (by simp) (by simp [go_sem]) ?_
            refine (catch45_panicking ⟨w.heap.size, 0, none⟩ 0 12 [] _ (blk_cell BX_20.out 0) (blk_frozen BX_20.out 0)).mono ?_
            rintro e u' w'' ⟨rfl, rfl, w1, hb, rfl⟩
            have hbw := (below_then HB_19.out HB_19.out.size hb).setCell (p := ⟨w.heap.size, 0, none⟩) (Nat.le_refl _) (.int .i64 12)
            have hcw := blk_cell (blk_put (blk_below BX_20.out hb) 0 (.int .i64 12) rfl) 0
            simp [Leaves, settle, results, Try.results16, go_sem, hcw]
            exact hbw
        · have hcs := HO_18.out.cells m hm1 hm2
          rw [← HX.out] at hcs
          obtain ⟨x0, x1, x2, x3, x4, x5, x6, x7, x8⟩ := hcs
          have d4 : (bits .andNot .i64 v x.f4 != 0) = true := bne_iff_ne.mpr c4
          go_wp2_with fail
          with_reducible refine (refuse_yes _ 12).mono ?_
          rintro e w' ⟨rfl, rfl⟩
          refine leaves_cons (f := 45) (args := #[.pointer (some ⟨w.heap.size, 0, none⟩)]) (by simp) (by simp [go_sem]) ?_
          refine (catch45_panicking ⟨w.heap.size, 0, none⟩ 0 12 [] _ (blk_cell BX_20.out 0) (blk_frozen BX_20.out 0)).mono ?_
          rintro e u' w'' ⟨rfl, rfl, w1, hb, rfl⟩
          have hbw := (below_then HB_19.out HB_19.out.size hb).setCell (p := ⟨w.heap.size, 0, none⟩) (Nat.le_refl _) (.int .i64 12)
          have hcw := blk_cell (blk_put (blk_below BX_20.out hb) 0 (.int .i64 12) rfl) 0
          simp [Leaves, settle, results, Try.results16, go_sem, hcw]
          exact hbw
  · have hcs := HO_14.out.cells m hm1 hm2
    rw [← HX.out] at hcs
    obtain ⟨x0, x1, x2, x3, x4, x5, x6, x7, x8⟩ := hcs
    have d1 : (by_ != x.f3) = true := bne_iff_ne.mpr c1
    go_wp2_with fail
    with_reducible refine (refuse_yes _ 12).mono ?_
    rintro e w' ⟨rfl, rfl⟩
    refine leaves_cons (f := 45) (args := #[.pointer (some ⟨w.heap.size, 0, none⟩)]) (by simp) (by simp [go_sem]) ?_
    refine (catch45_panicking ⟨w.heap.size, 0, none⟩ 0 12 [] _ (blk_cell BX_16.out 0) (blk_frozen BX_16.out 0)).mono ?_
    rintro e u' w'' ⟨rfl, rfl, w1, hb, rfl⟩
    have hbw := (below_then HB_15.out HB_15.out.size hb).setCell (p := ⟨w.heap.size, 0, none⟩) (Nat.le_refl _) (.int .i64 12)
    have hcw := blk_cell (blk_put (blk_below BX_16.out hb) 0 (.int .i64 12) rfl) 0
    simp [Leaves, settle, results, Try.results16, go_sem, hcw]
    exact hbw
theorem Pass_full (base g : Nat) (F : Nat → Prop) (w : World) (day : Int) (G : List S39) (E : List S44) (n by_ h_ v r u s : Int) (h : BK base F w g day G E) (hT : Tree G) (h1 : 1 ≤ n) (h2 : n ≤ G.length) (hm : mayB h_ v r u s = true) (hp : perB by_ = true) (hh : rightB day G n.toNat by_ v r u s = true) (hl2 : 128 ≤ G.length) : Calls Try.prog 16 #[.pointer (some ⟨g, 0, none⟩), .int .i64 n, .int .i64 by_, .int .i64 h_, .int .i64 v, .int .i64 r, .int .i64 u, .int .i64 s] w fun e w' => e = .returned (.tuple #[.int .i64 0, .int .i64 8]) ∧ Below w.heap.size w w' := by
  have hu70 := Try.underlying70
  have hu39 := Try.underlying39
  obtain ⟨AG, cG, AE, cE, ho⟩ := h.opn
  obtain ⟨b, hA, hFb⟩ := ho.ad (by omega)
  subst hA
  have hl := hT.1
  obtain ⟨m, rfl⟩ : ∃ m : Nat, n = m := ⟨n.toNat, by omega⟩
  have hm1 : 1 ≤ m := by omega
  have hm2 : m ≤ G.length := by omega
  have HT := lhid hT
  have HF := lhid (show ∀ k, F k → k < w.heap.size from fun k q => (h.fb k q).2)
  clear h hT
  have HO_1 := lhid (ho)
  clear ho
  rw [Int.toNat_natCast] at hh
  have HH := lhid hh
  clear hh
  obtain ⟨x, hx⟩ : ∃ x, x = gr G m := ⟨_, rfl⟩
  have HX := lhid hx
  clear hx
  have hmf : ∀ (fn : Fn) (first cap : Array Value) (w : World), (Instr.makeFunc fn first cap).run Try.prog w = .ok (.func fn first cap) w := fun _ _ _ _ => rfl
  go_enter_defers Try.func16, Try.ntmps16
  go_upto_region 2 with (fail)
  have HB_2 := lhid (Below.refl w.heap.size w)
  have hb := below_alloc (Below.refl w.heap.size w) (.cells #[.int .i64 0] 24)
  have hn := blk_new w (.cells #[.int .i64 0] 24)
  have HZ1 := lhid (show (World.alloc w (.cells #[.int .i64 0] 24)).heap.size = w.heap.size + 1 from by simp)
  generalize hq : World.alloc w (.cells #[.int .i64 0] 24) = w1 at hb hn HZ1 ⊢
  clear hq
  have HO_3 := lhid (HO_1.out.next hb)
  have HB_4 := lhid (below_then HB_2.out HB_2.out.size hb)
  clear HO_1 HB_2 hb
  have BX_5 := lhid (hn)
  clear hn
  clear hmf
  go_wp2_with fail
  with_reducible refine (get_some base g F w1 day G E cG AE cE b m HO_3.out (by omega) (by omega) (by omega)).mono ?_
  rintro e w' ⟨rfl, rfl⟩
  rw [Int.toNat_natCast]
  unfold pt
  have hcs := HO_3.out.cells m hm1 hm2
  rw [← HX.out] at hcs
  obtain ⟨x0, x1, x2, x3, x4, x5, x6, x7, x8⟩ := hcs
  go_upto_region 4 with (fail)
  clear x0 x1 x2 x3 x4 x5 x6 x7 x8
  have hb := below_alloc (Below.refl w1.heap.size w1) (.cells #[.int .i64 0, .int .i64 m, .int .i64 x.f2, .int .i64 h_, .int .i64 v, .int .i64 r, .int .i64 u, .int .i64 s, .bool false] 39)
  have hn := blk_new w1 (.cells #[.int .i64 0, .int .i64 m, .int .i64 x.f2, .int .i64 h_, .int .i64 v, .int .i64 r, .int .i64 u, .int .i64 s, .bool false] 39)
  have HZ2 := lhid (show (World.alloc w1 (.cells #[.int .i64 0, .int .i64 m, .int .i64 x.f2, .int .i64 h_, .int .i64 v, .int .i64 r, .int .i64 u, .int .i64 s, .bool false] 39)).heap.size = w1.heap.size + 1 from by simp)
  generalize hq : World.alloc w1 (.cells #[.int .i64 0, .int .i64 m, .int .i64 x.f2, .int .i64 h_, .int .i64 v, .int .i64 r, .int .i64 u, .int .i64 s, .bool false] 39) = w2 at hb hn HZ2 ⊢
  clear hq
  have HO_6 := lhid (HO_3.out.next hb)
  have HB_7 := lhid (below_then HB_4.out HB_4.out.size hb)
  have BX_8 := lhid (blk_below BX_5.out hb)
  clear HO_3 HB_4 BX_5 hb
  have BG_9 := lhid (hn)
  clear hn
  obtain ⟨gb, hgb⟩ : ∃ q, q = w1.heap.size := ⟨_, rfl⟩
  rw [← hgb] at BG_9 ⊢
  clear hgb
  obtain ⟨hx0, hx1, hx2, hx3, hx4, hx5, hx6, hx7, hx8⟩ := nine BG_9.out
  go_wp2_with fail
  with_reducible refine (custody_may.calls 0 m x.f2 h_ v r u s false true w2 (by rw [may_f]; exact congrArg some hm)).mono ?_
  rintro e w3 ⟨rfl, hb⟩
  have HO_10 := lhid (HO_6.out.next hb)
  have HB_11 := lhid (below_then HB_7.out HB_7.out.size hb)
  have BX_12 := lhid (blk_below BX_8.out hb)
  have BG_13 := lhid (blk_below BG_9.out hb)
  clear HO_6 HB_7 BX_8 BG_9 hb
  clear hx0 hx1 hx2 hx3 hx4 hx5 hx6 hx7 hx8
  go_wp2_with fail
  with_reducible refine (custody_person.calls by_ true w3 (by rw [person_f]; exact congrArg some hp)).mono ?_
  rintro e w4 ⟨rfl, nd, hq⟩
  have hb := pw_below_drewN (Below.refl w3.heap.size w3) nd
  rw [← hq] at hb
  clear hq
  have HO_14 := lhid (HO_10.out.next hb)
  have HB_15 := lhid (below_then HB_11.out HB_11.out.size hb)
  have BX_16 := lhid (blk_below BX_12.out hb)
  have BG_17 := lhid (blk_below BG_13.out hb)
  clear HO_10 HB_11 BX_12 BG_13 hb
  go_wp2_with fail
  with_reducible refine (refuse_no _ 2).mono ?_
  rintro e w' ⟨rfl, rfl⟩
  have HR := lhid (show ((by_ == x.f3) && stB day G m && (bits .and .i64 x.f5 2 != 0) && ((bits .andNot .i64 v x.f4 == 0) && (bits .andNot .i64 r x.f5 == 0) && decide (u ≤ x.f6)) && (decide (x.f7 = -1) || (!decide (s = -1) && decide (s ≤ x.f7)))) = true by rw [HX.out]; exact HH.out)
  clear HH
  have hr := HR.out
  simp only [Bool.and_eq_true] at hr
  obtain ⟨⟨⟨⟨c1, c2⟩, c3⟩, ⟨c4, c5⟩, c6⟩, c7⟩ := hr
  clear HR
  have d1 : (by_ != x.f3) = false := bne_eq_false_iff_eq.mpr (beq_iff_eq.mp c1)
  have d3 : (bits .and .i64 x.f5 2 == 0) = false := beq_eq_false_iff_ne.mpr (bne_iff_ne.mp c3)
  have d4 : (bits .andNot .i64 v x.f4 != 0) = false := bne_eq_false_iff_eq.mpr (beq_iff_eq.mp c4)
  have d5 : (bits .andNot .i64 r x.f5 != 0) = false := bne_eq_false_iff_eq.mpr (beq_iff_eq.mp c5)
  have hu6 := of_decide_eq_true c6
  have d6 : decide (u > x.f6) = false := decide_eq_false (by omega)
  clear c1 c3 c4 c5 c6 hu6
  have hcs := HO_14.out.cells m hm1 hm2
  rw [← HX.out] at hcs
  obtain ⟨x0, x1, x2, x3, x4, x5, x6, x7, x8⟩ := hcs
  go_wp2_with fail
  with_reducible refine (stands_calls base g F w4 day G E m HO_14.out.bk HT.out (by omega) (by omega)).mono ?_
  rintro e w5 ⟨rfl, hb⟩
  have HO_18 := lhid (HO_14.out.next hb)
  have HB_19 := lhid (below_then HB_15.out HB_15.out.size hb)
  have BX_20 := lhid (blk_below BX_16.out hb)
  have BG_21 := lhid (blk_below BG_17.out hb)
  clear HO_14 HB_15 BX_16 BG_17 hb
  clear x0 x1 x2 x3 x4 x5 x6 x7 x8
  rw [Int.toNat_natCast, c2]
  clear c2
  have hcs := HO_18.out.cells m hm1 hm2
  rw [← HX.out] at hcs
  obtain ⟨x0, x1, x2, x3, x4, x5, x6, x7, x8⟩ := hcs
  go_wp2_with fail
  with_reducible refine (refuse_no _ 12).mono ?_
  rintro e w' ⟨rfl, rfl⟩
  clear x0 x1 x2 x3 x4 x5 x6 x7 x8
  clear d1 d3
  have hcs := HO_18.out.cells m hm1 hm2
  rw [← HX.out] at hcs
  obtain ⟨x0, x1, x2, x3, x4, x5, x6, x7, x8⟩ := hcs
  go_wp2_with fail
  with_reducible refine (refuse_no _ 12).mono ?_
  rintro e w' ⟨rfl, rfl⟩
  clear x0 x1 x2 x3 x4 x5 x6 x7 x8
  clear d4 d5 d6
  by_cases c8 : x.f7 = -1
  · have d7 : (x.f7 != -1) = false := bne_eq_false_iff_eq.mpr c8
    have hcs := HO_18.out.cells m hm1 hm2
    rw [← HX.out] at hcs
    obtain ⟨x0, x1, x2, x3, x4, x5, x6, x7, x8⟩ := hcs
    go_wp2_with fail
    with_reducible refine (refuse_no _ 12).mono ?_
    rintro e w' ⟨rfl, rfl⟩
    clear x0 x1 x2 x3 x4 x5 x6 x7 x8
    obtain ⟨hx0, hx1, hx2, hx3, hx4, hx5, hx6, hx7, hx8⟩ := nine BG_21.out
    go_wp2_with fail
    with_reducible refine (add_full base g F w5 day G E ⟨0, m, x.f2, h_, v, r, u, s, false⟩ HO_18.out.bk hl2).mono ?_
    rintro e w6 ⟨rfl, hb⟩
    have HO_22 := lhid (HO_18.out.next hb)
    have HB_23 := lhid (below_then HB_19.out HB_19.out.size hb)
    have BX_24 := lhid (blk_below BX_20.out hb)
    have BG_25 := lhid (blk_below BG_21.out hb)
    clear HO_18 HB_19 BX_20 BG_21 hb
    refine leaves_cons (f := 45) (args := #[.pointer (some ⟨w.heap.size, 0, none⟩)]) (by simp) (by simp [go_sem]) ?_
    refine (catch45_panicking ⟨w.heap.size, 0, none⟩ 0 8 [] _ (blk_cell BX_24.out 0) (blk_frozen BX_24.out 0)).mono ?_
    rintro e u' w'' ⟨rfl, rfl, w1, hb, rfl⟩
    have hbw := (below_then HB_23.out HB_23.out.size hb).setCell (p := ⟨w.heap.size, 0, none⟩) (Nat.le_refl _) (.int .i64 8)
    have hcw := blk_cell (blk_put (blk_below BX_24.out hb) 0 (.int .i64 8) rfl) 0
    simp [Leaves, settle, results, Try.results16, go_sem, hcw]
    exact hbw
  · have d7 : (x.f7 != -1) = true := bne_iff_ne.mpr c8
    have c9 : s ≠ -1 ∧ s ≤ x.f7 := by simpa [c8] using c7
    have d8 : (s == -1) = false := beq_eq_false_iff_ne.mpr c9.1
    have hs9 := c9.2
    have d9 : decide (s > x.f7) = false := decide_eq_false (by omega)
    clear c9 c7 hs9
    have hcs := HO_18.out.cells m hm1 hm2
    rw [← HX.out] at hcs
    obtain ⟨x0, x1, x2, x3, x4, x5, x6, x7, x8⟩ := hcs
    go_wp2_with fail
    with_reducible refine (refuse_no _ 12).mono ?_
    rintro e w' ⟨rfl, rfl⟩
    clear x0 x1 x2 x3 x4 x5 x6 x7 x8
    obtain ⟨hx0, hx1, hx2, hx3, hx4, hx5, hx6, hx7, hx8⟩ := nine BG_21.out
    go_wp2_with fail
    with_reducible refine (add_full base g F w5 day G E ⟨0, m, x.f2, h_, v, r, u, s, false⟩ HO_18.out.bk hl2).mono ?_
    rintro e w6 ⟨rfl, hb⟩
    have HO_26 := lhid (HO_18.out.next hb)
    have HB_27 := lhid (below_then HB_19.out HB_19.out.size hb)
    have BX_28 := lhid (blk_below BX_20.out hb)
    have BG_29 := lhid (blk_below BG_21.out hb)
    clear HO_18 HB_19 BX_20 BG_21 hb
    refine leaves_cons (f := 45) (args := #[.pointer (some ⟨w.heap.size, 0, none⟩)]) (by simp) (by simp [go_sem]) ?_
    refine (catch45_panicking ⟨w.heap.size, 0, none⟩ 0 8 [] _ (blk_cell BX_28.out 0) (blk_frozen BX_28.out 0)).mono ?_
    rintro e u' w'' ⟨rfl, rfl, w1, hb, rfl⟩
    have hbw := (below_then HB_27.out HB_27.out.size hb).setCell (p := ⟨w.heap.size, 0, none⟩) (Nat.le_refl _) (.int .i64 8)
    have hcw := blk_cell (blk_put (blk_below BX_28.out hb) 0 (.int .i64 8) rfl) 0
    simp [Leaves, settle, results, Try.results16, go_sem, hcw]
    exact hbw
theorem Pass_ok (base g : Nat) (F : Nat → Prop) (w : World) (day : Int) (G : List S39) (E : List S44) (n by_ h_ v r u s : Int) (h : BK base F w g day G E) (hT : Tree G) (h1 : 1 ≤ n) (h2 : n ≤ G.length) (hm : mayB h_ v r u s = true) (hp : perB by_ = true) (hh : rightB day G n.toNat by_ v r u s = true) (hl2 : G.length < 128) : Calls Try.prog 16 #[.pointer (some ⟨g, 0, none⟩), .int .i64 n, .int .i64 by_, .int .i64 h_, .int .i64 v, .int .i64 r, .int .i64 u, .int .i64 s] w fun e w' => e = .returned (.tuple #[.int .i64 ((G.length : Int) + 1), .int .i64 0]) ∧ Got base F w w' g day (G ++ [newG G ⟨0, n, (gr G n.toNat).f2, h_, v, r, u, s, false⟩]) E := by
  have hu70 := Try.underlying70
  have hu39 := Try.underlying39
  obtain ⟨AG, cG, AE, cE, ho⟩ := h.opn
  obtain ⟨b, hA, hFb⟩ := ho.ad (by omega)
  subst hA
  have hl := hT.1
  obtain ⟨m, rfl⟩ : ∃ m : Nat, n = m := ⟨n.toNat, by omega⟩
  have hm1 : 1 ≤ m := by omega
  have hm2 : m ≤ G.length := by omega
  have HT := lhid hT
  have HF := lhid (show ∀ k, F k → k < w.heap.size from fun k q => (h.fb k q).2)
  clear h hT
  have HO_1 := lhid (ho)
  clear ho
  rw [Int.toNat_natCast] at hh
  have HH := lhid hh
  clear hh
  obtain ⟨x, hx⟩ : ∃ x, x = gr G m := ⟨_, rfl⟩
  have HX := lhid hx
  clear hx
  have hmf : ∀ (fn : Fn) (first cap : Array Value) (w : World), (Instr.makeFunc fn first cap).run Try.prog w = .ok (.func fn first cap) w := fun _ _ _ _ => rfl
  go_enter_defers Try.func16, Try.ntmps16
  go_upto_region 2 with (fail)
  have HB_2 := lhid (Below.refl w.heap.size w)
  have hb := below_alloc (Below.refl w.heap.size w) (.cells #[.int .i64 0] 24)
  have hn := blk_new w (.cells #[.int .i64 0] 24)
  have HZ1 := lhid (show (World.alloc w (.cells #[.int .i64 0] 24)).heap.size = w.heap.size + 1 from by simp)
  generalize hq : World.alloc w (.cells #[.int .i64 0] 24) = w1 at hb hn HZ1 ⊢
  clear hq
  have HO_3 := lhid (HO_1.out.next hb)
  have HB_4 := lhid (below_then HB_2.out HB_2.out.size hb)
  clear HO_1 HB_2 hb
  have BX_5 := lhid (hn)
  clear hn
  clear hmf
  go_wp2_with fail
  with_reducible refine (get_some base g F w1 day G E cG AE cE b m HO_3.out (by omega) (by omega) (by omega)).mono ?_
  rintro e w' ⟨rfl, rfl⟩
  rw [Int.toNat_natCast]
  unfold pt
  have hcs := HO_3.out.cells m hm1 hm2
  rw [← HX.out] at hcs
  obtain ⟨x0, x1, x2, x3, x4, x5, x6, x7, x8⟩ := hcs
  go_upto_region 4 with (fail)
  clear x0 x1 x2 x3 x4 x5 x6 x7 x8
  have hb := below_alloc (Below.refl w1.heap.size w1) (.cells #[.int .i64 0, .int .i64 m, .int .i64 x.f2, .int .i64 h_, .int .i64 v, .int .i64 r, .int .i64 u, .int .i64 s, .bool false] 39)
  have hn := blk_new w1 (.cells #[.int .i64 0, .int .i64 m, .int .i64 x.f2, .int .i64 h_, .int .i64 v, .int .i64 r, .int .i64 u, .int .i64 s, .bool false] 39)
  have HZ2 := lhid (show (World.alloc w1 (.cells #[.int .i64 0, .int .i64 m, .int .i64 x.f2, .int .i64 h_, .int .i64 v, .int .i64 r, .int .i64 u, .int .i64 s, .bool false] 39)).heap.size = w1.heap.size + 1 from by simp)
  generalize hq : World.alloc w1 (.cells #[.int .i64 0, .int .i64 m, .int .i64 x.f2, .int .i64 h_, .int .i64 v, .int .i64 r, .int .i64 u, .int .i64 s, .bool false] 39) = w2 at hb hn HZ2 ⊢
  clear hq
  have HO_6 := lhid (HO_3.out.next hb)
  have HB_7 := lhid (below_then HB_4.out HB_4.out.size hb)
  have BX_8 := lhid (blk_below BX_5.out hb)
  clear HO_3 HB_4 BX_5 hb
  have BG_9 := lhid (hn)
  clear hn
  obtain ⟨gb, hgb⟩ : ∃ q, q = w1.heap.size := ⟨_, rfl⟩
  rw [← hgb] at BG_9 ⊢
  clear hgb
  obtain ⟨hx0, hx1, hx2, hx3, hx4, hx5, hx6, hx7, hx8⟩ := nine BG_9.out
  go_wp2_with fail
  with_reducible refine (custody_may.calls 0 m x.f2 h_ v r u s false true w2 (by rw [may_f]; exact congrArg some hm)).mono ?_
  rintro e w3 ⟨rfl, hb⟩
  have HO_10 := lhid (HO_6.out.next hb)
  have HB_11 := lhid (below_then HB_7.out HB_7.out.size hb)
  have BX_12 := lhid (blk_below BX_8.out hb)
  have BG_13 := lhid (blk_below BG_9.out hb)
  clear HO_6 HB_7 BX_8 BG_9 hb
  clear hx0 hx1 hx2 hx3 hx4 hx5 hx6 hx7 hx8
  go_wp2_with fail
  with_reducible refine (custody_person.calls by_ true w3 (by rw [person_f]; exact congrArg some hp)).mono ?_
  rintro e w4 ⟨rfl, nd, hq⟩
  have hb := pw_below_drewN (Below.refl w3.heap.size w3) nd
  rw [← hq] at hb
  clear hq
  have HO_14 := lhid (HO_10.out.next hb)
  have HB_15 := lhid (below_then HB_11.out HB_11.out.size hb)
  have BX_16 := lhid (blk_below BX_12.out hb)
  have BG_17 := lhid (blk_below BG_13.out hb)
  clear HO_10 HB_11 BX_12 BG_13 hb
  go_wp2_with fail
  with_reducible refine (refuse_no _ 2).mono ?_
  rintro e w' ⟨rfl, rfl⟩
  have HR := lhid (show ((by_ == x.f3) && stB day G m && (bits .and .i64 x.f5 2 != 0) && ((bits .andNot .i64 v x.f4 == 0) && (bits .andNot .i64 r x.f5 == 0) && decide (u ≤ x.f6)) && (decide (x.f7 = -1) || (!decide (s = -1) && decide (s ≤ x.f7)))) = true by rw [HX.out]; exact HH.out)
  clear HH
  have hr := HR.out
  simp only [Bool.and_eq_true] at hr
  obtain ⟨⟨⟨⟨c1, c2⟩, c3⟩, ⟨c4, c5⟩, c6⟩, c7⟩ := hr
  clear HR
  have d1 : (by_ != x.f3) = false := bne_eq_false_iff_eq.mpr (beq_iff_eq.mp c1)
  have d3 : (bits .and .i64 x.f5 2 == 0) = false := beq_eq_false_iff_ne.mpr (bne_iff_ne.mp c3)
  have d4 : (bits .andNot .i64 v x.f4 != 0) = false := bne_eq_false_iff_eq.mpr (beq_iff_eq.mp c4)
  have d5 : (bits .andNot .i64 r x.f5 != 0) = false := bne_eq_false_iff_eq.mpr (beq_iff_eq.mp c5)
  have hu6 := of_decide_eq_true c6
  have d6 : decide (u > x.f6) = false := decide_eq_false (by omega)
  clear c1 c3 c4 c5 c6 hu6
  have hcs := HO_14.out.cells m hm1 hm2
  rw [← HX.out] at hcs
  obtain ⟨x0, x1, x2, x3, x4, x5, x6, x7, x8⟩ := hcs
  go_wp2_with fail
  with_reducible refine (stands_calls base g F w4 day G E m HO_14.out.bk HT.out (by omega) (by omega)).mono ?_
  rintro e w5 ⟨rfl, hb⟩
  have HO_18 := lhid (HO_14.out.next hb)
  have HB_19 := lhid (below_then HB_15.out HB_15.out.size hb)
  have BX_20 := lhid (blk_below BX_16.out hb)
  have BG_21 := lhid (blk_below BG_17.out hb)
  clear HO_14 HB_15 BX_16 BG_17 hb
  clear x0 x1 x2 x3 x4 x5 x6 x7 x8
  rw [Int.toNat_natCast, c2]
  clear c2
  have hcs := HO_18.out.cells m hm1 hm2
  rw [← HX.out] at hcs
  obtain ⟨x0, x1, x2, x3, x4, x5, x6, x7, x8⟩ := hcs
  go_wp2_with fail
  with_reducible refine (refuse_no _ 12).mono ?_
  rintro e w' ⟨rfl, rfl⟩
  clear x0 x1 x2 x3 x4 x5 x6 x7 x8
  clear d1 d3
  have hcs := HO_18.out.cells m hm1 hm2
  rw [← HX.out] at hcs
  obtain ⟨x0, x1, x2, x3, x4, x5, x6, x7, x8⟩ := hcs
  go_wp2_with fail
  with_reducible refine (refuse_no _ 12).mono ?_
  rintro e w' ⟨rfl, rfl⟩
  clear x0 x1 x2 x3 x4 x5 x6 x7 x8
  clear d4 d5 d6
  by_cases c8 : x.f7 = -1
  · have d7 : (x.f7 != -1) = false := bne_eq_false_iff_eq.mpr c8
    have hcs := HO_18.out.cells m hm1 hm2
    rw [← HX.out] at hcs
    obtain ⟨x0, x1, x2, x3, x4, x5, x6, x7, x8⟩ := hcs
    go_wp2_with fail
    with_reducible refine (refuse_no _ 12).mono ?_
    rintro e w' ⟨rfl, rfl⟩
    clear x0 x1 x2 x3 x4 x5 x6 x7 x8
    obtain ⟨hx0, hx1, hx2, hx3, hx4, hx5, hx6, hx7, hx8⟩ := nine BG_21.out
    go_wp2_with fail
    clear hx0 hx1 hx2 hx3 hx4 hx5 hx6 hx7 hx8
    with_reducible refine (add_calls base g F w5 day G E ⟨0, m, x.f2, h_, v, r, u, s, false⟩ HO_18.out.bk hl2).mono ?_
    rintro e w7 ⟨rfl, hbk, hch⟩
    have HG := lhid (show Got base F w5 w7 g day (G ++ [newG G ⟨0, m, x.f2, h_, v, r, u, s, false⟩]) E from ⟨_, hbk, fun k q => q.imp_right (fun r => r.1), hch⟩)
    have HX7 := lhid (hch.blk BX_20.out (fun q => by have := HF.out _ q; omega))
    have HLT := lhid (blk_lt BX_20.out)
    rw [HX.out] at HG
    clear hbk hch
    have hxc := blk_cell HX7.out 0
    have hxz : ∀ o, w7.frozen? ⟨w.heap.size, o, none⟩ = false := fun o => blk_frozen HX7.out o
    simp only [List.getElem?_toArray, List.getElem?_cons_zero] at hxc
    go_wp2_with fail
    have hz8 := blk_put HX7.out 0 (.int .i64 0) rfl
    have hg8 : Got base F w (World.setCell (World.setCell w7 ⟨w.heap.size, 0, none⟩ (.int .i64 0)) ⟨w.heap.size, 0, none⟩ (.int .i64 0)).drew _ _ _ _ := Got.box HG.out HB_19.out (p := ⟨w.heap.size, 0, none⟩) (Nat.le_refl _) HLT.out HF.out (.int .i64 0) (.int .i64 0)
    generalize World.setCell w7 ⟨w.heap.size, 0, none⟩ (.int .i64 0) = w8 at hz8 hg8 ⊢
    have hcw := blk_cell (blk_put hz8 0 (.int .i64 0) rfl) 0
    have hc8 := blk_cell hz8 0
    have hf8 := blk_frozen hz8 0
    simp only [List.getElem?_toArray, List.getElem?_cons_zero, Array.setIfInBounds_def, List.size_toArray] at hc8 hcw
    refine leaves_cons (f := 45) (args := #[.pointer (some ⟨w.heap.size, 0, none⟩)]) (by simp) (by simp [go_sem]) ?_
    refine (catch45_idle ⟨w.heap.size, 0, none⟩ 0 w8 (by simpa using hc8) hf8).mono ?_
    rintro e u' w'' ⟨rfl, rfl, rfl⟩
    simp [Leaves, settle, results, Try.results16, go_sem, hcw]
    first | exact hg8 | (rw [List.foldl_append] at hg8; exact hg8)
  · have d7 : (x.f7 != -1) = true := bne_iff_ne.mpr c8
    have c9 : s ≠ -1 ∧ s ≤ x.f7 := by simpa [c8] using c7
    have d8 : (s == -1) = false := beq_eq_false_iff_ne.mpr c9.1
    have hs9 := c9.2
    have d9 : decide (s > x.f7) = false := decide_eq_false (by omega)
    clear c9 c7 hs9
    have hcs := HO_18.out.cells m hm1 hm2
    rw [← HX.out] at hcs
    obtain ⟨x0, x1, x2, x3, x4, x5, x6, x7, x8⟩ := hcs
    go_wp2_with fail
    with_reducible refine (refuse_no _ 12).mono ?_
    rintro e w' ⟨rfl, rfl⟩
    clear x0 x1 x2 x3 x4 x5 x6 x7 x8
    obtain ⟨hx0, hx1, hx2, hx3, hx4, hx5, hx6, hx7, hx8⟩ := nine BG_21.out
    go_wp2_with fail
    clear hx0 hx1 hx2 hx3 hx4 hx5 hx6 hx7 hx8
    with_reducible refine (add_calls base g F w5 day G E ⟨0, m, x.f2, h_, v, r, u, s, false⟩ HO_18.out.bk hl2).mono ?_
    rintro e w7 ⟨rfl, hbk, hch⟩
    have HG := lhid (show Got base F w5 w7 g day (G ++ [newG G ⟨0, m, x.f2, h_, v, r, u, s, false⟩]) E from ⟨_, hbk, fun k q => q.imp_right (fun r => r.1), hch⟩)
    have HX7 := lhid (hch.blk BX_20.out (fun q => by have := HF.out _ q; omega))
    have HLT := lhid (blk_lt BX_20.out)
    rw [HX.out] at HG
    clear hbk hch
    have hxc := blk_cell HX7.out 0
    have hxz : ∀ o, w7.frozen? ⟨w.heap.size, o, none⟩ = false := fun o => blk_frozen HX7.out o
    simp only [List.getElem?_toArray, List.getElem?_cons_zero] at hxc
    go_wp2_with fail
    have hz8 := blk_put HX7.out 0 (.int .i64 0) rfl
    have hg8 : Got base F w (World.setCell (World.setCell w7 ⟨w.heap.size, 0, none⟩ (.int .i64 0)) ⟨w.heap.size, 0, none⟩ (.int .i64 0)).drew _ _ _ _ := Got.box HG.out HB_19.out (p := ⟨w.heap.size, 0, none⟩) (Nat.le_refl _) HLT.out HF.out (.int .i64 0) (.int .i64 0)
    generalize World.setCell w7 ⟨w.heap.size, 0, none⟩ (.int .i64 0) = w8 at hz8 hg8 ⊢
    have hcw := blk_cell (blk_put hz8 0 (.int .i64 0) rfl) 0
    have hc8 := blk_cell hz8 0
    have hf8 := blk_frozen hz8 0
    simp only [List.getElem?_toArray, List.getElem?_cons_zero, Array.setIfInBounds_def, List.size_toArray] at hc8 hcw
    refine leaves_cons (f := 45) (args := #[.pointer (some ⟨w.heap.size, 0, none⟩)]) (by simp) (by simp [go_sem]) ?_
    refine (catch45_idle ⟨w.heap.size, 0, none⟩ 0 w8 (by simpa using hc8) hf8).mono ?_
    rintro e u' w'' ⟨rfl, rfl, rfl⟩
    simp [Leaves, settle, results, Try.results16, go_sem, hcw]
    first | exact hg8 | (rw [List.foldl_append] at hg8; exact hg8)
end Go.Proofs.Ytfnlghjkjmppdaa.PC
namespace Go.Proofs.Ytfnlghjkjmppdaa.PC
open Go.RowKit Go.Proofs.YtfnlghjkjmppdaaW.PrintWords Go.Proofs.YtfnlghjkjmppdaaW.PrintLast Go.Proofs.YtfnlghjkjmppdaaW.PrintMore
set_option linter.unusedVariables false
set_option linter.unusedSimpArgs false
def heldB (G : List S39) (n : Nat) (by_ : Int) : Bool := (up G n).any fun m => (gr G m).f3 == by_
/-- How many grants of a list stand. -/
def cntS (day : Int) (G : List S39) (l : List Int) : Nat := (l.filter fun m => stB day G m.toNat).length
theorem cntS_snoc (day : Int) (G : List S39) (l : List Int) (i : Nat) (h : i < l.length) : cntS day G (l.take (i + 1)) = if stB day G (l[i]).toNat then cntS day G (l.take i) + 1 else cntS day G (l.take i) := by
  unfold cntS
  rw [List.take_succ_eq_append_getElem h, List.filter_append, List.length_append]
  by_cases c : stB day G (l[i]).toNat = true
  · rw [if_pos c]; simp [c]
  · rw [if_neg c]; simp [c]
theorem cntS_le (day : Int) (G : List S39) (l : List Int) : cntS day G l ≤ l.length := List.length_filter_le _ _
theorem belL_mem {G : List S39} {n : Nat} : ∀ {k : Nat} {x : Int}, x ∈ belL G n k → ∃ m : Nat, x = (m : Int) ∧ n + 1 ≤ m ∧ m ≤ n + k ∧ (up G m).contains n = true
  | 0, x, h => by simp [belL] at h
  | k + 1, x, h => by
    unfold belL at h
    split at h
    · rename_i c
      rcases List.mem_append.1 h with h | h
      · obtain ⟨m, h1, h2, h3, h4⟩ := belL_mem h
        exact ⟨m, h1, h2, by omega, h4⟩
      · simp only [List.mem_singleton] at h
        exact ⟨n + k + 1, h, by omega, by omega, c⟩
    · obtain ⟨m, h1, h2, h3, h4⟩ := belL_mem h
      exact ⟨m, h1, h2, by omega, h4⟩
theorem int_at {w : World} {A : Option Addr} {xs : List Int} {n : Nat} (h : Kd.C (Kd.int .i64) w A n xs) (i : Nat) (hi : i < xs.length) : ∃ ad, A = some ad ∧ w.cell? (ad.add i) = some (.int .i64 (xs[i])) := by
  have hn : n = xs.length := h.1.symm
  obtain ⟨ad, c, e, _, hK, hc⟩ := Kd.C_get h 0 (i : Int) (by omega) (by omega)
  refine ⟨ad, e, ?_⟩
  have hK' : c = [Value.int .i64 (xs.getD (i : Int).toNat 0)] := hK
  subst hK'
  have this : w.cell? (ad.add ((i : Int).toNat * 1 + 0)) = some (Value.int .i64 (xs.getD (i : Int).toNat 0)) := hc 0 _ rfl
  rw [Int.toNat_natCast, List.getD_eq_getElem?_getD, List.getElem?_eq_getElem hi] at this
  simpa using this
theorem Revoke_nil (w : World) (v : Value) (n by_ : Int) (h : NoBook w v) : Calls Try.prog 31 #[v, .int .i64 n, .int .i64 by_] w fun e w' => e = .returned (.tuple #[.int .i64 0, .int .i64 1]) ∧ Below w.heap.size w w' := by
  have HN := lhid h
  clear h
  have hmf : ∀ (fn : Fn) (first cap : Array Value) (w : World), (Instr.makeFunc fn first cap).run Try.prog w = .ok (.func fn first cap) w := fun _ _ _ _ => rfl
  go_enter_defers Try.func31, Try.ntmps31
  go_upto_region 2 with (fail)
  have HB_1 := lhid (Below.refl w.heap.size w)
  have hb := below_alloc (Below.refl w.heap.size w) (.cells #[.int .i64 by_] 3)
  have hn := blk_new w (.cells #[.int .i64 by_] 3)
  have HZ1 := lhid (show (World.alloc w (.cells #[.int .i64 by_] 3)).heap.size = w.heap.size + 1 from by simp)
  generalize hq : World.alloc w (.cells #[.int .i64 by_] 3) = w1 at hb hn HZ1 ⊢
  clear hq
  have HN_2 := lhid (HN.out.next hb)
  have HB_3 := lhid (below_then HB_1.out HB_1.out.size hb)
  clear HN HB_1 hb
  have BY_4 := lhid (hn)
  clear hn
  have hb := below_alloc (Below.refl w1.heap.size w1) (.cells #[.int .i64 0] 24)
  have hn := blk_new w1 (.cells #[.int .i64 0] 24)
  have HZ2 := lhid (show (World.alloc w1 (.cells #[.int .i64 0] 24)).heap.size = w1.heap.size + 1 from by simp)
  generalize hq : World.alloc w1 (.cells #[.int .i64 0] 24) = w2 at hb hn HZ2 ⊢
  clear hq
  have HN_5 := lhid (HN_2.out.next hb)
  have HB_6 := lhid (below_then HB_3.out HB_3.out.size hb)
  have BY_7 := lhid (blk_below BY_4.out hb)
  clear HN_2 HB_3 BY_4 hb
  rw [HZ1.out] at hn
  have BX_8 := lhid (hn)
  clear hn
  clear hmf
  go_wp2_with fail
  with_reducible refine (get_nil w2 v n HN_5.out).mono ?_
  rintro e w' ⟨rfl, rfl⟩
  refine leaves_cons (f := 59) (args := #[.pointer (some ⟨w.heap.size + 1, 0, none⟩)]) (by simp) (by simp [go_sem]) ?_
  refine (catch59_panicking ⟨w.heap.size + 1, 0, none⟩ 0 1 [] _ (blk_cell BX_8.out 0) (blk_frozen BX_8.out 0)).mono ?_
  rintro e u' w'' ⟨rfl, rfl, w1, hb, rfl⟩
  have hbw := (below_then HB_6.out HB_6.out.size hb).setCell (p := ⟨w.heap.size + 1, 0, none⟩) (Nat.le_add_right _ _) (.int .i64 1)
  have hcw := blk_cell (blk_put (blk_below BX_8.out hb) 0 (.int .i64 1) rfl) 0
  simp [Leaves, settle, results, Try.results31, go_sem, hcw]
  exact hbw
theorem Revoke_none (base g : Nat) (F : Nat → Prop) (w : World) (day : Int) (G : List S39) (E : List S44) (n by_ : Int) (h : BK base F w g day G E) (hn : ¬ (1 ≤ n ∧ n ≤ G.length)) : Calls Try.prog 31 #[.pointer (some ⟨g, 0, none⟩), .int .i64 n, .int .i64 by_] w fun e w' => e = .returned (.tuple #[.int .i64 0, .int .i64 6]) ∧ Below w.heap.size w w' := by
  have HBK := lhid h
  clear h
  have hmf : ∀ (fn : Fn) (first cap : Array Value) (w : World), (Instr.makeFunc fn first cap).run Try.prog w = .ok (.func fn first cap) w := fun _ _ _ _ => rfl
  go_enter_defers Try.func31, Try.ntmps31
  go_upto_region 2 with (fail)
  have HB_1 := lhid (Below.refl w.heap.size w)
  have hb := below_alloc (Below.refl w.heap.size w) (.cells #[.int .i64 by_] 3)
  have hn := blk_new w (.cells #[.int .i64 by_] 3)
  have HZ1 := lhid (show (World.alloc w (.cells #[.int .i64 by_] 3)).heap.size = w.heap.size + 1 from by simp)
  generalize hq : World.alloc w (.cells #[.int .i64 by_] 3) = w1 at hb hn HZ1 ⊢
  clear hq
  have HBK_2 := lhid (HBK.out.next hb)
  have HB_3 := lhid (below_then HB_1.out HB_1.out.size hb)
  clear HBK HB_1 hb
  have BY_4 := lhid (hn)
  clear hn
  have hb := below_alloc (Below.refl w1.heap.size w1) (.cells #[.int .i64 0] 24)
  have hn := blk_new w1 (.cells #[.int .i64 0] 24)
  have HZ2 := lhid (show (World.alloc w1 (.cells #[.int .i64 0] 24)).heap.size = w1.heap.size + 1 from by simp)
  generalize hq : World.alloc w1 (.cells #[.int .i64 0] 24) = w2 at hb hn HZ2 ⊢
  clear hq
  have HBK_5 := lhid (HBK_2.out.next hb)
  have HB_6 := lhid (below_then HB_3.out HB_3.out.size hb)
  have BY_7 := lhid (blk_below BY_4.out hb)
  clear HBK_2 HB_3 BY_4 hb
  rw [HZ1.out] at hn
  have BX_8 := lhid (hn)
  clear hn
  clear hmf
  go_wp2_with fail
  with_reducible refine (get_none base g F w2 day G E n HBK_5.out hn).mono ?_
  rintro e w' ⟨rfl, rfl⟩
  refine leaves_cons (f := 59) (args := #[.pointer (some ⟨w.heap.size + 1, 0, none⟩)]) (by simp) (by simp [go_sem]) ?_
  refine (catch59_panicking ⟨w.heap.size + 1, 0, none⟩ 0 6 [] _ (blk_cell BX_8.out 0) (blk_frozen BX_8.out 0)).mono ?_
  rintro e u' w'' ⟨rfl, rfl, w1, hb, rfl⟩
  have hbw := (below_then HB_6.out HB_6.out.size hb).setCell (p := ⟨w.heap.size + 1, 0, none⟩) (Nat.le_add_right _ _) (.int .i64 6)
  have hcw := blk_cell (blk_put (blk_below BX_8.out hb) 0 (.int .i64 6) rfl) 0
  simp [Leaves, settle, results, Try.results31, go_sem, hcw]
  exact hbw
theorem Revoke_per (base g : Nat) (F : Nat → Prop) (w : World) (day : Int) (G : List S39) (E : List S44) (n by_ : Int) (h : BK base F w g day G E) (hT : Tree G) (h1 : 1 ≤ n) (h2 : n ≤ G.length) (hp : perB by_ = false) : Calls Try.prog 31 #[.pointer (some ⟨g, 0, none⟩), .int .i64 n, .int .i64 by_] w fun e w' => e = .returned (.tuple #[.int .i64 0, .int .i64 2]) ∧ Below w.heap.size w w' := by
  have hu70 := Try.underlying70
  have hu39 := Try.underlying39
  obtain ⟨AG, cG, AE, cE, ho⟩ := h.opn
  obtain ⟨b, hA, hFb⟩ := ho.ad (by omega)
  subst hA
  have hl := hT.1
  obtain ⟨m, rfl⟩ : ∃ m : Nat, n = m := ⟨n.toNat, by omega⟩
  have hm1 : 1 ≤ m := by omega
  have hm2 : m ≤ G.length := by omega
  have HT := lhid hT
  have HF := lhid (show ∀ k, F k → k < w.heap.size from fun k q => (h.fb k q).2)
  clear h hT
  try rw [Int.toNat_natCast] at hh
  try rw [Int.toNat_natCast] at hr
  try rw [Int.toNat_natCast]
  have HO_1 := lhid (ho)
  clear ho
  have hmf : ∀ (fn : Fn) (first cap : Array Value) (w : World), (Instr.makeFunc fn first cap).run Try.prog w = .ok (.func fn first cap) w := fun _ _ _ _ => rfl
  go_enter_defers Try.func31, Try.ntmps31
  go_upto_region 2 with (fail)
  have HB_2 := lhid (Below.refl w.heap.size w)
  have hb := below_alloc (Below.refl w.heap.size w) (.cells #[.int .i64 by_] 3)
  have hn := blk_new w (.cells #[.int .i64 by_] 3)
  have HZ1 := lhid (show (World.alloc w (.cells #[.int .i64 by_] 3)).heap.size = w.heap.size + 1 from by simp)
  generalize hq : World.alloc w (.cells #[.int .i64 by_] 3) = w1 at hb hn HZ1 ⊢
  clear hq
  have HO_3 := lhid (HO_1.out.next hb)
  have HB_4 := lhid (below_then HB_2.out HB_2.out.size hb)
  clear HO_1 HB_2 hb
  have BY_5 := lhid (hn)
  clear hn
  have hb := below_alloc (Below.refl w1.heap.size w1) (.cells #[.int .i64 0] 24)
  have hn := blk_new w1 (.cells #[.int .i64 0] 24)
  have HZ2 := lhid (show (World.alloc w1 (.cells #[.int .i64 0] 24)).heap.size = w1.heap.size + 1 from by simp)
  generalize hq : World.alloc w1 (.cells #[.int .i64 0] 24) = w2 at hb hn HZ2 ⊢
  clear hq
  have HO_6 := lhid (HO_3.out.next hb)
  have HB_7 := lhid (below_then HB_4.out HB_4.out.size hb)
  have BY_8 := lhid (blk_below BY_5.out hb)
  clear HO_3 HB_4 BY_5 hb
  rw [HZ1.out] at hn
  have BX_9 := lhid (hn)
  clear hn
  clear hmf
  go_wp2_with fail
  with_reducible refine (get_some base g F w2 day G E cG AE cE b m HO_6.out (by omega) (by omega) (by omega)).mono ?_
  rintro e w' ⟨rfl, rfl⟩
  rw [Int.toNat_natCast]
  unfold pt
  have hby := blk_cell BY_8.out 0
  simp only [List.getElem?_toArray, List.getElem?_cons_zero] at hby
  go_wp2_with fail
  with_reducible refine (custody_person.calls by_ false w2 (by rw [person_f]; exact congrArg some hp)).mono ?_
  rintro e w3 ⟨rfl, nd, hq⟩
  have hb := pw_below_drewN (Below.refl w2.heap.size w2) nd
  rw [← hq] at hb
  clear hq
  have HO_10 := lhid (HO_6.out.next hb)
  have HB_11 := lhid (below_then HB_7.out HB_7.out.size hb)
  have BY_12 := lhid (blk_below BY_8.out hb)
  have BX_13 := lhid (blk_below BX_9.out hb)
  clear HO_6 HB_7 BY_8 BX_9 hb
  go_wp2_with fail
  with_reducible refine (refuse_yes _ 2).mono ?_
  rintro e w' ⟨rfl, rfl⟩
  refine leaves_cons (f := 59) (args := #[.pointer (some ⟨w.heap.size + 1, 0, none⟩)]) (by simp) (by simp [go_sem]) ?_
  refine (catch59_panicking ⟨w.heap.size + 1, 0, none⟩ 0 2 [] _ (blk_cell BX_13.out 0) (blk_frozen BX_13.out 0)).mono ?_
  rintro e u' w'' ⟨rfl, rfl, w1, hb, rfl⟩
  have hbw := (below_then HB_11.out HB_11.out.size hb).setCell (p := ⟨w.heap.size + 1, 0, none⟩) (Nat.le_add_right _ _) (.int .i64 2)
  have hcw := blk_cell (blk_put (blk_below BX_13.out hb) 0 (.int .i64 2) rfl) 0
  simp [Leaves, settle, results, Try.results31, go_sem, hcw]
  exact hbw
theorem Revoke_held (base g : Nat) (F : Nat → Prop) (w : World) (day : Int) (G : List S39) (E : List S44) (n by_ : Int) (h : BK base F w g day G E) (hT : Tree G) (h1 : 1 ≤ n) (h2 : n ≤ G.length) (hp : perB by_ = true) (hh : heldB G n.toNat by_ = false) : Calls Try.prog 31 #[.pointer (some ⟨g, 0, none⟩), .int .i64 n, .int .i64 by_] w fun e w' => e = .returned (.tuple #[.int .i64 0, .int .i64 12]) ∧ Below w.heap.size w w' := by
  have hu70 := Try.underlying70
  have hu39 := Try.underlying39
  obtain ⟨AG, cG, AE, cE, ho⟩ := h.opn
  obtain ⟨b, hA, hFb⟩ := ho.ad (by omega)
  subst hA
  have hl := hT.1
  obtain ⟨m, rfl⟩ : ∃ m : Nat, n = m := ⟨n.toNat, by omega⟩
  have hm1 : 1 ≤ m := by omega
  have hm2 : m ≤ G.length := by omega
  have HT := lhid hT
  have HF := lhid (show ∀ k, F k → k < w.heap.size from fun k q => (h.fb k q).2)
  clear h hT
  try rw [Int.toNat_natCast] at hh
  try rw [Int.toNat_natCast] at hr
  try rw [Int.toNat_natCast]
  have HO_1 := lhid (ho)
  clear ho
  have hmf : ∀ (fn : Fn) (first cap : Array Value) (w : World), (Instr.makeFunc fn first cap).run Try.prog w = .ok (.func fn first cap) w := fun _ _ _ _ => rfl
  go_enter_defers Try.func31, Try.ntmps31
  go_upto_region 2 with (fail)
  have HB_2 := lhid (Below.refl w.heap.size w)
  have hb := below_alloc (Below.refl w.heap.size w) (.cells #[.int .i64 by_] 3)
  have hn := blk_new w (.cells #[.int .i64 by_] 3)
  have HZ1 := lhid (show (World.alloc w (.cells #[.int .i64 by_] 3)).heap.size = w.heap.size + 1 from by simp)
  generalize hq : World.alloc w (.cells #[.int .i64 by_] 3) = w1 at hb hn HZ1 ⊢
  clear hq
  have HO_3 := lhid (HO_1.out.next hb)
  have HB_4 := lhid (below_then HB_2.out HB_2.out.size hb)
  clear HO_1 HB_2 hb
  have BY_5 := lhid (hn)
  clear hn
  have hb := below_alloc (Below.refl w1.heap.size w1) (.cells #[.int .i64 0] 24)
  have hn := blk_new w1 (.cells #[.int .i64 0] 24)
  have HZ2 := lhid (show (World.alloc w1 (.cells #[.int .i64 0] 24)).heap.size = w1.heap.size + 1 from by simp)
  generalize hq : World.alloc w1 (.cells #[.int .i64 0] 24) = w2 at hb hn HZ2 ⊢
  clear hq
  have HO_6 := lhid (HO_3.out.next hb)
  have HB_7 := lhid (below_then HB_4.out HB_4.out.size hb)
  have BY_8 := lhid (blk_below BY_5.out hb)
  clear HO_3 HB_4 BY_5 hb
  rw [HZ1.out] at hn
  have BX_9 := lhid (hn)
  clear hn
  clear hmf
  go_wp2_with fail
  with_reducible refine (get_some base g F w2 day G E cG AE cE b m HO_6.out (by omega) (by omega) (by omega)).mono ?_
  rintro e w' ⟨rfl, rfl⟩
  rw [Int.toNat_natCast]
  unfold pt
  have hby := blk_cell BY_8.out 0
  simp only [List.getElem?_toArray, List.getElem?_cons_zero] at hby
  go_wp2_with fail
  with_reducible refine (custody_person.calls by_ true w2 (by rw [person_f]; exact congrArg some hp)).mono ?_
  rintro e w3 ⟨rfl, nd, hq⟩
  have hb := pw_below_drewN (Below.refl w2.heap.size w2) nd
  rw [← hq] at hb
  clear hq
  have HO_10 := lhid (HO_6.out.next hb)
  have HB_11 := lhid (below_then HB_7.out HB_7.out.size hb)
  have BY_12 := lhid (blk_below BY_8.out hb)
  have BX_13 := lhid (blk_below BX_9.out hb)
  clear HO_6 HB_7 BY_8 BX_9 hb
  go_wp2_with fail
  with_reducible refine (refuse_no _ 2).mono ?_
  rintro e w' ⟨rfl, rfl⟩
  clear hby
  go_wp2_with fail
  with_reducible refine (up_calls base g F w3 day G E (some ⟨b, 0, none⟩) cG AE cE b m HO_10.out HT.out hm2 (fun _ => rfl)).mono ?_
  rintro e w4 ⟨vu, rfl, hU, hb⟩
  have HU_14 := lhid (Kd.R_lower hU HB_11.out.size)
  clear hU
  have HO_15 := lhid (HO_10.out.next hb)
  have HB_16 := lhid (below_then HB_11.out HB_11.out.size hb)
  have BY_17 := lhid (blk_below BY_12.out hb)
  have BX_18 := lhid (blk_below BX_13.out hb)
  clear HO_10 HB_11 BY_12 BX_13 hb
  obtain ⟨Au, cu, rfl⟩ := Kd.R_slice HU_14.out
  obtain ⟨_, hcu, hCU⟩ := Kd.R_reads' HU_14.out
  have HCU := lhid hCU
  have HHU := lhid hcu
  clear hCU hcu
  rw [List.length_map]
  have HML := lhid (show (up G m).length ≤ 1000 by have := up_len HT.out m m (Nat.le_refl _) hm2; omega)
  have HMM := lhid (show ∀ q ∈ up G m, 1 ≤ q ∧ q ≤ m from fun q hq => up_mem HT.out m m (Nat.le_refl _) hm2 q hq)
  go_wp2_with fail
  (with_reducible refine (has62_calls _ Au cu b (up G m) (fun q => (gr G q).f3) ⟨w.heap.size, 0, none⟩ by_ HCU.out HHU.out HML.out (fun q hq => (HO_15.out.cells q (HMM.out q hq).1 (by have := (HMM.out q hq).2; omega)).2.2.2.1) ((blk_cell BY_17.out 0).trans rfl)).mono ?_)
  rintro e w9 ⟨rfl, nd, hq⟩
  have hb := pw_below_drewN (Below.refl w4.heap.size w4) nd
  rw [← hq] at hb
  clear hq
  obtain ⟨w65, hw9⟩ : ∃ q : World, q = w9 := ⟨_, rfl⟩
  subst hw9
  have HO_19 := lhid (HO_15.out.next hb)
  have HB_20 := lhid (below_then HB_16.out HB_16.out.size hb)
  have BY_21 := lhid (blk_below BY_17.out hb)
  have BX_22 := lhid (blk_below BX_18.out hb)
  have HU_23 := lhid (Kd.R_below HU_14.out hb)
  have CU_24 := lhid (Kd.C_below HCU.out hb)
  clear HO_15 HB_16 BY_17 BX_18 HU_14 HCU hb
  rw [show (up G m).any (fun q => (gr G q).f3 == by_) = false from hh]
  go_wp2_with fail
  with_reducible refine (refuse_yes _ 12).mono ?_
  rintro e w' ⟨rfl, rfl⟩
  refine leaves_cons (f := 59) (args := #[.pointer (some ⟨w.heap.size + 1, 0, none⟩)]) (by simp) (by simp [go_sem]) ?_
  refine (catch59_panicking ⟨w.heap.size + 1, 0, none⟩ 0 12 [] _ (blk_cell BX_22.out 0) (blk_frozen BX_22.out 0)).mono ?_
  rintro e u' w'' ⟨rfl, rfl, w1, hb, rfl⟩
  have hbw := (below_then HB_20.out HB_20.out.size hb).setCell (p := ⟨w.heap.size + 1, 0, none⟩) (Nat.le_add_right _ _) (.int .i64 12)
  have hcw := blk_cell (blk_put (blk_below BX_22.out hb) 0 (.int .i64 12) rfl) 0
  simp [Leaves, settle, results, Try.results31, go_sem, hcw]
  exact hbw
theorem Revoke_state (base g : Nat) (F : Nat → Prop) (w : World) (day : Int) (G : List S39) (E : List S44) (n by_ : Int) (h : BK base F w g day G E) (hT : Tree G) (h1 : 1 ≤ n) (h2 : n ≤ G.length) (hp : perB by_ = true) (hh : heldB G n.toNat by_ = true) (hr : revB G n.toNat = true) : Calls Try.prog 31 #[.pointer (some ⟨g, 0, none⟩), .int .i64 n, .int .i64 by_] w fun e w' => e = .returned (.tuple #[.int .i64 0, .int .i64 9]) ∧ Below w.heap.size w w' := by
  have hu70 := Try.underlying70
  have hu39 := Try.underlying39
  obtain ⟨AG, cG, AE, cE, ho⟩ := h.opn
  obtain ⟨b, hA, hFb⟩ := ho.ad (by omega)
  subst hA
  have hl := hT.1
  obtain ⟨m, rfl⟩ : ∃ m : Nat, n = m := ⟨n.toNat, by omega⟩
  have hm1 : 1 ≤ m := by omega
  have hm2 : m ≤ G.length := by omega
  have HT := lhid hT
  have HF := lhid (show ∀ k, F k → k < w.heap.size from fun k q => (h.fb k q).2)
  clear h hT
  try rw [Int.toNat_natCast] at hh
  try rw [Int.toNat_natCast] at hr
  try rw [Int.toNat_natCast]
  have HO_1 := lhid (ho)
  clear ho
  have hmf : ∀ (fn : Fn) (first cap : Array Value) (w : World), (Instr.makeFunc fn first cap).run Try.prog w = .ok (.func fn first cap) w := fun _ _ _ _ => rfl
  go_enter_defers Try.func31, Try.ntmps31
  go_upto_region 2 with (fail)
  have HB_2 := lhid (Below.refl w.heap.size w)
  have hb := below_alloc (Below.refl w.heap.size w) (.cells #[.int .i64 by_] 3)
  have hn := blk_new w (.cells #[.int .i64 by_] 3)
  have HZ1 := lhid (show (World.alloc w (.cells #[.int .i64 by_] 3)).heap.size = w.heap.size + 1 from by simp)
  generalize hq : World.alloc w (.cells #[.int .i64 by_] 3) = w1 at hb hn HZ1 ⊢
  clear hq
  have HO_3 := lhid (HO_1.out.next hb)
  have HB_4 := lhid (below_then HB_2.out HB_2.out.size hb)
  clear HO_1 HB_2 hb
  have BY_5 := lhid (hn)
  clear hn
  have hb := below_alloc (Below.refl w1.heap.size w1) (.cells #[.int .i64 0] 24)
  have hn := blk_new w1 (.cells #[.int .i64 0] 24)
  have HZ2 := lhid (show (World.alloc w1 (.cells #[.int .i64 0] 24)).heap.size = w1.heap.size + 1 from by simp)
  generalize hq : World.alloc w1 (.cells #[.int .i64 0] 24) = w2 at hb hn HZ2 ⊢
  clear hq
  have HO_6 := lhid (HO_3.out.next hb)
  have HB_7 := lhid (below_then HB_4.out HB_4.out.size hb)
  have BY_8 := lhid (blk_below BY_5.out hb)
  clear HO_3 HB_4 BY_5 hb
  rw [HZ1.out] at hn
  have BX_9 := lhid (hn)
  clear hn
  clear hmf
  go_wp2_with fail
  with_reducible refine (get_some base g F w2 day G E cG AE cE b m HO_6.out (by omega) (by omega) (by omega)).mono ?_
  rintro e w' ⟨rfl, rfl⟩
  rw [Int.toNat_natCast]
  unfold pt
  have hby := blk_cell BY_8.out 0
  simp only [List.getElem?_toArray, List.getElem?_cons_zero] at hby
  go_wp2_with fail
  with_reducible refine (custody_person.calls by_ true w2 (by rw [person_f]; exact congrArg some hp)).mono ?_
  rintro e w3 ⟨rfl, nd, hq⟩
  have hb := pw_below_drewN (Below.refl w2.heap.size w2) nd
  rw [← hq] at hb
  clear hq
  have HO_10 := lhid (HO_6.out.next hb)
  have HB_11 := lhid (below_then HB_7.out HB_7.out.size hb)
  have BY_12 := lhid (blk_below BY_8.out hb)
  have BX_13 := lhid (blk_below BX_9.out hb)
  clear HO_6 HB_7 BY_8 BX_9 hb
  go_wp2_with fail
  with_reducible refine (refuse_no _ 2).mono ?_
  rintro e w' ⟨rfl, rfl⟩
  clear hby
  go_wp2_with fail
  with_reducible refine (up_calls base g F w3 day G E (some ⟨b, 0, none⟩) cG AE cE b m HO_10.out HT.out hm2 (fun _ => rfl)).mono ?_
  rintro e w4 ⟨vu, rfl, hU, hb⟩
  have HU_14 := lhid (Kd.R_lower hU HB_11.out.size)
  clear hU
  have HO_15 := lhid (HO_10.out.next hb)
  have HB_16 := lhid (below_then HB_11.out HB_11.out.size hb)
  have BY_17 := lhid (blk_below BY_12.out hb)
  have BX_18 := lhid (blk_below BX_13.out hb)
  clear HO_10 HB_11 BY_12 BX_13 hb
  obtain ⟨Au, cu, rfl⟩ := Kd.R_slice HU_14.out
  obtain ⟨_, hcu, hCU⟩ := Kd.R_reads' HU_14.out
  have HCU := lhid hCU
  have HHU := lhid hcu
  clear hCU hcu
  rw [List.length_map]
  have HML := lhid (show (up G m).length ≤ 1000 by have := up_len HT.out m m (Nat.le_refl _) hm2; omega)
  have HMM := lhid (show ∀ q ∈ up G m, 1 ≤ q ∧ q ≤ m from fun q hq => up_mem HT.out m m (Nat.le_refl _) hm2 q hq)
  go_wp2_with fail
  (with_reducible refine (has62_calls _ Au cu b (up G m) (fun q => (gr G q).f3) ⟨w.heap.size, 0, none⟩ by_ HCU.out HHU.out HML.out (fun q hq => (HO_15.out.cells q (HMM.out q hq).1 (by have := (HMM.out q hq).2; omega)).2.2.2.1) ((blk_cell BY_17.out 0).trans rfl)).mono ?_)
  rintro e w9 ⟨rfl, nd, hq⟩
  have hb := pw_below_drewN (Below.refl w4.heap.size w4) nd
  rw [← hq] at hb
  clear hq
  obtain ⟨w65, hw9⟩ : ∃ q : World, q = w9 := ⟨_, rfl⟩
  subst hw9
  have HO_19 := lhid (HO_15.out.next hb)
  have HB_20 := lhid (below_then HB_16.out HB_16.out.size hb)
  have BY_21 := lhid (blk_below BY_17.out hb)
  have BX_22 := lhid (blk_below BX_18.out hb)
  have HU_23 := lhid (Kd.R_below HU_14.out hb)
  have CU_24 := lhid (Kd.C_below HCU.out hb)
  clear HO_15 HB_16 BY_17 BX_18 HU_14 HCU hb
  rw [show (up G m).any (fun q => (gr G q).f3 == by_) = true from hh]
  go_wp2_with fail
  with_reducible refine (refuse_no _ 12).mono ?_
  rintro e w' ⟨rfl, rfl⟩
  go_wp2_with fail
  (with_reducible refine (has63_calls _ Au cu b (up G m) (fun q => (gr G q).f8) CU_24.out HHU.out HML.out (fun q hq => (HO_19.out.cells q (HMM.out q hq).1 (by have := (HMM.out q hq).2; omega)).2.2.2.2.2.2.2.2)).mono ?_)
  rintro e w9 ⟨rfl, nd, hq⟩
  have hb := pw_below_drewN (Below.refl w65.heap.size w65) nd
  rw [← hq] at hb
  clear hq
  obtain ⟨w66, hw9⟩ : ∃ q : World, q = w9 := ⟨_, rfl⟩
  subst hw9
  have HO_25 := lhid (HO_19.out.next hb)
  have HB_26 := lhid (below_then HB_20.out HB_20.out.size hb)
  have BY_27 := lhid (blk_below BY_21.out hb)
  have BX_28 := lhid (blk_below BX_22.out hb)
  have HU_29 := lhid (Kd.R_below HU_23.out hb)
  have CU_30 := lhid (Kd.C_below CU_24.out hb)
  clear HO_19 HB_20 BY_21 BX_22 HU_23 CU_24 hb
  rw [show (up G m).any (fun q => (gr G q).f8) = true from hr]
  go_wp2_with fail
  with_reducible refine (refuse_yes _ 9).mono ?_
  rintro e w' ⟨rfl, rfl⟩
  refine leaves_cons (f := 59) (args := #[.pointer (some ⟨w.heap.size + 1, 0, none⟩)]) (by simp) (by simp [go_sem]) ?_
  refine (catch59_panicking ⟨w.heap.size + 1, 0, none⟩ 0 9 [] _ (blk_cell BX_28.out 0) (blk_frozen BX_28.out 0)).mono ?_
  rintro e u' w'' ⟨rfl, rfl, w1, hb, rfl⟩
  have hbw := (below_then HB_26.out HB_26.out.size hb).setCell (p := ⟨w.heap.size + 1, 0, none⟩) (Nat.le_add_right _ _) (.int .i64 9)
  have hcw := blk_cell (blk_put (blk_below BX_28.out hb) 0 (.int .i64 9) rfl) 0
  simp [Leaves, settle, results, Try.results31, go_sem, hcw]
  exact hbw
set_option maxHeartbeats 3200000 in
theorem Revoke_ok (base g : Nat) (F : Nat → Prop) (w : World) (day : Int) (G : List S39) (E : List S44) (n by_ : Int) (h : BK base F w g day G E) (hT : Tree G) (h1 : 1 ≤ n) (h2 : n ≤ G.length) (hp : perB by_ = true) (hh : heldB G n.toNat by_ = true) (hr : revB G n.toNat = false) : Calls Try.prog 31 #[.pointer (some ⟨g, 0, none⟩), .int .i64 n, .int .i64 by_] w fun e w' => e = .returned (.tuple #[.int .i64 (cntS day G (belowL G n.toNat ++ [n])), .int .i64 0]) ∧ Got base F w w' g day (put8 G n.toNat true) E := by
  have hu70 := Try.underlying70
  have hu39 := Try.underlying39
  obtain ⟨AG, cG, AE, cE, ho⟩ := h.opn
  obtain ⟨b, hA, hFb⟩ := ho.ad (by omega)
  subst hA
  have hl := hT.1
  obtain ⟨m, rfl⟩ : ∃ m : Nat, n = m := ⟨n.toNat, by omega⟩
  have hm1 : 1 ≤ m := by omega
  have hm2 : m ≤ G.length := by omega
  have HT := lhid hT
  have HF := lhid (show ∀ k, F k → k < w.heap.size from fun k q => (h.fb k q).2)
  clear h hT
  try rw [Int.toNat_natCast] at hh
  try rw [Int.toNat_natCast] at hr
  try rw [Int.toNat_natCast]
  have HO_1 := lhid (ho)
  clear ho
  have hmf : ∀ (fn : Fn) (first cap : Array Value) (w : World), (Instr.makeFunc fn first cap).run Try.prog w = .ok (.func fn first cap) w := fun _ _ _ _ => rfl
  go_enter_defers Try.func31, Try.ntmps31
  go_upto_region 2 with (fail)
  have HB_2 := lhid (Below.refl w.heap.size w)
  have hb := below_alloc (Below.refl w.heap.size w) (.cells #[.int .i64 by_] 3)
  have hn := blk_new w (.cells #[.int .i64 by_] 3)
  have HZ1 := lhid (show (World.alloc w (.cells #[.int .i64 by_] 3)).heap.size = w.heap.size + 1 from by simp)
  generalize hq : World.alloc w (.cells #[.int .i64 by_] 3) = w1 at hb hn HZ1 ⊢
  clear hq
  have HO_3 := lhid (HO_1.out.next hb)
  have HB_4 := lhid (below_then HB_2.out HB_2.out.size hb)
  clear HO_1 HB_2 hb
  have BY_5 := lhid (hn)
  clear hn
  have hb := below_alloc (Below.refl w1.heap.size w1) (.cells #[.int .i64 0] 24)
  have hn := blk_new w1 (.cells #[.int .i64 0] 24)
  have HZ2 := lhid (show (World.alloc w1 (.cells #[.int .i64 0] 24)).heap.size = w1.heap.size + 1 from by simp)
  generalize hq : World.alloc w1 (.cells #[.int .i64 0] 24) = w2 at hb hn HZ2 ⊢
  clear hq
  have HO_6 := lhid (HO_3.out.next hb)
  have HB_7 := lhid (below_then HB_4.out HB_4.out.size hb)
  have BY_8 := lhid (blk_below BY_5.out hb)
  clear HO_3 HB_4 BY_5 hb
  rw [HZ1.out] at hn
  have BX_9 := lhid (hn)
  clear hn
  clear hmf
  go_wp2_with fail
  with_reducible refine (get_some base g F w2 day G E cG AE cE b m HO_6.out (by omega) (by omega) (by omega)).mono ?_
  rintro e w' ⟨rfl, rfl⟩
  rw [Int.toNat_natCast]
  unfold pt
  have hby := blk_cell BY_8.out 0
  simp only [List.getElem?_toArray, List.getElem?_cons_zero] at hby
  go_wp2_with fail
  with_reducible refine (custody_person.calls by_ true w2 (by rw [person_f]; exact congrArg some hp)).mono ?_
  rintro e w3 ⟨rfl, nd, hq⟩
  have hb := pw_below_drewN (Below.refl w2.heap.size w2) nd
  rw [← hq] at hb
  clear hq
  have HO_10 := lhid (HO_6.out.next hb)
  have HB_11 := lhid (below_then HB_7.out HB_7.out.size hb)
  have BY_12 := lhid (blk_below BY_8.out hb)
  have BX_13 := lhid (blk_below BX_9.out hb)
  clear HO_6 HB_7 BY_8 BX_9 hb
  go_wp2_with fail
  with_reducible refine (refuse_no _ 2).mono ?_
  rintro e w' ⟨rfl, rfl⟩
  clear hby
  go_wp2_with fail
  with_reducible refine (up_calls base g F w3 day G E (some ⟨b, 0, none⟩) cG AE cE b m HO_10.out HT.out hm2 (fun _ => rfl)).mono ?_
  rintro e w4 ⟨vu, rfl, hU, hb⟩
  have HU_14 := lhid (Kd.R_lower hU HB_11.out.size)
  clear hU
  have HO_15 := lhid (HO_10.out.next hb)
  have HB_16 := lhid (below_then HB_11.out HB_11.out.size hb)
  have BY_17 := lhid (blk_below BY_12.out hb)
  have BX_18 := lhid (blk_below BX_13.out hb)
  clear HO_10 HB_11 BY_12 BX_13 hb
  obtain ⟨Au, cu, rfl⟩ := Kd.R_slice HU_14.out
  obtain ⟨_, hcu, hCU⟩ := Kd.R_reads' HU_14.out
  have HCU := lhid hCU
  have HHU := lhid hcu
  clear hCU hcu
  rw [List.length_map]
  have HML := lhid (show (up G m).length ≤ 1000 by have := up_len HT.out m m (Nat.le_refl _) hm2; omega)
  have HMM := lhid (show ∀ q ∈ up G m, 1 ≤ q ∧ q ≤ m from fun q hq => up_mem HT.out m m (Nat.le_refl _) hm2 q hq)
  go_wp2_with fail
  (with_reducible refine (has62_calls _ Au cu b (up G m) (fun q => (gr G q).f3) ⟨w.heap.size, 0, none⟩ by_ HCU.out HHU.out HML.out (fun q hq => (HO_15.out.cells q (HMM.out q hq).1 (by have := (HMM.out q hq).2; omega)).2.2.2.1) ((blk_cell BY_17.out 0).trans rfl)).mono ?_)
  rintro e w9 ⟨rfl, nd, hq⟩
  have hb := pw_below_drewN (Below.refl w4.heap.size w4) nd
  rw [← hq] at hb
  clear hq
  obtain ⟨w65, hw9⟩ : ∃ q : World, q = w9 := ⟨_, rfl⟩
  subst hw9
  have HO_19 := lhid (HO_15.out.next hb)
  have HB_20 := lhid (below_then HB_16.out HB_16.out.size hb)
  have BY_21 := lhid (blk_below BY_17.out hb)
  have BX_22 := lhid (blk_below BX_18.out hb)
  have HU_23 := lhid (Kd.R_below HU_14.out hb)
  have CU_24 := lhid (Kd.C_below HCU.out hb)
  clear HO_15 HB_16 BY_17 BX_18 HU_14 HCU hb
  rw [show (up G m).any (fun q => (gr G q).f3 == by_) = true from hh]
  go_wp2_with fail
  with_reducible refine (refuse_no _ 12).mono ?_
  rintro e w' ⟨rfl, rfl⟩
  go_wp2_with fail
  (with_reducible refine (has63_calls _ Au cu b (up G m) (fun q => (gr G q).f8) CU_24.out HHU.out HML.out (fun q hq => (HO_19.out.cells q (HMM.out q hq).1 (by have := (HMM.out q hq).2; omega)).2.2.2.2.2.2.2.2)).mono ?_)
  rintro e w9 ⟨rfl, nd, hq⟩
  have hb := pw_below_drewN (Below.refl w65.heap.size w65) nd
  rw [← hq] at hb
  clear hq
  obtain ⟨w66, hw9⟩ : ∃ q : World, q = w9 := ⟨_, rfl⟩
  subst hw9
  have HO_25 := lhid (HO_19.out.next hb)
  have HB_26 := lhid (below_then HB_20.out HB_20.out.size hb)
  have BY_27 := lhid (blk_below BY_21.out hb)
  have BX_28 := lhid (blk_below BX_22.out hb)
  have HU_29 := lhid (Kd.R_below HU_23.out hb)
  have CU_30 := lhid (Kd.C_below CU_24.out hb)
  clear HO_19 HB_20 BY_21 BX_22 HU_23 CU_24 hb
  rw [show (up G m).any (fun q => (gr G q).f8) = false from hr]
  go_wp2_with fail
  with_reducible refine (refuse_no _ 9).mono ?_
  rintro e w' ⟨rfl, rfl⟩
  clear hh hr
  go_wp2_with fail
  with_reducible refine (below_calls base g F w66 day G E m HO_25.out.bk HT.out (by omega) (by omega)).mono ?_
  rintro e w7 ⟨vl, rfl, hL, hb⟩
  have HL := lhid hL
  have HBL := lhid hb
  clear hL hb
  rw [Int.toNat_natCast] at HL
  obtain ⟨Al, cl, rfl⟩ := Kd.R_slice HL.out
  have hll : (belowL G m).length ≤ 128 := by have := belL_len G m (G.length - m); unfold belowL; omega
  have hxs0 : ∀ x ∈ belowL G m ++ [(m : Int)], ∃ q : Nat, x = (q : Int) ∧ 1 ≤ q ∧ q ≤ G.length := fun x hx => by
    rcases List.mem_append.1 hx with hx | hx
    · obtain ⟨q, q1, q2, q3, q4⟩ := belL_mem hx
      exact ⟨q, q1, by omega, by omega⟩
    · simp only [List.mem_singleton] at hx
      exact ⟨m, hx, hm1, hm2⟩
  have hxl0 : (belowL G m ++ [(m : Int)]).length ≤ 129 := by simp; exact hll
  obtain ⟨xs, hxs⟩ : ∃ xs, xs = belowL G m ++ [(m : Int)] := ⟨_, rfl⟩
  rw [← hxs] at hxs0 hxl0
  have HXM := lhid hxs0
  have HXS := lhid hxs
  clear hxs0 hxs
  go_upto_region 8 with ((with_reducible refine gate_builtin (b := .append) (xs := #[.tmp 33, .tmp 35]) rfl ?_); at_builtin; refine Kd.R_append (Kd.int .i64) (w0 := w66) w66.heap.size rfl (.tmp 33) (.tmp 35) 32 3 (.int .i64 0) 8 rfl Try.underlying32 info3 rfl (by decide) (by omega) (.slice Al (belowL G m).length cl) (belowL G m) (m : Int) [.int .i64 (m : Int)] (fun _ => True) (fun _ => False) rfl rfl ?aP (fun _ hk => hk.elim) ?aF ?aO ?aB ?aS ?aL ?_; (case aP => exact rfl); (case aF => exact fun _ _ => trivial); (case aO => exact HL.out); (case aB => exact HBL.out); (case aS => exact HBL.out.size); (case aL => omega); intro v8 w8 ho8 hb8 hg8 hat8; rw [← HXS.out] at ho8; obtain ⟨A8, c8, rfl⟩ := Kd.R_slice ho8; have HP8 := lhid ho8; have HB8 := lhid hb8; clear ho8 hb8 hg8 hat8)
  have hb := HB8.out
  have HO_31 := lhid (HO_25.out.next hb)
  have HB_32 := lhid (below_then HB_26.out HB_26.out.size hb)
  have BX_33 := lhid (blk_below BX_28.out hb)
  clear HO_25 HB_26 BX_28 hb
  clear HBL HL hll
  have HQ0 := lhid (Below.refl w8.heap.size w8)
  go_loopw [6, 38] (fun v t wr => ∃ i : Nat, i ≤ xs.length ∧ t = .int .i64 i ∧ v = .int .i64 (cntS day G (xs.take i) : Nat) ∧ Hid (Below w8.heap.size w8 wr)) (fun _ t _ => xs.length - (intOf t).toNat)
  case atStart => exact ⟨0, Nat.zero_le _, rfl, by simp [cntS], HQ0⟩
  case round =>
    obtain ⟨i, hi, rfl, rfl, HQr⟩ := hrel
    clear HQ0
    have hcn := cntS_le day G (xs.take i)
    rw [List.length_take] at hcn
    by_cases hlt : i < xs.length
    · have hlt2 : (i : Int) < (xs.length : Int) := by omega
      obtain ⟨q, hq, q1, q2⟩ := HXM.out (xs[i]) (List.getElem_mem hlt)
      obtain ⟨ad, eA, hcell⟩ := int_at (Kd.R_reads' (Kd.R_below HP8.out HQr.out)).2.2 i hlt
      rw [hq] at hcell
      subst eA
      have HSN := lhid (cntS_snoc day G xs i hlt)
      rw [hq, Int.toNat_natCast] at HSN
      clear hq
      have hcn2 : cntS day G (xs.take i) ≤ 129 := by omega
      go_wp2_with fail
      with_reducible refine (stands_calls base g F wr day G E q (HO_31.out.next HQr.out).bk HT.out (by omega) (by omega)).mono ?_
      rintro e w81 ⟨rfl, hb⟩
      have HQ_34 := lhid (below_then HQr.out HQr.out.size hb)
      clear HQr hb
      rw [Int.toNat_natCast]
      cases c : stB day G q
      · go_wp2_with fail
        go_roundw
        case rel =>
          exact ⟨i + 1, by omega, by simp, by rw [HSN.out]; simp [c], HQ_34⟩
        case measure => simp [intOf]; omega
      · go_wp2_with fail
        go_roundw
        case rel =>
          exact ⟨i + 1, by omega, by simp, by rw [HSN.out]; simp [c], HQ_34⟩
        case measure => simp [intOf]; omega
    · have hie : i = xs.length := by omega
      subst hie
      have hlt2 : ¬ (xs.length : Int) < (xs.length : Int) := by omega
      skip
      have HOw := lhid (HO_31.out.next HQr.out)
      have HXw := lhid (blk_below BX_33.out HQr.out)
      have HBw := lhid (below_then HB_32.out HB_32.out.size HQr.out)
      have hfz := HOw.out.frz
      have hc8 := (HOw.out.cells m hm1 hm2).2.2.2.2.2.2.2.2
      go_upto_region 14 with (fail)
      try any_goals (exfalso; omega)
      clear hfz hc8
      have hbF := HF.out b hFb
      have HG := lhid (show Got base F wr (World.setCell wr ⟨b, (m - 1) * 9 + 8, none⟩ (.bool true)) g day (put8 G m true) E from ⟨F, (HOw.out.put8 m hm1 hm2 true).bk, fun k q => Or.inl q, (Chg.refl _ _).set (Or.inr hFb) _⟩)
      have HX7 := lhid (blk_far HXw.out (p := ⟨b, (m - 1) * 9 + 8, none⟩) (show w.heap.size + 1 ≠ b by omega) (.bool true))
      have HLT := lhid (blk_lt HXw.out)
      generalize World.setCell wr ⟨b, (m - 1) * 9 + 8, none⟩ (.bool true) = w7 at HG HX7 ⊢
      have hxc := blk_cell HX7.out 0
      have hxz : ∀ o, w7.frozen? ⟨w.heap.size + 1, o, none⟩ = false := fun o => blk_frozen HX7.out o
      simp only [List.getElem?_toArray, List.getElem?_cons_zero] at hxc
      rw [List.take_length]
      rw [HXS.out]
      go_wp2_with fail
      have hz8 := blk_put HX7.out 0 (.int .i64 0) rfl
      have hg8 : Got base F w (World.setCell (World.setCell w7 ⟨w.heap.size + 1, 0, none⟩ (.int .i64 0)) ⟨w.heap.size + 1, 0, none⟩ (.int .i64 0)).drew _ _ _ _ := Got.box HG.out HBw.out (p := ⟨w.heap.size + 1, 0, none⟩) (Nat.le_add_right _ _) HLT.out HF.out (.int .i64 0) (.int .i64 0)
      generalize World.setCell w7 ⟨w.heap.size + 1, 0, none⟩ (.int .i64 0) = w8 at hz8 hg8 ⊢
      have hcw := blk_cell (blk_put hz8 0 (.int .i64 0) rfl) 0
      have hc8 := blk_cell hz8 0
      have hf8 := blk_frozen hz8 0
      simp only [List.getElem?_toArray, List.getElem?_cons_zero, Array.setIfInBounds_def, List.size_toArray] at hc8 hcw
      refine leaves_cons (f := 59) (args := #[.pointer (some ⟨w.heap.size + 1, 0, none⟩)]) (by simp) (by simp [go_sem]) ?_
      refine (catch59_idle ⟨w.heap.size + 1, 0, none⟩ 0 w8 (by simpa using hc8) hf8).mono ?_
      rintro e u' w'' ⟨rfl, rfl, rfl⟩
      simp [Leaves, settle, results, Try.results31, go_sem, hcw]
      first | exact hg8 | (rw [List.foldl_append] at hg8; exact hg8)
end Go.Proofs.Ytfnlghjkjmppdaa.PC
