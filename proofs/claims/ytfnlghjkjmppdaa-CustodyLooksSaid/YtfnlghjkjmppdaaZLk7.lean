/-
  The texts that the theorem in YtfnlghjkjmppdaaZRowLk rests on, merged (part 8); only what it reaches.
-/
import Derived.Still
import Derived.Test.YtfnlghjkjmppdaaZLk3
import Derived.Test.YtfnlghjkjmppdaaZLk5
import Derived.Test.YtfnlghjkjmppdaaZLk6
section
namespace Go.Proofs.Ytfnlghjkjmppdaa.PC
open Go.RowKit Go.Proofs.YtfnlghjkjmppdaaW.PrintWords Go.Proofs.YtfnlghjkjmppdaaW.PrintLast Go.Proofs.YtfnlghjkjmppdaaW.PrintMore
set_option linter.unusedVariables false
set_option linter.unusedSimpArgs false
def rightB (day : Int) (G : List S39) (n : Nat) (by_ v r u s : Int) : Bool :=
  (by_ == (gr G n).f3) && stB day G n && (bits .and .i64 (gr G n).f5 2 != 0) && ((bits .andNot .i64 v (gr G n).f4 == 0) && (bits .andNot .i64 r (gr G n).f5 == 0) && decide (u ≤ (gr G n).f6)) && (decide ((gr G n).f7 = -1) || (!decide (s = -1) && decide (s ≤ (gr G n).f7)))
theorem Pass_none (base g : Nat) (F : Nat → Prop) (w : World) (day : Int) (G : List S39) (E : List S44) (n by_ h_ v r u s : Int) (h : BK base F w g day G E) (hn : ¬ (1 ≤ n ∧ n ≤ G.length)) : Calls Try.prog 16 #[.pointer (some ⟨g, 0, none⟩), .int .i64 n, .int .i64 by_, .int .i64 h_, .int .i64 v, .int .i64 r, .int .i64 u, .int .i64 s] w fun e w' => e = .returned (.tuple #[.int .i64 0, .int .i64 6]) ∧ Below w.heap.size w w' := by
  have HBK := lhid h
  clear h
  have hmf : ∀ (fn : Fn) (first cap : Array Value) (w : World), (Instr.makeFunc fn first cap).run Try.prog w = .ok (.func fn first cap) w := fun _ _ _ _ => rfl
  go_enter_defers Try.func16, Try.ntmps16
  go_upto_region 2 with (fail)
  have HB_1 := lhid (Below.refl w.heap.size w)
  have hb := below_alloc (Below.refl w.heap.size w) (.cells #[.int .i64 0] 24)
  have hn := blk_new w (.cells #[.int .i64 0] 24)
  have HZ1 := lhid (show (World.alloc w (.cells #[.int .i64 0] 24)).heap.size = w.heap.size + 1 from by simp)
  generalize hq : World.alloc w (.cells #[.int .i64 0] 24) = w1 at hb hn HZ1 ⊢
  clear hq
  have HBK_2 := lhid (HBK.out.next hb)
  have HB_3 := lhid (below_then HB_1.out HB_1.out.size hb)
  clear HBK HB_1 hb
  have BX_4 := lhid (hn)
  clear hn
  clear hmf
  go_wp2_with fail
  with_reducible refine (get_none base g F w1 day G E n HBK_2.out hn).mono ?_
  rintro e w' ⟨rfl, rfl⟩
  refine leaves_cons (f := 45) (args := #[.pointer (some ⟨w.heap.size, 0, none⟩)]) (by simp) (by simp [go_sem]) ?_
  refine (catch45_panicking ⟨w.heap.size, 0, none⟩ 0 6 [] _ (blk_cell BX_4.out 0) (blk_frozen BX_4.out 0)).mono ?_
  rintro e u' w'' ⟨rfl, rfl, w1, hb, rfl⟩
  have hbw := (below_then HB_3.out HB_3.out.size hb).setCell (p := ⟨w.heap.size, 0, none⟩) (Nat.le_refl _) (.int .i64 6)
  have hcw := blk_cell (blk_put (blk_below BX_4.out hb) 0 (.int .i64 6) rfl) 0
  simp [Leaves, settle, results, Try.results16, go_sem, hcw]
  exact hbw
theorem Pass_may (base g : Nat) (F : Nat → Prop) (w : World) (day : Int) (G : List S39) (E : List S44) (n by_ h_ v r u s : Int) (h : BK base F w g day G E) (hT : Tree G) (h1 : 1 ≤ n) (h2 : n ≤ G.length) (hm : mayB h_ v r u s = false) : Calls Try.prog 16 #[.pointer (some ⟨g, 0, none⟩), .int .i64 n, .int .i64 by_, .int .i64 h_, .int .i64 v, .int .i64 r, .int .i64 u, .int .i64 s] w fun e w' => e = .returned (.tuple #[.int .i64 0, .int .i64 2]) ∧ Below w.heap.size w w' := by
  have hu70 := Try.underlying70
  have hu39 := Try.underlying39
  obtain ⟨AG, cG, AE, cE, ho⟩ := h.opn
  obtain ⟨b, hA, hFb⟩ := ho.ad (by omega)
  subst hA
  have hl := hT.1
  obtain ⟨m, rfl⟩ : ∃ m : Nat, n = m := ⟨n.toNat, by omega⟩
  have hm1 : 1 ≤ m := by omega
  have hm2 : m ≤ G.length := by omega
  have HT := lhid hT
  have HF := lhid (show ∀ k, F k → k < w.heap.size from fun k q => (h.fb k q).2)
  clear h hT
  have HO_1 := lhid (ho)
  clear ho
  obtain ⟨x, hx⟩ : ∃ x, x = gr G m := ⟨_, rfl⟩
  have HX := lhid hx
  clear hx
  have hmf : ∀ (fn : Fn) (first cap : Array Value) (w : World), (Instr.makeFunc fn first cap).run Try.prog w = .ok (.func fn first cap) w := fun _ _ _ _ => rfl
  go_enter_defers Try.func16, Try.ntmps16
  go_upto_region 2 with (fail)
  have HB_2 := lhid (Below.refl w.heap.size w)
  have hb := below_alloc (Below.refl w.heap.size w) (.cells #[.int .i64 0] 24)
  have hn := blk_new w (.cells #[.int .i64 0] 24)
  have HZ1 := lhid (show (World.alloc w (.cells #[.int .i64 0] 24)).heap.size = w.heap.size + 1 from by simp)
  generalize hq : World.alloc w (.cells #[.int .i64 0] 24) = w1 at hb hn HZ1 ⊢
  clear hq
  have HO_3 := lhid (HO_1.out.next hb)
  have HB_4 := lhid (below_then HB_2.out HB_2.out.size hb)
  clear HO_1 HB_2 hb
  have BX_5 := lhid (hn)
  clear hn
  clear hmf
  go_wp2_with fail
  with_reducible refine (get_some base g F w1 day G E cG AE cE b m HO_3.out (by omega) (by omega) (by omega)).mono ?_
  rintro e w' ⟨rfl, rfl⟩
  rw [Int.toNat_natCast]
  unfold pt
  have hcs := HO_3.out.cells m hm1 hm2
  rw [← HX.out] at hcs
  obtain ⟨x0, x1, x2, x3, x4, x5, x6, x7, x8⟩ := hcs
  go_upto_region 4 with (fail)
  clear x0 x1 x2 x3 x4 x5 x6 x7 x8
  have hb := below_alloc (Below.refl w1.heap.size w1) (.cells #[.int .i64 0, .int .i64 m, .int .i64 x.f2, .int .i64 h_, .int .i64 v, .int .i64 r, .int .i64 u, .int .i64 s, .bool false] 39)
  have hn := blk_new w1 (.cells #[.int .i64 0, .int .i64 m, .int .i64 x.f2, .int .i64 h_, .int .i64 v, .int .i64 r, .int .i64 u, .int .i64 s, .bool false] 39)
  have HZ2 := lhid (show (World.alloc w1 (.cells #[.int .i64 0, .int .i64 m, .int .i64 x.f2, .int .i64 h_, .int .i64 v, .int .i64 r, .int .i64 u, .int .i64 s, .bool false] 39)).heap.size = w1.heap.size + 1 from by simp)
  generalize hq : World.alloc w1 (.cells #[.int .i64 0, .int .i64 m, .int .i64 x.f2, .int .i64 h_, .int .i64 v, .int .i64 r, .int .i64 u, .int .i64 s, .bool false] 39) = w2 at hb hn HZ2 ⊢
  clear hq
  have HO_6 := lhid (HO_3.out.next hb)
  have HB_7 := lhid (below_then HB_4.out HB_4.out.size hb)
  have BX_8 := lhid (blk_below BX_5.out hb)
  clear HO_3 HB_4 BX_5 hb
  have BG_9 := lhid (hn)
  clear hn
  obtain ⟨gb, hgb⟩ : ∃ q, q = w1.heap.size := ⟨_, rfl⟩
  rw [← hgb] at BG_9 ⊢
  clear hgb
  obtain ⟨hx0, hx1, hx2, hx3, hx4, hx5, hx6, hx7, hx8⟩ := nine BG_9.out
  go_wp2_with fail
  with_reducible refine (custody_may.calls 0 m x.f2 h_ v r u s false false w2 (by rw [may_f]; exact congrArg some hm)).mono ?_
  rintro e w3 ⟨rfl, hb⟩
  have HO_10 := lhid (HO_6.out.next hb)
  have HB_11 := lhid (below_then HB_7.out HB_7.out.size hb)
  have BX_12 := lhid (blk_below BX_8.out hb)
  have BG_13 := lhid (blk_below BG_9.out hb)
  clear HO_6 HB_7 BX_8 BG_9 hb
  clear hx0 hx1 hx2 hx3 hx4 hx5 hx6 hx7 hx8
  go_wp2_with fail
  with_reducible refine (refuse_yes _ 2).mono ?_
  rintro e w' ⟨rfl, rfl⟩
  refine leaves_cons (f := 45) (args := #[.pointer (some ⟨w.heap.size, 0, none⟩)]) (by simp) (by simp [go_sem]) ?_
  refine (catch45_panicking ⟨w.heap.size, 0, none⟩ 0 2 [] _ (blk_cell BX_12.out 0) (blk_frozen BX_12.out 0)).mono ?_
  rintro e u' w'' ⟨rfl, rfl, w1, hb, rfl⟩
  have hbw := (below_then HB_11.out HB_11.out.size hb).setCell (p := ⟨w.heap.size, 0, none⟩) (Nat.le_refl _) (.int .i64 2)
  have hcw := blk_cell (blk_put (blk_below BX_12.out hb) 0 (.int .i64 2) rfl) 0
  simp [Leaves, settle, results, Try.results16, go_sem, hcw]
  exact hbw
theorem Pass_per (base g : Nat) (F : Nat → Prop) (w : World) (day : Int) (G : List S39) (E : List S44) (n by_ h_ v r u s : Int) (h : BK base F w g day G E) (hT : Tree G) (h1 : 1 ≤ n) (h2 : n ≤ G.length) (hm : mayB h_ v r u s = true) (hp : perB by_ = false) : Calls Try.prog 16 #[.pointer (some ⟨g, 0, none⟩), .int .i64 n, .int .i64 by_, .int .i64 h_, .int .i64 v, .int .i64 r, .int .i64 u, .int .i64 s] w fun e w' => e = .returned (.tuple #[.int .i64 0, .int .i64 2]) ∧ Below w.heap.size w w' := by
  have hu70 := Try.underlying70
  have hu39 := Try.underlying39
  obtain ⟨AG, cG, AE, cE, ho⟩ := h.opn
  obtain ⟨b, hA, hFb⟩ := ho.ad (by omega)
  subst hA
  have hl := hT.1
  obtain ⟨m, rfl⟩ : ∃ m : Nat, n = m := ⟨n.toNat, by omega⟩
  have hm1 : 1 ≤ m := by omega
  have hm2 : m ≤ G.length := by omega
  have HT := lhid hT
  have HF := lhid (show ∀ k, F k → k < w.heap.size from fun k q => (h.fb k q).2)
  clear h hT
  have HO_1 := lhid (ho)
  clear ho
  obtain ⟨x, hx⟩ : ∃ x, x = gr G m := ⟨_, rfl⟩
  have HX := lhid hx
  clear hx
  have hmf : ∀ (fn : Fn) (first cap : Array Value) (w : World), (Instr.makeFunc fn first cap).run Try.prog w = .ok (.func fn first cap) w := fun _ _ _ _ => rfl
  go_enter_defers Try.func16, Try.ntmps16
  go_upto_region 2 with (fail)
  have HB_2 := lhid (Below.refl w.heap.size w)
  have hb := below_alloc (Below.refl w.heap.size w) (.cells #[.int .i64 0] 24)
  have hn := blk_new w (.cells #[.int .i64 0] 24)
  have HZ1 := lhid (show (World.alloc w (.cells #[.int .i64 0] 24)).heap.size = w.heap.size + 1 from by simp)
  generalize hq : World.alloc w (.cells #[.int .i64 0] 24) = w1 at hb hn HZ1 ⊢
  clear hq
  have HO_3 := lhid (HO_1.out.next hb)
  have HB_4 := lhid (below_then HB_2.out HB_2.out.size hb)
  clear HO_1 HB_2 hb
  have BX_5 := lhid (hn)
  clear hn
  clear hmf
  go_wp2_with fail
  with_reducible refine (get_some base g F w1 day G E cG AE cE b m HO_3.out (by omega) (by omega) (by omega)).mono ?_
  rintro e w' ⟨rfl, rfl⟩
  rw [Int.toNat_natCast]
  unfold pt
  have hcs := HO_3.out.cells m hm1 hm2
  rw [← HX.out] at hcs
  obtain ⟨x0, x1, x2, x3, x4, x5, x6, x7, x8⟩ := hcs
  go_upto_region 4 with (fail)
  clear x0 x1 x2 x3 x4 x5 x6 x7 x8
  have hb := below_alloc (Below.refl w1.heap.size w1) (.cells #[.int .i64 0, .int .i64 m, .int .i64 x.f2, .int .i64 h_, .int .i64 v, .int .i64 r, .int .i64 u, .int .i64 s, .bool false] 39)
  have hn := blk_new w1 (.cells #[.int .i64 0, .int .i64 m, .int .i64 x.f2, .int .i64 h_, .int .i64 v, .int .i64 r, .int .i64 u, .int .i64 s, .bool false] 39)
  have HZ2 := lhid (show (World.alloc w1 (.cells #[.int .i64 0, .int .i64 m, .int .i64 x.f2, .int .i64 h_, .int .i64 v, .int .i64 r, .int .i64 u, .int .i64 s, .bool false] 39)).heap.size = w1.heap.size + 1 from by simp)
  generalize hq : World.alloc w1 (.cells #[.int .i64 0, .int .i64 m, .int .i64 x.f2, .int .i64 h_, .int .i64 v, .int .i64 r, .int .i64 u, .int .i64 s, .bool false] 39) = w2 at hb hn HZ2 ⊢
  clear hq
  have HO_6 := lhid (HO_3.out.next hb)
  have HB_7 := lhid (below_then HB_4.out HB_4.out.size hb)
  have BX_8 := lhid (blk_below BX_5.out hb)
  clear HO_3 HB_4 BX_5 hb
  have BG_9 := lhid (hn)
  clear hn
  obtain ⟨gb, hgb⟩ : ∃ q, q = w1.heap.size := ⟨_, rfl⟩
  rw [← hgb] at BG_9 ⊢
  clear hgb
  obtain ⟨hx0, hx1, hx2, hx3, hx4, hx5, hx6, hx7, hx8⟩ := nine BG_9.out
  go_wp2_with fail
  with_reducible refine (custody_may.calls 0 m x.f2 h_ v r u s false true w2 (by rw [may_f]; exact congrArg some hm)).mono ?_
  rintro e w3 ⟨rfl, hb⟩
  have HO_10 := lhid (HO_6.out.next hb)
  have HB_11 := lhid (below_then HB_7.out HB_7.out.size hb)
  have BX_12 := lhid (blk_below BX_8.out hb)
  have BG_13 := lhid (blk_below BG_9.out hb)
  clear HO_6 HB_7 BX_8 BG_9 hb
  clear hx0 hx1 hx2 hx3 hx4 hx5 hx6 hx7 hx8
  go_wp2_with fail
  with_reducible refine (custody_person.calls by_ false w3 (by rw [person_f]; exact congrArg some hp)).mono ?_
  rintro e w4 ⟨rfl, nd, hq⟩
  have hb := pw_below_drewN (Below.refl w3.heap.size w3) nd
  rw [← hq] at hb
  clear hq
  have HO_14 := lhid (HO_10.out.next hb)
  have HB_15 := lhid (below_then HB_11.out HB_11.out.size hb)
  have BX_16 := lhid (blk_below BX_12.out hb)
  have BG_17 := lhid (blk_below BG_13.out hb)
  clear HO_10 HB_11 BX_12 BG_13 hb
  go_wp2_with fail
  with_reducible refine (refuse_yes _ 2).mono ?_
  rintro e w' ⟨rfl, rfl⟩
  refine leaves_cons (f := 45) (args := #[.pointer (some ⟨w.heap.size, 0, none⟩)]) (by simp) (by simp [go_sem]) ?_
  refine (catch45_panicking ⟨w.heap.size, 0, none⟩ 0 2 [] _ (blk_cell BX_16.out 0) (blk_frozen BX_16.out 0)).mono ?_
  rintro e u' w'' ⟨rfl, rfl, w1, hb, rfl⟩
  have hbw := (below_then HB_15.out HB_15.out.size hb).setCell (p := ⟨w.heap.size, 0, none⟩) (Nat.le_refl _) (.int .i64 2)
  have hcw := blk_cell (blk_put (blk_below BX_16.out hb) 0 (.int .i64 2) rfl) 0
  simp [Leaves, settle, results, Try.results16, go_sem, hcw]
  exact hbw
theorem Pass_right (base g : Nat) (F : Nat → Prop) (w : World) (day : Int) (G : List S39) (E : List S44) (n by_ h_ v r u s : Int) (h : BK base F w g day G E) (hT : Tree G) (h1 : 1 ≤ n) (h2 : n ≤ G.length) (hm : mayB h_ v r u s = true) (hp : perB by_ = true) (hh : rightB day G n.toNat by_ v r u s = false) : Calls Try.prog 16 #[.pointer (some ⟨g, 0, none⟩), .int .i64 n, .int .i64 by_, .int .i64 h_, .int .i64 v, .int .i64 r, .int .i64 u, .int .i64 s] w fun e w' => e = .returned (.tuple #[.int .i64 0, .int .i64 12]) ∧ Below w.heap.size w w' := by
  have hu70 := Try.underlying70
  have hu39 := Try.underlying39
  obtain ⟨AG, cG, AE, cE, ho⟩ := h.opn
  obtain ⟨b, hA, hFb⟩ := ho.ad (by omega)
  subst hA
  have hl := hT.1
  obtain ⟨m, rfl⟩ : ∃ m : Nat, n = m := ⟨n.toNat, by omega⟩
  have hm1 : 1 ≤ m := by omega
  have hm2 : m ≤ G.length := by omega
  have HT := lhid hT
  have HF := lhid (show ∀ k, F k → k < w.heap.size from fun k q => (h.fb k q).2)
  clear h hT
  have HO_1 := lhid (ho)
  clear ho
  rw [Int.toNat_natCast] at hh
  have HH := lhid hh
  clear hh
  obtain ⟨x, hx⟩ : ∃ x, x = gr G m := ⟨_, rfl⟩
  have HX := lhid hx
  clear hx
  have hmf : ∀ (fn : Fn) (first cap : Array Value) (w : World), (Instr.makeFunc fn first cap).run Try.prog w = .ok (.func fn first cap) w := fun _ _ _ _ => rfl
  go_enter_defers Try.func16, Try.ntmps16
  go_upto_region 2 with (fail)
  have HB_2 := lhid (Below.refl w.heap.size w)
  have hb := below_alloc (Below.refl w.heap.size w) (.cells #[.int .i64 0] 24)
  have hn := blk_new w (.cells #[.int .i64 0] 24)
  have HZ1 := lhid (show (World.alloc w (.cells #[.int .i64 0] 24)).heap.size = w.heap.size + 1 from by simp)
  generalize hq : World.alloc w (.cells #[.int .i64 0] 24) = w1 at hb hn HZ1 ⊢
  clear hq
  have HO_3 := lhid (HO_1.out.next hb)
  have HB_4 := lhid (below_then HB_2.out HB_2.out.size hb)
  clear HO_1 HB_2 hb
  have BX_5 := lhid (hn)
  clear hn
  clear hmf
  go_wp2_with fail
  with_reducible refine (get_some base g F w1 day G E cG AE cE b m HO_3.out (by omega) (by omega) (by omega)).mono ?_
  rintro e w' ⟨rfl, rfl⟩
  rw [Int.toNat_natCast]
  unfold pt
  have hcs := HO_3.out.cells m hm1 hm2
  rw [← HX.out] at hcs
  obtain ⟨x0, x1, x2, x3, x4, x5, x6, x7, x8⟩ := hcs
  go_upto_region 4 with (fail)
  clear x0 x1 x2 x3 x4 x5 x6 x7 x8
  have hb := below_alloc (Below.refl w1.heap.size w1) (.cells #[.int .i64 0, .int .i64 m, .int .i64 x.f2, .int .i64 h_, .int .i64 v, .int .i64 r, .int .i64 u, .int .i64 s, .bool false] 39)
  have hn := blk_new w1 (.cells #[.int .i64 0, .int .i64 m, .int .i64 x.f2, .int .i64 h_, .int .i64 v, .int .i64 r, .int .i64 u, .int .i64 s, .bool false] 39)
  have HZ2 := lhid (show (World.alloc w1 (.cells #[.int .i64 0, .int .i64 m, .int .i64 x.f2, .int .i64 h_, .int .i64 v, .int .i64 r, .int .i64 u, .int .i64 s, .bool false] 39)).heap.size = w1.heap.size + 1 from by simp)
  generalize hq : World.alloc w1 (.cells #[.int .i64 0, .int .i64 m, .int .i64 x.f2, .int .i64 h_, .int .i64 v, .int .i64 r, .int .i64 u, .int .i64 s, .bool false] 39) = w2 at hb hn HZ2 ⊢
  clear hq
  have HO_6 := lhid (HO_3.out.next hb)
  have HB_7 := lhid (below_then HB_4.out HB_4.out.size hb)
  have BX_8 := lhid (blk_below BX_5.out hb)
  clear HO_3 HB_4 BX_5 hb
  have BG_9 := lhid (hn)
  clear hn
  obtain ⟨gb, hgb⟩ : ∃ q, q = w1.heap.size := ⟨_, rfl⟩
  rw [← hgb] at BG_9 ⊢
  clear hgb
  obtain ⟨hx0, hx1, hx2, hx3, hx4, hx5, hx6, hx7, hx8⟩ := nine BG_9.out
  go_wp2_with fail
  with_reducible refine (custody_may.calls 0 m x.f2 h_ v r u s false true w2 (by rw [may_f]; exact congrArg some hm)).mono ?_
  rintro e w3 ⟨rfl, hb⟩
  have HO_10 := lhid (HO_6.out.next hb)
  have HB_11 := lhid (below_then HB_7.out HB_7.out.size hb)
  have BX_12 := lhid (blk_below BX_8.out hb)
  have BG_13 := lhid (blk_below BG_9.out hb)
  clear HO_6 HB_7 BX_8 BG_9 hb
  clear hx0 hx1 hx2 hx3 hx4 hx5 hx6 hx7 hx8
  go_wp2_with fail
  with_reducible refine (custody_person.calls by_ true w3 (by rw [person_f]; exact congrArg some hp)).mono ?_
  rintro e w4 ⟨rfl, nd, hq⟩
  have hb := pw_below_drewN (Below.refl w3.heap.size w3) nd
  rw [← hq] at hb
  clear hq
  have HO_14 := lhid (HO_10.out.next hb)
  have HB_15 := lhid (below_then HB_11.out HB_11.out.size hb)
  have BX_16 := lhid (blk_below BX_12.out hb)
  have BG_17 := lhid (blk_below BG_13.out hb)
  clear HO_10 HB_11 BX_12 BG_13 hb
  go_wp2_with fail
  with_reducible refine (refuse_no _ 2).mono ?_
  rintro e w' ⟨rfl, rfl⟩
  have HR := lhid (show ((by_ == x.f3) && stB day G m && (bits .and .i64 x.f5 2 != 0) && ((bits .andNot .i64 v x.f4 == 0) && (bits .andNot .i64 r x.f5 == 0) && decide (u ≤ x.f6)) && (decide (x.f7 = -1) || (!decide (s = -1) && decide (s ≤ x.f7)))) = false by rw [HX.out]; exact HH.out)
  clear HH
  by_cases c1 : by_ = x.f3
  · have d1 : (by_ != x.f3) = false := bne_eq_false_iff_eq.mpr c1
    have hcs := HO_14.out.cells m hm1 hm2
    rw [← HX.out] at hcs
    obtain ⟨x0, x1, x2, x3, x4, x5, x6, x7, x8⟩ := hcs
    go_wp2_with fail
    with_reducible refine (stands_calls base g F w4 day G E m HO_14.out.bk HT.out (by omega) (by omega)).mono ?_
    rintro e w5 ⟨rfl, hb⟩
    have HO_18 := lhid (HO_14.out.next hb)
    have HB_19 := lhid (below_then HB_15.out HB_15.out.size hb)
    have BX_20 := lhid (blk_below BX_16.out hb)
    have BG_21 := lhid (blk_below BG_17.out hb)
    clear HO_14 HB_15 BX_16 BG_17 hb
    clear x0 x1 x2 x3 x4 x5 x6 x7 x8
    rw [Int.toNat_natCast]
    cases c2 : stB day G m
    · have hcs := HO_18.out.cells m hm1 hm2
      rw [← HX.out] at hcs
      obtain ⟨x0, x1, x2, x3, x4, x5, x6, x7, x8⟩ := hcs
      go_wp2_with fail
      with_reducible refine (refuse_yes _ 12).mono ?_
      rintro e w' ⟨rfl, rfl⟩
      refine leaves_cons (f := 45) (args := #[.pointer (some ⟨w.heap.size, 0, none⟩)]) (by simp) (by simp [go_sem]) ?_
      refine (catch45_panicking ⟨w.heap.size, 0, none⟩ 0 12 [] _ (blk_cell BX_20.out 0) (blk_frozen BX_20.out 0)).mono ?_
      rintro e u' w'' ⟨rfl, rfl, w1, hb, rfl⟩
      have hbw := (below_then HB_19.out HB_19.out.size hb).setCell (p := ⟨w.heap.size, 0, none⟩) (Nat.le_refl _) (.int .i64 12)
      have hcw := blk_cell (blk_put (blk_below BX_20.out hb) 0 (.int .i64 12) rfl) 0
      simp [Leaves, settle, results, Try.results16, go_sem, hcw]
      exact hbw
    · by_cases c3 : bits .and .i64 x.f5 2 = 0
      · have hcs := HO_18.out.cells m hm1 hm2
        rw [← HX.out] at hcs
        obtain ⟨x0, x1, x2, x3, x4, x5, x6, x7, x8⟩ := hcs
        have d3 : (bits .and .i64 x.f5 2 == 0) = true := beq_iff_eq.mpr c3
        go_wp2_with fail
        with_reducible refine (refuse_yes _ 12).mono ?_
        rintro e w' ⟨rfl, rfl⟩
        refine leaves_cons (f := 45) (args := #[.pointer (some ⟨w.heap.size, 0, none⟩)]) (by simp) (by simp [go_sem]) ?_
        refine (catch45_panicking ⟨w.heap.size, 0, none⟩ 0 12 [] _ (blk_cell BX_20.out 0) (blk_frozen BX_20.out 0)).mono ?_
        rintro e u' w'' ⟨rfl, rfl, w1, hb, rfl⟩
        have hbw := (below_then HB_19.out HB_19.out.size hb).setCell (p := ⟨w.heap.size, 0, none⟩) (Nat.le_refl _) (.int .i64 12)
        have hcw := blk_cell (blk_put (blk_below BX_20.out hb) 0 (.int .i64 12) rfl) 0
        simp [Leaves, settle, results, Try.results16, go_sem, hcw]
        exact hbw
      · have hcs := HO_18.out.cells m hm1 hm2
        rw [← HX.out] at hcs
        obtain ⟨x0, x1, x2, x3, x4, x5, x6, x7, x8⟩ := hcs
        have d3 : (bits .and .i64 x.f5 2 == 0) = false := beq_eq_false_iff_ne.mpr c3
        go_wp2_with fail
        with_reducible refine (refuse_no _ 12).mono ?_
        rintro e w' ⟨rfl, rfl⟩
        clear x0 x1 x2 x3 x4 x5 x6 x7 x8
        by_cases c4 : bits .andNot .i64 v x.f4 = 0
        · have d4 : (bits .andNot .i64 v x.f4 != 0) = false := bne_eq_false_iff_eq.mpr c4
          by_cases c5 : bits .andNot .i64 r x.f5 = 0
          · have d5 : (bits .andNot .i64 r x.f5 != 0) = false := bne_eq_false_iff_eq.mpr c5
            by_cases c6 : u ≤ x.f6
            · have d6 : decide (u > x.f6) = false := decide_eq_false (by omega)
              have hcs := HO_18.out.cells m hm1 hm2
              rw [← HX.out] at hcs
              obtain ⟨x0, x1, x2, x3, x4, x5, x6, x7, x8⟩ := hcs
              go_wp2_with fail
              with_reducible refine (refuse_no _ 12).mono ?_
              rintro e w' ⟨rfl, rfl⟩
              clear x0 x1 x2 x3 x4 x5 x6 x7 x8
              by_cases c7 : x.f7 = -1
              · exfalso
                have q := HR.out
                rw [c2] at q
                simp [c1, c3, c4, c5, c6, c7] at q
              · have d7 : (x.f7 != -1) = true := bne_iff_ne.mpr c7
                by_cases c8 : s = -1
                · have hcs := HO_18.out.cells m hm1 hm2
                  rw [← HX.out] at hcs
                  obtain ⟨x0, x1, x2, x3, x4, x5, x6, x7, x8⟩ := hcs
                  have d8 : (s == -1) = true := beq_iff_eq.mpr c8
                  go_wp2_with fail
                  with_reducible refine (refuse_yes _ 12).mono ?_
                  rintro e w' ⟨rfl, rfl⟩
                  refine leaves_cons (f := 45) (args := #[.pointer (some ⟨w.heap.size, 0, none⟩)]) (by simp) (by simp [go_sem]) ?_
                  refine (catch45_panicking ⟨w.heap.size, 0, none⟩ 0 12 [] _ (blk_cell BX_20.out 0) (blk_frozen BX_20.out 0)).mono ?_
                  rintro e u' w'' ⟨rfl, rfl, w1, hb, rfl⟩
                  have hbw := (below_then HB_19.out HB_19.out.size hb).setCell (p := ⟨w.heap.size, 0, none⟩) (Nat.le_refl _) (.int .i64 12)
                  have hcw := blk_cell (blk_put (blk_below BX_20.out hb) 0 (.int .i64 12) rfl) 0
                  simp [Leaves, settle, results, Try.results16, go_sem, hcw]
                  exact hbw
                · have d8 : (s == -1) = false := beq_eq_false_iff_ne.mpr c8
                  by_cases c9 : s ≤ x.f7
                  · exfalso
                    have q := HR.out
                    rw [c2] at q
                    simp [c1, c3, c4, c5, c6, c7, c8, c9] at q
                  · have hcs := HO_18.out.cells m hm1 hm2
                    rw [← HX.out] at hcs
                    obtain ⟨x0, x1, x2, x3, x4, x5, x6, x7, x8⟩ := hcs
                    have d9 : decide (s > x.f7) = true := decide_eq_true (by omega)
                    go_wp2_with fail
                    with_reducible refine (refuse_yes _ 12).mono ?_
                    rintro e w' ⟨rfl, rfl⟩
                    refine leaves_cons (f := 45) (args := #[.pointer (some ⟨w.heap.size, 0, none⟩)]) (by simp) (by simp [go_sem]) ?_
                    refine (catch45_panicking ⟨w.heap.size, 0, none⟩ 0 12 [] _ (blk_cell BX_20.out 0) (blk_frozen BX_20.out 0)).mono ?_
                    rintro e u' w'' ⟨rfl, rfl, w1, hb, rfl⟩
                    have hbw := (below_then HB_19.out HB_19.out.size hb).setCell (p := ⟨w.heap.size, 0, none⟩) (Nat.le_refl _) (.int .i64 12)
                    have hcw := blk_cell (blk_put (blk_below BX_20.out hb) 0 (.int .i64 12) rfl) 0
                    simp [Leaves, settle, results, Try.results16, go_sem, hcw]
                    exact hbw
            · have hcs := HO_18.out.cells m hm1 hm2
              rw [← HX.out] at hcs
              obtain ⟨x0, x1, x2, x3, x4, x5, x6, x7, x8⟩ := hcs
              have d6 : decide (u > x.f6) = true := decide_eq_true (by omega)
              go_wp2_with fail
              with_reducible refine (refuse_yes _ 12).mono ?_
              rintro e w' ⟨rfl, rfl⟩
              refine leaves_cons (f := 45) (args := #[.pointer (some ⟨w.heap.size, 0, none⟩)]) (by simp) (by simp [go_sem]) ?_
              refine (catch45_panicking ⟨w.heap.size, 0, none⟩ 0 12 [] _ (blk_cell BX_20.out 0) (blk_frozen BX_20.out 0)).mono ?_
              rintro e u' w'' ⟨rfl, rfl, w1, hb, rfl⟩
              have hbw := (below_then HB_19.out HB_19.out.size hb).setCell (p := ⟨w.heap.size, 0, none⟩) (Nat.le_refl _) (.int .i64 12)
              have hcw := blk_cell (blk_put (blk_below BX_20.out hb) 0 (.int .i64 12) rfl) 0
              simp [Leaves, settle, results, Try.results16, go_sem, hcw]
              exact hbw
          · have hcs := HO_18.out.cells m hm1 hm2
            rw [← HX.out] at hcs
            obtain ⟨x0, x1, x2, x3, x4, x5, x6, x7, x8⟩ := hcs
            have d5 : (bits .andNot .i64 r x.f5 != 0) = true := bne_iff_ne.mpr c5
            go_wp2_with fail
            with_reducible refine (refuse_yes _ 12).mono ?_
            rintro e w' ⟨rfl, rfl⟩
            refine leaves_cons (f := 45) (args := #[.pointer (some ⟨w.heap.size, 0, none⟩)]) (by simp) (by simp [go_sem]) ?_
            refine (catch45_panicking ⟨w.heap.size, 0, none⟩ 0 12 [] _ (blk_cell BX_20.out 0) (blk_frozen BX_20.out 0)).mono ?_
            rintro e u' w'' ⟨rfl, rfl, w1, hb, rfl⟩
            have hbw := (below_then HB_19.out HB_19.out.size hb).setCell (p := ⟨w.heap.size, 0, none⟩) (Nat.le_refl _) (.int .i64 12)
            have hcw := blk_cell (blk_put (blk_below BX_20.out hb) 0 (.int .i64 12) rfl) 0
            simp [Leaves, settle, results, Try.results16, go_sem, hcw]
            exact hbw
        · have hcs := HO_18.out.cells m hm1 hm2
          rw [← HX.out] at hcs
          obtain ⟨x0, x1, x2, x3, x4, x5, x6, x7, x8⟩ := hcs
          have d4 : (bits .andNot .i64 v x.f4 != 0) = true := bne_iff_ne.mpr c4
          go_wp2_with fail
          with_reducible refine (refuse_yes _ 12).mono ?_
          rintro e w' ⟨rfl, rfl⟩
          refine leaves_cons (f := 45) (args := #[.pointer (some ⟨w.heap.size, 0, none⟩)]) (by simp) (by simp [go_sem]) ?_
          refine (catch45_panicking ⟨w.heap.size, 0, none⟩ 0 12 [] _ (blk_cell BX_20.out 0) (blk_frozen BX_20.out 0)).mono ?_
          rintro e u' w'' ⟨rfl, rfl, w1, hb, rfl⟩
          have hbw := (below_then HB_19.out HB_19.out.size hb).setCell (p := ⟨w.heap.size, 0, none⟩) (Nat.le_refl _) (.int .i64 12)
          have hcw := blk_cell (blk_put (blk_below BX_20.out hb) 0 (.int .i64 12) rfl) 0
          simp [Leaves, settle, results, Try.results16, go_sem, hcw]
          exact hbw
  · have hcs := HO_14.out.cells m hm1 hm2
    rw [← HX.out] at hcs
    obtain ⟨x0, x1, x2, x3, x4, x5, x6, x7, x8⟩ := hcs
    have d1 : (by_ != x.f3) = true := bne_iff_ne.mpr c1
    go_wp2_with fail
    with_reducible refine (refuse_yes _ 12).mono ?_
    rintro e w' ⟨rfl, rfl⟩
    refine leaves_cons (f := 45) (args := #[.pointer (some ⟨w.heap.size, 0, none⟩)]) (by simp) (by simp [go_sem]) ?_
    refine (catch45_panicking ⟨w.heap.size, 0, none⟩ 0 12 [] _ (blk_cell BX_16.out 0) (blk_frozen BX_16.out 0)).mono ?_
    rintro e u' w'' ⟨rfl, rfl, w1, hb, rfl⟩
    have hbw := (below_then HB_15.out HB_15.out.size hb).setCell (p := ⟨w.heap.size, 0, none⟩) (Nat.le_refl _) (.int .i64 12)
    have hcw := blk_cell (blk_put (blk_below BX_16.out hb) 0 (.int .i64 12) rfl) 0
    simp [Leaves, settle, results, Try.results16, go_sem, hcw]
    exact hbw
theorem Pass_full (base g : Nat) (F : Nat → Prop) (w : World) (day : Int) (G : List S39) (E : List S44) (n by_ h_ v r u s : Int) (h : BK base F w g day G E) (hT : Tree G) (h1 : 1 ≤ n) (h2 : n ≤ G.length) (hm : mayB h_ v r u s = true) (hp : perB by_ = true) (hh : rightB day G n.toNat by_ v r u s = true) (hl2 : 128 ≤ G.length) : Calls Try.prog 16 #[.pointer (some ⟨g, 0, none⟩), .int .i64 n, .int .i64 by_, .int .i64 h_, .int .i64 v, .int .i64 r, .int .i64 u, .int .i64 s] w fun e w' => e = .returned (.tuple #[.int .i64 0, .int .i64 8]) ∧ Below w.heap.size w w' := by
  have hu70 := Try.underlying70
  have hu39 := Try.underlying39
  obtain ⟨AG, cG, AE, cE, ho⟩ := h.opn
  obtain ⟨b, hA, hFb⟩ := ho.ad (by omega)
  subst hA
  have hl := hT.1
  obtain ⟨m, rfl⟩ : ∃ m : Nat, n = m := ⟨n.toNat, by omega⟩
  have hm1 : 1 ≤ m := by omega
  have hm2 : m ≤ G.length := by omega
  have HT := lhid hT
  have HF := lhid (show ∀ k, F k → k < w.heap.size from fun k q => (h.fb k q).2)
  clear h hT
  have HO_1 := lhid (ho)
  clear ho
  rw [Int.toNat_natCast] at hh
  have HH := lhid hh
  clear hh
  obtain ⟨x, hx⟩ : ∃ x, x = gr G m := ⟨_, rfl⟩
  have HX := lhid hx
  clear hx
  have hmf : ∀ (fn : Fn) (first cap : Array Value) (w : World), (Instr.makeFunc fn first cap).run Try.prog w = .ok (.func fn first cap) w := fun _ _ _ _ => rfl
  go_enter_defers Try.func16, Try.ntmps16
  go_upto_region 2 with (fail)
  have HB_2 := lhid (Below.refl w.heap.size w)
  have hb := below_alloc (Below.refl w.heap.size w) (.cells #[.int .i64 0] 24)
  have hn := blk_new w (.cells #[.int .i64 0] 24)
  have HZ1 := lhid (show (World.alloc w (.cells #[.int .i64 0] 24)).heap.size = w.heap.size + 1 from by simp)
  generalize hq : World.alloc w (.cells #[.int .i64 0] 24) = w1 at hb hn HZ1 ⊢
  clear hq
  have HO_3 := lhid (HO_1.out.next hb)
  have HB_4 := lhid (below_then HB_2.out HB_2.out.size hb)
  clear HO_1 HB_2 hb
  have BX_5 := lhid (hn)
  clear hn
  clear hmf
  go_wp2_with fail
  with_reducible refine (get_some base g F w1 day G E cG AE cE b m HO_3.out (by omega) (by omega) (by omega)).mono ?_
  rintro e w' ⟨rfl, rfl⟩
  rw [Int.toNat_natCast]
  unfold pt
  have hcs := HO_3.out.cells m hm1 hm2
  rw [← HX.out] at hcs
  obtain ⟨x0, x1, x2, x3, x4, x5, x6, x7, x8⟩ := hcs
  go_upto_region 4 with (fail)
  clear x0 x1 x2 x3 x4 x5 x6 x7 x8
  have hb := below_alloc (Below.refl w1.heap.size w1) (.cells #[.int .i64 0, .int .i64 m, .int .i64 x.f2, .int .i64 h_, .int .i64 v, .int .i64 r, .int .i64 u, .int .i64 s, .bool false] 39)
  have hn := blk_new w1 (.cells #[.int .i64 0, .int .i64 m, .int .i64 x.f2, .int .i64 h_, .int .i64 v, .int .i64 r, .int .i64 u, .int .i64 s, .bool false] 39)
  have HZ2 := lhid (show (World.alloc w1 (.cells #[.int .i64 0, .int .i64 m, .int .i64 x.f2, .int .i64 h_, .int .i64 v, .int .i64 r, .int .i64 u, .int .i64 s, .bool false] 39)).heap.size = w1.heap.size + 1 from by simp)
  generalize hq : World.alloc w1 (.cells #[.int .i64 0, .int .i64 m, .int .i64 x.f2, .int .i64 h_, .int .i64 v, .int .i64 r, .int .i64 u, .int .i64 s, .bool false] 39) = w2 at hb hn HZ2 ⊢
  clear hq
  have HO_6 := lhid (HO_3.out.next hb)
  have HB_7 := lhid (below_then HB_4.out HB_4.out.size hb)
  have BX_8 := lhid (blk_below BX_5.out hb)
  clear HO_3 HB_4 BX_5 hb
  have BG_9 := lhid (hn)
  clear hn
  obtain ⟨gb, hgb⟩ : ∃ q, q = w1.heap.size := ⟨_, rfl⟩
  rw [← hgb] at BG_9 ⊢
  clear hgb
  obtain ⟨hx0, hx1, hx2, hx3, hx4, hx5, hx6, hx7, hx8⟩ := nine BG_9.out
  go_wp2_with fail
  with_reducible refine (custody_may.calls 0 m x.f2 h_ v r u s false true w2 (by rw [may_f]; exact congrArg some hm)).mono ?_
  rintro e w3 ⟨rfl, hb⟩
  have HO_10 := lhid (HO_6.out.next hb)
  have HB_11 := lhid (below_then HB_7.out HB_7.out.size hb)
  have BX_12 := lhid (blk_below BX_8.out hb)
  have BG_13 := lhid (blk_below BG_9.out hb)
  clear HO_6 HB_7 BX_8 BG_9 hb
  clear hx0 hx1 hx2 hx3 hx4 hx5 hx6 hx7 hx8
  go_wp2_with fail
  with_reducible refine (custody_person.calls by_ true w3 (by rw [person_f]; exact congrArg some hp)).mono ?_
  rintro e w4 ⟨rfl, nd, hq⟩
  have hb := pw_below_drewN (Below.refl w3.heap.size w3) nd
  rw [← hq] at hb
  clear hq
  have HO_14 := lhid (HO_10.out.next hb)
  have HB_15 := lhid (below_then HB_11.out HB_11.out.size hb)
  have BX_16 := lhid (blk_below BX_12.out hb)
  have BG_17 := lhid (blk_below BG_13.out hb)
  clear HO_10 HB_11 BX_12 BG_13 hb
  go_wp2_with fail
  with_reducible refine (refuse_no _ 2).mono ?_
  rintro e w' ⟨rfl, rfl⟩
  have HR := lhid (show ((by_ == x.f3) && stB day G m && (bits .and .i64 x.f5 2 != 0) && ((bits .andNot .i64 v x.f4 == 0) && (bits .andNot .i64 r x.f5 == 0) && decide (u ≤ x.f6)) && (decide (x.f7 = -1) || (!decide (s = -1) && decide (s ≤ x.f7)))) = true by rw [HX.out]; exact HH.out)
  clear HH
  have hr := HR.out
  simp only [Bool.and_eq_true] at hr
  obtain ⟨⟨⟨⟨c1, c2⟩, c3⟩, ⟨c4, c5⟩, c6⟩, c7⟩ := hr
  clear HR
  have d1 : (by_ != x.f3) = false := bne_eq_false_iff_eq.mpr (beq_iff_eq.mp c1)
  have d3 : (bits .and .i64 x.f5 2 == 0) = false := beq_eq_false_iff_ne.mpr (bne_iff_ne.mp c3)
  have d4 : (bits .andNot .i64 v x.f4 != 0) = false := bne_eq_false_iff_eq.mpr (beq_iff_eq.mp c4)
  have d5 : (bits .andNot .i64 r x.f5 != 0) = false := bne_eq_false_iff_eq.mpr (beq_iff_eq.mp c5)
  have hu6 := of_decide_eq_true c6
  have d6 : decide (u > x.f6) = false := decide_eq_false (by omega)
  clear c1 c3 c4 c5 c6 hu6
  have hcs := HO_14.out.cells m hm1 hm2
  rw [← HX.out] at hcs
  obtain ⟨x0, x1, x2, x3, x4, x5, x6, x7, x8⟩ := hcs
  go_wp2_with fail
  with_reducible refine (stands_calls base g F w4 day G E m HO_14.out.bk HT.out (by omega) (by omega)).mono ?_
  rintro e w5 ⟨rfl, hb⟩
  have HO_18 := lhid (HO_14.out.next hb)
  have HB_19 := lhid (below_then HB_15.out HB_15.out.size hb)
  have BX_20 := lhid (blk_below BX_16.out hb)
  have BG_21 := lhid (blk_below BG_17.out hb)
  clear HO_14 HB_15 BX_16 BG_17 hb
  clear x0 x1 x2 x3 x4 x5 x6 x7 x8
  rw [Int.toNat_natCast, c2]
  clear c2
  have hcs := HO_18.out.cells m hm1 hm2
  rw [← HX.out] at hcs
  obtain ⟨x0, x1, x2, x3, x4, x5, x6, x7, x8⟩ := hcs
  go_wp2_with fail
  with_reducible refine (refuse_no _ 12).mono ?_
  rintro e w' ⟨rfl, rfl⟩
  clear x0 x1 x2 x3 x4 x5 x6 x7 x8
  clear d1 d3
  have hcs := HO_18.out.cells m hm1 hm2
  rw [← HX.out] at hcs
  obtain ⟨x0, x1, x2, x3, x4, x5, x6, x7, x8⟩ := hcs
  go_wp2_with fail
  with_reducible refine (refuse_no _ 12).mono ?_
  rintro e w' ⟨rfl, rfl⟩
  clear x0 x1 x2 x3 x4 x5 x6 x7 x8
  clear d4 d5 d6
  by_cases c8 : x.f7 = -1
  · have d7 : (x.f7 != -1) = false := bne_eq_false_iff_eq.mpr c8
    have hcs := HO_18.out.cells m hm1 hm2
    rw [← HX.out] at hcs
    obtain ⟨x0, x1, x2, x3, x4, x5, x6, x7, x8⟩ := hcs
    go_wp2_with fail
    with_reducible refine (refuse_no _ 12).mono ?_
    rintro e w' ⟨rfl, rfl⟩
    clear x0 x1 x2 x3 x4 x5 x6 x7 x8
    obtain ⟨hx0, hx1, hx2, hx3, hx4, hx5, hx6, hx7, hx8⟩ := nine BG_21.out
    go_wp2_with fail
    with_reducible refine (add_full base g F w5 day G E ⟨0, m, x.f2, h_, v, r, u, s, false⟩ HO_18.out.bk hl2).mono ?_
    rintro e w6 ⟨rfl, hb⟩
    have HO_22 := lhid (HO_18.out.next hb)
    have HB_23 := lhid (below_then HB_19.out HB_19.out.size hb)
    have BX_24 := lhid (blk_below BX_20.out hb)
    have BG_25 := lhid (blk_below BG_21.out hb)
    clear HO_18 HB_19 BX_20 BG_21 hb
    refine leaves_cons (f := 45) (args := #[.pointer (some ⟨w.heap.size, 0, none⟩)]) (by simp) (by simp [go_sem]) ?_
    refine (catch45_panicking ⟨w.heap.size, 0, none⟩ 0 8 [] _ (blk_cell BX_24.out 0) (blk_frozen BX_24.out 0)).mono ?_
    rintro e u' w'' ⟨rfl, rfl, w1, hb, rfl⟩
    have hbw := (below_then HB_23.out HB_23.out.size hb).setCell (p := ⟨w.heap.size, 0, none⟩) (Nat.le_refl _) (.int .i64 8)
    have hcw := blk_cell (blk_put (blk_below BX_24.out hb) 0 (.int .i64 8) rfl) 0
    simp [Leaves, settle, results, Try.results16, go_sem, hcw]
    exact hbw
  · have d7 : (x.f7 != -1) = true := bne_iff_ne.mpr c8
    have c9 : s ≠ -1 ∧ s ≤ x.f7 := by simpa [c8] using c7
    have d8 : (s == -1) = false := beq_eq_false_iff_ne.mpr c9.1
    have hs9 := c9.2
    have d9 : decide (s > x.f7) = false := decide_eq_false (by omega)
    clear c9 c7 hs9
    have hcs := HO_18.out.cells m hm1 hm2
    rw [← HX.out] at hcs
    obtain ⟨x0, x1, x2, x3, x4, x5, x6, x7, x8⟩ := hcs
    go_wp2_with fail
    with_reducible refine (refuse_no _ 12).mono ?_
    rintro e w' ⟨rfl, rfl⟩
    clear x0 x1 x2 x3 x4 x5 x6 x7 x8
    obtain ⟨hx0, hx1, hx2, hx3, hx4, hx5, hx6, hx7, hx8⟩ := nine BG_21.out
    go_wp2_with fail
    with_reducible refine (add_full base g F w5 day G E ⟨0, m, x.f2, h_, v, r, u, s, false⟩ HO_18.out.bk hl2).mono ?_
    rintro e w6 ⟨rfl, hb⟩
    have HO_26 := lhid (HO_18.out.next hb)
    have HB_27 := lhid (below_then HB_19.out HB_19.out.size hb)
    have BX_28 := lhid (blk_below BX_20.out hb)
    have BG_29 := lhid (blk_below BG_21.out hb)
    clear HO_18 HB_19 BX_20 BG_21 hb
    refine leaves_cons (f := 45) (args := #[.pointer (some ⟨w.heap.size, 0, none⟩)]) (by simp) (by simp [go_sem]) ?_
    refine (catch45_panicking ⟨w.heap.size, 0, none⟩ 0 8 [] _ (blk_cell BX_28.out 0) (blk_frozen BX_28.out 0)).mono ?_
    rintro e u' w'' ⟨rfl, rfl, w1, hb, rfl⟩
    have hbw := (below_then HB_27.out HB_27.out.size hb).setCell (p := ⟨w.heap.size, 0, none⟩) (Nat.le_refl _) (.int .i64 8)
    have hcw := blk_cell (blk_put (blk_below BX_28.out hb) 0 (.int .i64 8) rfl) 0
    simp [Leaves, settle, results, Try.results16, go_sem, hcw]
    exact hbw
theorem Pass_ok (base g : Nat) (F : Nat → Prop) (w : World) (day : Int) (G : List S39) (E : List S44) (n by_ h_ v r u s : Int) (h : BK base F w g day G E) (hT : Tree G) (h1 : 1 ≤ n) (h2 : n ≤ G.length) (hm : mayB h_ v r u s = true) (hp : perB by_ = true) (hh : rightB day G n.toNat by_ v r u s = true) (hl2 : G.length < 128) : Calls Try.prog 16 #[.pointer (some ⟨g, 0, none⟩), .int .i64 n, .int .i64 by_, .int .i64 h_, .int .i64 v, .int .i64 r, .int .i64 u, .int .i64 s] w fun e w' => e = .returned (.tuple #[.int .i64 ((G.length : Int) + 1), .int .i64 0]) ∧ Got base F w w' g day (G ++ [newG G ⟨0, n, (gr G n.toNat).f2, h_, v, r, u, s, false⟩]) E := by
  have hu70 := Try.underlying70
  have hu39 := Try.underlying39
  obtain ⟨AG, cG, AE, cE, ho⟩ := h.opn
  obtain ⟨b, hA, hFb⟩ := ho.ad (by omega)
  subst hA
  have hl := hT.1
  obtain ⟨m, rfl⟩ : ∃ m : Nat, n = m := ⟨n.toNat, by omega⟩
  have hm1 : 1 ≤ m := by omega
  have hm2 : m ≤ G.length := by omega
  have HT := lhid hT
  have HF := lhid (show ∀ k, F k → k < w.heap.size from fun k q => (h.fb k q).2)
  clear h hT
  have HO_1 := lhid (ho)
  clear ho
  rw [Int.toNat_natCast] at hh
  have HH := lhid hh
  clear hh
  obtain ⟨x, hx⟩ : ∃ x, x = gr G m := ⟨_, rfl⟩
  have HX := lhid hx
  clear hx
  have hmf : ∀ (fn : Fn) (first cap : Array Value) (w : World), (Instr.makeFunc fn first cap).run Try.prog w = .ok (.func fn first cap) w := fun _ _ _ _ => rfl
  go_enter_defers Try.func16, Try.ntmps16
  go_upto_region 2 with (fail)
  have HB_2 := lhid (Below.refl w.heap.size w)
  have hb := below_alloc (Below.refl w.heap.size w) (.cells #[.int .i64 0] 24)
  have hn := blk_new w (.cells #[.int .i64 0] 24)
  have HZ1 := lhid (show (World.alloc w (.cells #[.int .i64 0] 24)).heap.size = w.heap.size + 1 from by simp)
  generalize hq : World.alloc w (.cells #[.int .i64 0] 24) = w1 at hb hn HZ1 ⊢
  clear hq
  have HO_3 := lhid (HO_1.out.next hb)
  have HB_4 := lhid (below_then HB_2.out HB_2.out.size hb)
  clear HO_1 HB_2 hb
  have BX_5 := lhid (hn)
  clear hn
  clear hmf
  go_wp2_with fail
  with_reducible refine (get_some base g F w1 day G E cG AE cE b m HO_3.out (by omega) (by omega) (by omega)).mono ?_
  rintro e w' ⟨rfl, rfl⟩
  rw [Int.toNat_natCast]
  unfold pt
  have hcs := HO_3.out.cells m hm1 hm2
  rw [← HX.out] at hcs
  obtain ⟨x0, x1, x2, x3, x4, x5, x6, x7, x8⟩ := hcs
  go_upto_region 4 with (fail)
  clear x0 x1 x2 x3 x4 x5 x6 x7 x8
  have hb := below_alloc (Below.refl w1.heap.size w1) (.cells #[.int .i64 0, .int .i64 m, .int .i64 x.f2, .int .i64 h_, .int .i64 v, .int .i64 r, .int .i64 u, .int .i64 s, .bool false] 39)
  have hn := blk_new w1 (.cells #[.int .i64 0, .int .i64 m, .int .i64 x.f2, .int .i64 h_, .int .i64 v, .int .i64 r, .int .i64 u, .int .i64 s, .bool false] 39)
  have HZ2 := lhid (show (World.alloc w1 (.cells #[.int .i64 0, .int .i64 m, .int .i64 x.f2, .int .i64 h_, .int .i64 v, .int .i64 r, .int .i64 u, .int .i64 s, .bool false] 39)).heap.size = w1.heap.size + 1 from by simp)
  generalize hq : World.alloc w1 (.cells #[.int .i64 0, .int .i64 m, .int .i64 x.f2, .int .i64 h_, .int .i64 v, .int .i64 r, .int .i64 u, .int .i64 s, .bool false] 39) = w2 at hb hn HZ2 ⊢
  clear hq
  have HO_6 := lhid (HO_3.out.next hb)
  have HB_7 := lhid (below_then HB_4.out HB_4.out.size hb)
  have BX_8 := lhid (blk_below BX_5.out hb)
  clear HO_3 HB_4 BX_5 hb
  have BG_9 := lhid (hn)
  clear hn
  obtain ⟨gb, hgb⟩ : ∃ q, q = w1.heap.size := ⟨_, rfl⟩
  rw [← hgb] at BG_9 ⊢
  clear hgb
  obtain ⟨hx0, hx1, hx2, hx3, hx4, hx5, hx6, hx7, hx8⟩ := nine BG_9.out
  go_wp2_with fail
  with_reducible refine (custody_may.calls 0 m x.f2 h_ v r u s false true w2 (by rw [may_f]; exact congrArg some hm)).mono ?_
  rintro e w3 ⟨rfl, hb⟩
  have HO_10 := lhid (HO_6.out.next hb)
  have HB_11 := lhid (below_then HB_7.out HB_7.out.size hb)
  have BX_12 := lhid (blk_below BX_8.out hb)
  have BG_13 := lhid (blk_below BG_9.out hb)
  clear HO_6 HB_7 BX_8 BG_9 hb
  clear hx0 hx1 hx2 hx3 hx4 hx5 hx6 hx7 hx8
  go_wp2_with fail
  with_reducible refine (custody_person.calls by_ true w3 (by rw [person_f]; exact congrArg some hp)).mono ?_
  rintro e w4 ⟨rfl, nd, hq⟩
  have hb := pw_below_drewN (Below.refl w3.heap.size w3) nd
  rw [← hq] at hb
  clear hq
  have HO_14 := lhid (HO_10.out.next hb)
  have HB_15 := lhid (below_then HB_11.out HB_11.out.size hb)
  have BX_16 := lhid (blk_below BX_12.out hb)
  have BG_17 := lhid (blk_below BG_13.out hb)
  clear HO_10 HB_11 BX_12 BG_13 hb
  go_wp2_with fail
  with_reducible refine (refuse_no _ 2).mono ?_
  rintro e w' ⟨rfl, rfl⟩
  have HR := lhid (show ((by_ == x.f3) && stB day G m && (bits .and .i64 x.f5 2 != 0) && ((bits .andNot .i64 v x.f4 == 0) && (bits .andNot .i64 r x.f5 == 0) && decide (u ≤ x.f6)) && (decide (x.f7 = -1) || (!decide (s = -1) && decide (s ≤ x.f7)))) = true by rw [HX.out]; exact HH.out)
  clear HH
  have hr := HR.out
  simp only [Bool.and_eq_true] at hr
  obtain ⟨⟨⟨⟨c1, c2⟩, c3⟩, ⟨c4, c5⟩, c6⟩, c7⟩ := hr
  clear HR
  have d1 : (by_ != x.f3) = false := bne_eq_false_iff_eq.mpr (beq_iff_eq.mp c1)
  have d3 : (bits .and .i64 x.f5 2 == 0) = false := beq_eq_false_iff_ne.mpr (bne_iff_ne.mp c3)
  have d4 : (bits .andNot .i64 v x.f4 != 0) = false := bne_eq_false_iff_eq.mpr (beq_iff_eq.mp c4)
  have d5 : (bits .andNot .i64 r x.f5 != 0) = false := bne_eq_false_iff_eq.mpr (beq_iff_eq.mp c5)
  have hu6 := of_decide_eq_true c6
  have d6 : decide (u > x.f6) = false := decide_eq_false (by omega)
  clear c1 c3 c4 c5 c6 hu6
  have hcs := HO_14.out.cells m hm1 hm2
  rw [← HX.out] at hcs
  obtain ⟨x0, x1, x2, x3, x4, x5, x6, x7, x8⟩ := hcs
  go_wp2_with fail
  with_reducible refine (stands_calls base g F w4 day G E m HO_14.out.bk HT.out (by omega) (by omega)).mono ?_
  rintro e w5 ⟨rfl, hb⟩
  have HO_18 := lhid (HO_14.out.next hb)
  have HB_19 := lhid (below_then HB_15.out HB_15.out.size hb)
  have BX_20 := lhid (blk_below BX_16.out hb)
  have BG_21 := lhid (blk_below BG_17.out hb)
  clear HO_14 HB_15 BX_16 BG_17 hb
  clear x0 x1 x2 x3 x4 x5 x6 x7 x8
  rw [Int.toNat_natCast, c2]
  clear c2
  have hcs := HO_18.out.cells m hm1 hm2
  rw [← HX.out] at hcs
  obtain ⟨x0, x1, x2, x3, x4, x5, x6, x7, x8⟩ := hcs
  go_wp2_with fail
  with_reducible refine (refuse_no _ 12).mono ?_
  rintro e w' ⟨rfl, rfl⟩
  clear x0 x1 x2 x3 x4 x5 x6 x7 x8
  clear d1 d3
  have hcs := HO_18.out.cells m hm1 hm2
  rw [← HX.out] at hcs
  obtain ⟨x0, x1, x2, x3, x4, x5, x6, x7, x8⟩ := hcs
  go_wp2_with fail
  with_reducible refine (refuse_no _ 12).mono ?_
  rintro e w' ⟨rfl, rfl⟩
  clear x0 x1 x2 x3 x4 x5 x6 x7 x8
  clear d4 d5 d6
  by_cases c8 : x.f7 = -1
  · have d7 : (x.f7 != -1) = false := bne_eq_false_iff_eq.mpr c8
    have hcs := HO_18.out.cells m hm1 hm2
    rw [← HX.out] at hcs
    obtain ⟨x0, x1, x2, x3, x4, x5, x6, x7, x8⟩ := hcs
    go_wp2_with fail
    with_reducible refine (refuse_no _ 12).mono ?_
    rintro e w' ⟨rfl, rfl⟩
    clear x0 x1 x2 x3 x4 x5 x6 x7 x8
    obtain ⟨hx0, hx1, hx2, hx3, hx4, hx5, hx6, hx7, hx8⟩ := nine BG_21.out
    go_wp2_with fail
    clear hx0 hx1 hx2 hx3 hx4 hx5 hx6 hx7 hx8
    with_reducible refine (add_calls base g F w5 day G E ⟨0, m, x.f2, h_, v, r, u, s, false⟩ HO_18.out.bk hl2).mono ?_
    rintro e w7 ⟨rfl, hbk, hch⟩
    have HG := lhid (show Got base F w5 w7 g day (G ++ [newG G ⟨0, m, x.f2, h_, v, r, u, s, false⟩]) E from ⟨_, hbk, fun k q => q.imp_right (fun r => r.1), hch⟩)
    have HX7 := lhid (hch.blk BX_20.out (fun q => by have := HF.out _ q; omega))
    have HLT := lhid (blk_lt BX_20.out)
    rw [HX.out] at HG
    clear hbk hch
    have hxc := blk_cell HX7.out 0
    have hxz : ∀ o, w7.frozen? ⟨w.heap.size, o, none⟩ = false := fun o => blk_frozen HX7.out o
    simp only [List.getElem?_toArray, List.getElem?_cons_zero] at hxc
    go_wp2_with fail
    have hz8 := blk_put HX7.out 0 (.int .i64 0) rfl
    have hg8 : Got base F w (World.setCell (World.setCell w7 ⟨w.heap.size, 0, none⟩ (.int .i64 0)) ⟨w.heap.size, 0, none⟩ (.int .i64 0)).drew _ _ _ _ := Got.box HG.out HB_19.out (p := ⟨w.heap.size, 0, none⟩) (Nat.le_refl _) HLT.out HF.out (.int .i64 0) (.int .i64 0)
    generalize World.setCell w7 ⟨w.heap.size, 0, none⟩ (.int .i64 0) = w8 at hz8 hg8 ⊢
    have hcw := blk_cell (blk_put hz8 0 (.int .i64 0) rfl) 0
    have hc8 := blk_cell hz8 0
    have hf8 := blk_frozen hz8 0
    simp only [List.getElem?_toArray, List.getElem?_cons_zero, Array.setIfInBounds_def, List.size_toArray] at hc8 hcw
    refine leaves_cons (f := 45) (args := #[.pointer (some ⟨w.heap.size, 0, none⟩)]) (by simp) (by simp [go_sem]) ?_
    refine (catch45_idle ⟨w.heap.size, 0, none⟩ 0 w8 (by simpa using hc8) hf8).mono ?_
    rintro e u' w'' ⟨rfl, rfl, rfl⟩
    simp [Leaves, settle, results, Try.results16, go_sem, hcw]
    first | exact hg8 | (rw [List.foldl_append] at hg8; exact hg8)
  · have d7 : (x.f7 != -1) = true := bne_iff_ne.mpr c8
    have c9 : s ≠ -1 ∧ s ≤ x.f7 := by simpa [c8] using c7
    have d8 : (s == -1) = false := beq_eq_false_iff_ne.mpr c9.1
    have hs9 := c9.2
    have d9 : decide (s > x.f7) = false := decide_eq_false (by omega)
    clear c9 c7 hs9
    have hcs := HO_18.out.cells m hm1 hm2
    rw [← HX.out] at hcs
    obtain ⟨x0, x1, x2, x3, x4, x5, x6, x7, x8⟩ := hcs
    go_wp2_with fail
    with_reducible refine (refuse_no _ 12).mono ?_
    rintro e w' ⟨rfl, rfl⟩
    clear x0 x1 x2 x3 x4 x5 x6 x7 x8
    obtain ⟨hx0, hx1, hx2, hx3, hx4, hx5, hx6, hx7, hx8⟩ := nine BG_21.out
    go_wp2_with fail
    clear hx0 hx1 hx2 hx3 hx4 hx5 hx6 hx7 hx8
    with_reducible refine (add_calls base g F w5 day G E ⟨0, m, x.f2, h_, v, r, u, s, false⟩ HO_18.out.bk hl2).mono ?_
    rintro e w7 ⟨rfl, hbk, hch⟩
    have HG := lhid (show Got base F w5 w7 g day (G ++ [newG G ⟨0, m, x.f2, h_, v, r, u, s, false⟩]) E from ⟨_, hbk, fun k q => q.imp_right (fun r => r.1), hch⟩)
    have HX7 := lhid (hch.blk BX_20.out (fun q => by have := HF.out _ q; omega))
    have HLT := lhid (blk_lt BX_20.out)
    rw [HX.out] at HG
    clear hbk hch
    have hxc := blk_cell HX7.out 0
    have hxz : ∀ o, w7.frozen? ⟨w.heap.size, o, none⟩ = false := fun o => blk_frozen HX7.out o
    simp only [List.getElem?_toArray, List.getElem?_cons_zero] at hxc
    go_wp2_with fail
    have hz8 := blk_put HX7.out 0 (.int .i64 0) rfl
    have hg8 : Got base F w (World.setCell (World.setCell w7 ⟨w.heap.size, 0, none⟩ (.int .i64 0)) ⟨w.heap.size, 0, none⟩ (.int .i64 0)).drew _ _ _ _ := Got.box HG.out HB_19.out (p := ⟨w.heap.size, 0, none⟩) (Nat.le_refl _) HLT.out HF.out (.int .i64 0) (.int .i64 0)
    generalize World.setCell w7 ⟨w.heap.size, 0, none⟩ (.int .i64 0) = w8 at hz8 hg8 ⊢
    have hcw := blk_cell (blk_put hz8 0 (.int .i64 0) rfl) 0
    have hc8 := blk_cell hz8 0
    have hf8 := blk_frozen hz8 0
    simp only [List.getElem?_toArray, List.getElem?_cons_zero, Array.setIfInBounds_def, List.size_toArray] at hc8 hcw
    refine leaves_cons (f := 45) (args := #[.pointer (some ⟨w.heap.size, 0, none⟩)]) (by simp) (by simp [go_sem]) ?_
    refine (catch45_idle ⟨w.heap.size, 0, none⟩ 0 w8 (by simpa using hc8) hf8).mono ?_
    rintro e u' w'' ⟨rfl, rfl, rfl⟩
    simp [Leaves, settle, results, Try.results16, go_sem, hcw]
    first | exact hg8 | (rw [List.foldl_append] at hg8; exact hg8)
end Go.Proofs.Ytfnlghjkjmppdaa.PC
namespace Go.Proofs.Ytfnlghjkjmppdaa.PC
open Go.RowKit Go.Proofs.YtfnlghjkjmppdaaW.PrintWords Go.Proofs.YtfnlghjkjmppdaaW.PrintLast Go.Proofs.YtfnlghjkjmppdaaW.PrintMore
set_option linter.unusedVariables false
set_option linter.unusedSimpArgs false
def heldB (G : List S39) (n : Nat) (by_ : Int) : Bool := (up G n).any fun m => (gr G m).f3 == by_
def cntS (day : Int) (G : List S39) (l : List Int) : Nat := (l.filter fun m => stB day G m.toNat).length
theorem cntS_snoc (day : Int) (G : List S39) (l : List Int) (i : Nat) (h : i < l.length) : cntS day G (l.take (i + 1)) = if stB day G (l[i]).toNat then cntS day G (l.take i) + 1 else cntS day G (l.take i) := by
  unfold cntS
  rw [List.take_succ_eq_append_getElem h, List.filter_append, List.length_append]
  by_cases c : stB day G (l[i]).toNat = true
  · rw [if_pos c]; simp [c]
  · rw [if_neg c]; simp [c]
theorem cntS_le (day : Int) (G : List S39) (l : List Int) : cntS day G l ≤ l.length := List.length_filter_le _ _
theorem belL_mem {G : List S39} {n : Nat} : ∀ {k : Nat} {x : Int}, x ∈ belL G n k → ∃ m : Nat, x = (m : Int) ∧ n + 1 ≤ m ∧ m ≤ n + k ∧ (up G m).contains n = true
  | 0, x, h => by simp [belL] at h
  | k + 1, x, h => by
    unfold belL at h
    split at h
    · rename_i c
      rcases List.mem_append.1 h with h | h
      · obtain ⟨m, h1, h2, h3, h4⟩ := belL_mem h
        exact ⟨m, h1, h2, by omega, h4⟩
      · simp only [List.mem_singleton] at h
        exact ⟨n + k + 1, h, by omega, by omega, c⟩
    · obtain ⟨m, h1, h2, h3, h4⟩ := belL_mem h
      exact ⟨m, h1, h2, by omega, h4⟩
theorem int_at {w : World} {A : Option Addr} {xs : List Int} {n : Nat} (h : Kd.C (Kd.int .i64) w A n xs) (i : Nat) (hi : i < xs.length) : ∃ ad, A = some ad ∧ w.cell? (ad.add i) = some (.int .i64 (xs[i])) := by
  have hn : n = xs.length := h.1.symm
  obtain ⟨ad, c, e, _, hK, hc⟩ := Kd.C_get h 0 (i : Int) (by omega) (by omega)
  refine ⟨ad, e, ?_⟩
  have hK' : c = [Value.int .i64 (xs.getD (i : Int).toNat 0)] := hK
  subst hK'
  have this : w.cell? (ad.add ((i : Int).toNat * 1 + 0)) = some (Value.int .i64 (xs.getD (i : Int).toNat 0)) := hc 0 _ rfl
  rw [Int.toNat_natCast, List.getD_eq_getElem?_getD, List.getElem?_eq_getElem hi] at this
  simpa using this
theorem Revoke_none (base g : Nat) (F : Nat → Prop) (w : World) (day : Int) (G : List S39) (E : List S44) (n by_ : Int) (h : BK base F w g day G E) (hn : ¬ (1 ≤ n ∧ n ≤ G.length)) : Calls Try.prog 31 #[.pointer (some ⟨g, 0, none⟩), .int .i64 n, .int .i64 by_] w fun e w' => e = .returned (.tuple #[.int .i64 0, .int .i64 6]) ∧ Below w.heap.size w w' := by
  have HBK := lhid h
  clear h
  have hmf : ∀ (fn : Fn) (first cap : Array Value) (w : World), (Instr.makeFunc fn first cap).run Try.prog w = .ok (.func fn first cap) w := fun _ _ _ _ => rfl
  go_enter_defers Try.func31, Try.ntmps31
  go_upto_region 2 with (fail)
  have HB_1 := lhid (Below.refl w.heap.size w)
  have hb := below_alloc (Below.refl w.heap.size w) (.cells #[.int .i64 by_] 3)
  have hn := blk_new w (.cells #[.int .i64 by_] 3)
  have HZ1 := lhid (show (World.alloc w (.cells #[.int .i64 by_] 3)).heap.size = w.heap.size + 1 from by simp)
  generalize hq : World.alloc w (.cells #[.int .i64 by_] 3) = w1 at hb hn HZ1 ⊢
  clear hq
  have HBK_2 := lhid (HBK.out.next hb)
  have HB_3 := lhid (below_then HB_1.out HB_1.out.size hb)
  clear HBK HB_1 hb
  have BY_4 := lhid (hn)
  clear hn
  have hb := below_alloc (Below.refl w1.heap.size w1) (.cells #[.int .i64 0] 24)
  have hn := blk_new w1 (.cells #[.int .i64 0] 24)
  have HZ2 := lhid (show (World.alloc w1 (.cells #[.int .i64 0] 24)).heap.size = w1.heap.size + 1 from by simp)
  generalize hq : World.alloc w1 (.cells #[.int .i64 0] 24) = w2 at hb hn HZ2 ⊢
  clear hq
  have HBK_5 := lhid (HBK_2.out.next hb)
  have HB_6 := lhid (below_then HB_3.out HB_3.out.size hb)
  have BY_7 := lhid (blk_below BY_4.out hb)
  clear HBK_2 HB_3 BY_4 hb
  rw [HZ1.out] at hn
  have BX_8 := lhid (hn)
  clear hn
  clear hmf
  go_wp2_with fail
  with_reducible refine (get_none base g F w2 day G E n HBK_5.out hn).mono ?_
  rintro e w' ⟨rfl, rfl⟩
  refine leaves_cons (f := 59) (args := #[.pointer (some ⟨w.heap.size + 1, 0, none⟩)]) (by simp) (by simp [go_sem]) ?_
  refine (catch59_panicking ⟨w.heap.size + 1, 0, none⟩ 0 6 [] _ (blk_cell BX_8.out 0) (blk_frozen BX_8.out 0)).mono ?_
  rintro e u' w'' ⟨rfl, rfl, w1, hb, rfl⟩
  have hbw := (below_then HB_6.out HB_6.out.size hb).setCell (p := ⟨w.heap.size + 1, 0, none⟩) (Nat.le_add_right _ _) (.int .i64 6)
  have hcw := blk_cell (blk_put (blk_below BX_8.out hb) 0 (.int .i64 6) rfl) 0
  simp [Leaves, settle, results, Try.results31, go_sem, hcw]
  exact hbw
theorem Revoke_per (base g : Nat) (F : Nat → Prop) (w : World) (day : Int) (G : List S39) (E : List S44) (n by_ : Int) (h : BK base F w g day G E) (hT : Tree G) (h1 : 1 ≤ n) (h2 : n ≤ G.length) (hp : perB by_ = false) : Calls Try.prog 31 #[.pointer (some ⟨g, 0, none⟩), .int .i64 n, .int .i64 by_] w fun e w' => e = .returned (.tuple #[.int .i64 0, .int .i64 2]) ∧ Below w.heap.size w w' := by
  have hu70 := Try.underlying70
  have hu39 := Try.underlying39
  obtain ⟨AG, cG, AE, cE, ho⟩ := h.opn
  obtain ⟨b, hA, hFb⟩ := ho.ad (by omega)
  subst hA
  have hl := hT.1
  obtain ⟨m, rfl⟩ : ∃ m : Nat, n = m := ⟨n.toNat, by omega⟩
  have hm1 : 1 ≤ m := by omega
  have hm2 : m ≤ G.length := by omega
  have HT := lhid hT
  have HF := lhid (show ∀ k, F k → k < w.heap.size from fun k q => (h.fb k q).2)
  clear h hT
  try rw [Int.toNat_natCast] at hh
  try rw [Int.toNat_natCast] at hr
  try rw [Int.toNat_natCast]
  have HO_1 := lhid (ho)
  clear ho
  have hmf : ∀ (fn : Fn) (first cap : Array Value) (w : World), (Instr.makeFunc fn first cap).run Try.prog w = .ok (.func fn first cap) w := fun _ _ _ _ => rfl
  go_enter_defers Try.func31, Try.ntmps31
  go_upto_region 2 with (fail)
  have HB_2 := lhid (Below.refl w.heap.size w)
  have hb := below_alloc (Below.refl w.heap.size w) (.cells #[.int .i64 by_] 3)
  have hn := blk_new w (.cells #[.int .i64 by_] 3)
  have HZ1 := lhid (show (World.alloc w (.cells #[.int .i64 by_] 3)).heap.size = w.heap.size + 1 from by simp)
  generalize hq : World.alloc w (.cells #[.int .i64 by_] 3) = w1 at hb hn HZ1 ⊢
  clear hq
  have HO_3 := lhid (HO_1.out.next hb)
  have HB_4 := lhid (below_then HB_2.out HB_2.out.size hb)
  clear HO_1 HB_2 hb
  have BY_5 := lhid (hn)
  clear hn
  have hb := below_alloc (Below.refl w1.heap.size w1) (.cells #[.int .i64 0] 24)
  have hn := blk_new w1 (.cells #[.int .i64 0] 24)
  have HZ2 := lhid (show (World.alloc w1 (.cells #[.int .i64 0] 24)).heap.size = w1.heap.size + 1 from by simp)
  generalize hq : World.alloc w1 (.cells #[.int .i64 0] 24) = w2 at hb hn HZ2 ⊢
  clear hq
  have HO_6 := lhid (HO_3.out.next hb)
  have HB_7 := lhid (below_then HB_4.out HB_4.out.size hb)
  have BY_8 := lhid (blk_below BY_5.out hb)
  clear HO_3 HB_4 BY_5 hb
  rw [HZ1.out] at hn
  have BX_9 := lhid (hn)
  clear hn
  clear hmf
  go_wp2_with fail
  with_reducible refine (get_some base g F w2 day G E cG AE cE b m HO_6.out (by omega) (by omega) (by omega)).mono ?_
  rintro e w' ⟨rfl, rfl⟩
  rw [Int.toNat_natCast]
  unfold pt
  have hby := blk_cell BY_8.out 0
  simp only [List.getElem?_toArray, List.getElem?_cons_zero] at hby
  go_wp2_with fail
  with_reducible refine (custody_person.calls by_ false w2 (by rw [person_f]; exact congrArg some hp)).mono ?_
  rintro e w3 ⟨rfl, nd, hq⟩
  have hb := pw_below_drewN (Below.refl w2.heap.size w2) nd
  rw [← hq] at hb
  clear hq
  have HO_10 := lhid (HO_6.out.next hb)
  have HB_11 := lhid (below_then HB_7.out HB_7.out.size hb)
  have BY_12 := lhid (blk_below BY_8.out hb)
  have BX_13 := lhid (blk_below BX_9.out hb)
  clear HO_6 HB_7 BY_8 BX_9 hb
  go_wp2_with fail
  with_reducible refine (refuse_yes _ 2).mono ?_
  rintro e w' ⟨rfl, rfl⟩
  refine leaves_cons (f := 59) (args := #[.pointer (some ⟨w.heap.size + 1, 0, none⟩)]) (by simp) (by simp [go_sem]) ?_
  refine (catch59_panicking ⟨w.heap.size + 1, 0, none⟩ 0 2 [] _ (blk_cell BX_13.out 0) (blk_frozen BX_13.out 0)).mono ?_
  rintro e u' w'' ⟨rfl, rfl, w1, hb, rfl⟩
  have hbw := (below_then HB_11.out HB_11.out.size hb).setCell (p := ⟨w.heap.size + 1, 0, none⟩) (Nat.le_add_right _ _) (.int .i64 2)
  have hcw := blk_cell (blk_put (blk_below BX_13.out hb) 0 (.int .i64 2) rfl) 0
  simp [Leaves, settle, results, Try.results31, go_sem, hcw]
  exact hbw
theorem Revoke_held (base g : Nat) (F : Nat → Prop) (w : World) (day : Int) (G : List S39) (E : List S44) (n by_ : Int) (h : BK base F w g day G E) (hT : Tree G) (h1 : 1 ≤ n) (h2 : n ≤ G.length) (hp : perB by_ = true) (hh : heldB G n.toNat by_ = false) : Calls Try.prog 31 #[.pointer (some ⟨g, 0, none⟩), .int .i64 n, .int .i64 by_] w fun e w' => e = .returned (.tuple #[.int .i64 0, .int .i64 12]) ∧ Below w.heap.size w w' := by
  have hu70 := Try.underlying70
  have hu39 := Try.underlying39
  obtain ⟨AG, cG, AE, cE, ho⟩ := h.opn
  obtain ⟨b, hA, hFb⟩ := ho.ad (by omega)
  subst hA
  have hl := hT.1
  obtain ⟨m, rfl⟩ : ∃ m : Nat, n = m := ⟨n.toNat, by omega⟩
  have hm1 : 1 ≤ m := by omega
  have hm2 : m ≤ G.length := by omega
  have HT := lhid hT
  have HF := lhid (show ∀ k, F k → k < w.heap.size from fun k q => (h.fb k q).2)
  clear h hT
  try rw [Int.toNat_natCast] at hh
  try rw [Int.toNat_natCast] at hr
  try rw [Int.toNat_natCast]
  have HO_1 := lhid (ho)
  clear ho
  have hmf : ∀ (fn : Fn) (first cap : Array Value) (w : World), (Instr.makeFunc fn first cap).run Try.prog w = .ok (.func fn first cap) w := fun _ _ _ _ => rfl
  go_enter_defers Try.func31, Try.ntmps31
  go_upto_region 2 with (fail)
  have HB_2 := lhid (Below.refl w.heap.size w)
  have hb := below_alloc (Below.refl w.heap.size w) (.cells #[.int .i64 by_] 3)
  have hn := blk_new w (.cells #[.int .i64 by_] 3)
  have HZ1 := lhid (show (World.alloc w (.cells #[.int .i64 by_] 3)).heap.size = w.heap.size + 1 from by simp)
  generalize hq : World.alloc w (.cells #[.int .i64 by_] 3) = w1 at hb hn HZ1 ⊢
  clear hq
  have HO_3 := lhid (HO_1.out.next hb)
  have HB_4 := lhid (below_then HB_2.out HB_2.out.size hb)
  clear HO_1 HB_2 hb
  have BY_5 := lhid (hn)
  clear hn
  have hb := below_alloc (Below.refl w1.heap.size w1) (.cells #[.int .i64 0] 24)
  have hn := blk_new w1 (.cells #[.int .i64 0] 24)
  have HZ2 := lhid (show (World.alloc w1 (.cells #[.int .i64 0] 24)).heap.size = w1.heap.size + 1 from by simp)
  generalize hq : World.alloc w1 (.cells #[.int .i64 0] 24) = w2 at hb hn HZ2 ⊢
  clear hq
  have HO_6 := lhid (HO_3.out.next hb)
  have HB_7 := lhid (below_then HB_4.out HB_4.out.size hb)
  have BY_8 := lhid (blk_below BY_5.out hb)
  clear HO_3 HB_4 BY_5 hb
  rw [HZ1.out] at hn
  have BX_9 := lhid (hn)
  clear hn
  clear hmf
  go_wp2_with fail
  with_reducible refine (get_some base g F w2 day G E cG AE cE b m HO_6.out (by omega) (by omega) (by omega)).mono ?_
  rintro e w' ⟨rfl, rfl⟩
  rw [Int.toNat_natCast]
  unfold pt
  have hby := blk_cell BY_8.out 0
  simp only [List.getElem?_toArray, List.getElem?_cons_zero] at hby
  go_wp2_with fail
  with_reducible refine (custody_person.calls by_ true w2 (by rw [person_f]; exact congrArg some hp)).mono ?_
  rintro e w3 ⟨rfl, nd, hq⟩
  have hb := pw_below_drewN (Below.refl w2.heap.size w2) nd
  rw [← hq] at hb
  clear hq
  have HO_10 := lhid (HO_6.out.next hb)
  have HB_11 := lhid (below_then HB_7.out HB_7.out.size hb)
  have BY_12 := lhid (blk_below BY_8.out hb)
  have BX_13 := lhid (blk_below BX_9.out hb)
  clear HO_6 HB_7 BY_8 BX_9 hb
  go_wp2_with fail
  with_reducible refine (refuse_no _ 2).mono ?_
  rintro e w' ⟨rfl, rfl⟩
  clear hby
  go_wp2_with fail
  with_reducible refine (up_calls base g F w3 day G E (some ⟨b, 0, none⟩) cG AE cE b m HO_10.out HT.out hm2 (fun _ => rfl)).mono ?_
  rintro e w4 ⟨vu, rfl, hU, hb⟩
  have HU_14 := lhid (Kd.R_lower hU HB_11.out.size)
  clear hU
  have HO_15 := lhid (HO_10.out.next hb)
  have HB_16 := lhid (below_then HB_11.out HB_11.out.size hb)
  have BY_17 := lhid (blk_below BY_12.out hb)
  have BX_18 := lhid (blk_below BX_13.out hb)
  clear HO_10 HB_11 BY_12 BX_13 hb
  obtain ⟨Au, cu, rfl⟩ := Kd.R_slice HU_14.out
  obtain ⟨_, hcu, hCU⟩ := Kd.R_reads' HU_14.out
  have HCU := lhid hCU
  have HHU := lhid hcu
  clear hCU hcu
  rw [List.length_map]
  have HML := lhid (show (up G m).length ≤ 1000 by have := up_len HT.out m m (Nat.le_refl _) hm2; omega)
  have HMM := lhid (show ∀ q ∈ up G m, 1 ≤ q ∧ q ≤ m from fun q hq => up_mem HT.out m m (Nat.le_refl _) hm2 q hq)
  go_wp2_with fail
  (with_reducible refine (has62_calls _ Au cu b (up G m) (fun q => (gr G q).f3) ⟨w.heap.size, 0, none⟩ by_ HCU.out HHU.out HML.out (fun q hq => (HO_15.out.cells q (HMM.out q hq).1 (by have := (HMM.out q hq).2; omega)).2.2.2.1) ((blk_cell BY_17.out 0).trans rfl)).mono ?_)
  rintro e w9 ⟨rfl, nd, hq⟩
  have hb := pw_below_drewN (Below.refl w4.heap.size w4) nd
  rw [← hq] at hb
  clear hq
  obtain ⟨w65, hw9⟩ : ∃ q : World, q = w9 := ⟨_, rfl⟩
  subst hw9
  have HO_19 := lhid (HO_15.out.next hb)
  have HB_20 := lhid (below_then HB_16.out HB_16.out.size hb)
  have BY_21 := lhid (blk_below BY_17.out hb)
  have BX_22 := lhid (blk_below BX_18.out hb)
  have HU_23 := lhid (Kd.R_below HU_14.out hb)
  have CU_24 := lhid (Kd.C_below HCU.out hb)
  clear HO_15 HB_16 BY_17 BX_18 HU_14 HCU hb
  rw [show (up G m).any (fun q => (gr G q).f3 == by_) = false from hh]
  go_wp2_with fail
  with_reducible refine (refuse_yes _ 12).mono ?_
  rintro e w' ⟨rfl, rfl⟩
  refine leaves_cons (f := 59) (args := #[.pointer (some ⟨w.heap.size + 1, 0, none⟩)]) (by simp) (by simp [go_sem]) ?_
  refine (catch59_panicking ⟨w.heap.size + 1, 0, none⟩ 0 12 [] _ (blk_cell BX_22.out 0) (blk_frozen BX_22.out 0)).mono ?_
  rintro e u' w'' ⟨rfl, rfl, w1, hb, rfl⟩
  have hbw := (below_then HB_20.out HB_20.out.size hb).setCell (p := ⟨w.heap.size + 1, 0, none⟩) (Nat.le_add_right _ _) (.int .i64 12)
  have hcw := blk_cell (blk_put (blk_below BX_22.out hb) 0 (.int .i64 12) rfl) 0
  simp [Leaves, settle, results, Try.results31, go_sem, hcw]
  exact hbw
theorem Revoke_state (base g : Nat) (F : Nat → Prop) (w : World) (day : Int) (G : List S39) (E : List S44) (n by_ : Int) (h : BK base F w g day G E) (hT : Tree G) (h1 : 1 ≤ n) (h2 : n ≤ G.length) (hp : perB by_ = true) (hh : heldB G n.toNat by_ = true) (hr : revB G n.toNat = true) : Calls Try.prog 31 #[.pointer (some ⟨g, 0, none⟩), .int .i64 n, .int .i64 by_] w fun e w' => e = .returned (.tuple #[.int .i64 0, .int .i64 9]) ∧ Below w.heap.size w w' := by
  have hu70 := Try.underlying70
  have hu39 := Try.underlying39
  obtain ⟨AG, cG, AE, cE, ho⟩ := h.opn
  obtain ⟨b, hA, hFb⟩ := ho.ad (by omega)
  subst hA
  have hl := hT.1
  obtain ⟨m, rfl⟩ : ∃ m : Nat, n = m := ⟨n.toNat, by omega⟩
  have hm1 : 1 ≤ m := by omega
  have hm2 : m ≤ G.length := by omega
  have HT := lhid hT
  have HF := lhid (show ∀ k, F k → k < w.heap.size from fun k q => (h.fb k q).2)
  clear h hT
  try rw [Int.toNat_natCast] at hh
  try rw [Int.toNat_natCast] at hr
  try rw [Int.toNat_natCast]
  have HO_1 := lhid (ho)
  clear ho
  have hmf : ∀ (fn : Fn) (first cap : Array Value) (w : World), (Instr.makeFunc fn first cap).run Try.prog w = .ok (.func fn first cap) w := fun _ _ _ _ => rfl
  go_enter_defers Try.func31, Try.ntmps31
  go_upto_region 2 with (fail)
  have HB_2 := lhid (Below.refl w.heap.size w)
  have hb := below_alloc (Below.refl w.heap.size w) (.cells #[.int .i64 by_] 3)
  have hn := blk_new w (.cells #[.int .i64 by_] 3)
  have HZ1 := lhid (show (World.alloc w (.cells #[.int .i64 by_] 3)).heap.size = w.heap.size + 1 from by simp)
  generalize hq : World.alloc w (.cells #[.int .i64 by_] 3) = w1 at hb hn HZ1 ⊢
  clear hq
  have HO_3 := lhid (HO_1.out.next hb)
  have HB_4 := lhid (below_then HB_2.out HB_2.out.size hb)
  clear HO_1 HB_2 hb
  have BY_5 := lhid (hn)
  clear hn
  have hb := below_alloc (Below.refl w1.heap.size w1) (.cells #[.int .i64 0] 24)
  have hn := blk_new w1 (.cells #[.int .i64 0] 24)
  have HZ2 := lhid (show (World.alloc w1 (.cells #[.int .i64 0] 24)).heap.size = w1.heap.size + 1 from by simp)
  generalize hq : World.alloc w1 (.cells #[.int .i64 0] 24) = w2 at hb hn HZ2 ⊢
  clear hq
  have HO_6 := lhid (HO_3.out.next hb)
  have HB_7 := lhid (below_then HB_4.out HB_4.out.size hb)
  have BY_8 := lhid (blk_below BY_5.out hb)
  clear HO_3 HB_4 BY_5 hb
  rw [HZ1.out] at hn
  have BX_9 := lhid (hn)
  clear hn
  clear hmf
  go_wp2_with fail
  with_reducible refine (get_some base g F w2 day G E cG AE cE b m HO_6.out (by omega) (by omega) (by omega)).mono ?_
  rintro e w' ⟨rfl, rfl⟩
  rw [Int.toNat_natCast]
  unfold pt
  have hby := blk_cell BY_8.out 0
  simp only [List.getElem?_toArray, List.getElem?_cons_zero] at hby
  go_wp2_with fail
  with_reducible refine (custody_person.calls by_ true w2 (by rw [person_f]; exact congrArg some hp)).mono ?_
  rintro e w3 ⟨rfl, nd, hq⟩
  have hb := pw_below_drewN (Below.refl w2.heap.size w2) nd
  rw [← hq] at hb
  clear hq
  have HO_10 := lhid (HO_6.out.next hb)
  have HB_11 := lhid (below_then HB_7.out HB_7.out.size hb)
  have BY_12 := lhid (blk_below BY_8.out hb)
  have BX_13 := lhid (blk_below BX_9.out hb)
  clear HO_6 HB_7 BY_8 BX_9 hb
  go_wp2_with fail
  with_reducible refine (refuse_no _ 2).mono ?_
  rintro e w' ⟨rfl, rfl⟩
  clear hby
  go_wp2_with fail
  with_reducible refine (up_calls base g F w3 day G E (some ⟨b, 0, none⟩) cG AE cE b m HO_10.out HT.out hm2 (fun _ => rfl)).mono ?_
  rintro e w4 ⟨vu, rfl, hU, hb⟩
  have HU_14 := lhid (Kd.R_lower hU HB_11.out.size)
  clear hU
  have HO_15 := lhid (HO_10.out.next hb)
  have HB_16 := lhid (below_then HB_11.out HB_11.out.size hb)
  have BY_17 := lhid (blk_below BY_12.out hb)
  have BX_18 := lhid (blk_below BX_13.out hb)
  clear HO_10 HB_11 BY_12 BX_13 hb
  obtain ⟨Au, cu, rfl⟩ := Kd.R_slice HU_14.out
  obtain ⟨_, hcu, hCU⟩ := Kd.R_reads' HU_14.out
  have HCU := lhid hCU
  have HHU := lhid hcu
  clear hCU hcu
  rw [List.length_map]
  have HML := lhid (show (up G m).length ≤ 1000 by have := up_len HT.out m m (Nat.le_refl _) hm2; omega)
  have HMM := lhid (show ∀ q ∈ up G m, 1 ≤ q ∧ q ≤ m from fun q hq => up_mem HT.out m m (Nat.le_refl _) hm2 q hq)
  go_wp2_with fail
  (with_reducible refine (has62_calls _ Au cu b (up G m) (fun q => (gr G q).f3) ⟨w.heap.size, 0, none⟩ by_ HCU.out HHU.out HML.out (fun q hq => (HO_15.out.cells q (HMM.out q hq).1 (by have := (HMM.out q hq).2; omega)).2.2.2.1) ((blk_cell BY_17.out 0).trans rfl)).mono ?_)
  rintro e w9 ⟨rfl, nd, hq⟩
  have hb := pw_below_drewN (Below.refl w4.heap.size w4) nd
  rw [← hq] at hb
  clear hq
  obtain ⟨w65, hw9⟩ : ∃ q : World, q = w9 := ⟨_, rfl⟩
  subst hw9
  have HO_19 := lhid (HO_15.out.next hb)
  have HB_20 := lhid (below_then HB_16.out HB_16.out.size hb)
  have BY_21 := lhid (blk_below BY_17.out hb)
  have BX_22 := lhid (blk_below BX_18.out hb)
  have HU_23 := lhid (Kd.R_below HU_14.out hb)
  have CU_24 := lhid (Kd.C_below HCU.out hb)
  clear HO_15 HB_16 BY_17 BX_18 HU_14 HCU hb
  rw [show (up G m).any (fun q => (gr G q).f3 == by_) = true from hh]
  go_wp2_with fail
  with_reducible refine (refuse_no _ 12).mono ?_
  rintro e w' ⟨rfl, rfl⟩
  go_wp2_with fail
  (with_reducible refine (has63_calls _ Au cu b (up G m) (fun q => (gr G q).f8) CU_24.out HHU.out HML.out (fun q hq => (HO_19.out.cells q (HMM.out q hq).1 (by have := (HMM.out q hq).2; omega)).2.2.2.2.2.2.2.2)).mono ?_)
  rintro e w9 ⟨rfl, nd, hq⟩
  have hb := pw_below_drewN (Below.refl w65.heap.size w65) nd
  rw [← hq] at hb
  clear hq
  obtain ⟨w66, hw9⟩ : ∃ q : World, q = w9 := ⟨_, rfl⟩
  subst hw9
  have HO_25 := lhid (HO_19.out.next hb)
  have HB_26 := lhid (below_then HB_20.out HB_20.out.size hb)
  have BY_27 := lhid (blk_below BY_21.out hb)
  have BX_28 := lhid (blk_below BX_22.out hb)
  have HU_29 := lhid (Kd.R_below HU_23.out hb)
  have CU_30 := lhid (Kd.C_below CU_24.out hb)
  clear HO_19 HB_20 BY_21 BX_22 HU_23 CU_24 hb
  rw [show (up G m).any (fun q => (gr G q).f8) = true from hr]
  go_wp2_with fail
  with_reducible refine (refuse_yes _ 9).mono ?_
  rintro e w' ⟨rfl, rfl⟩
  refine leaves_cons (f := 59) (args := #[.pointer (some ⟨w.heap.size + 1, 0, none⟩)]) (by simp) (by simp [go_sem]) ?_
  refine (catch59_panicking ⟨w.heap.size + 1, 0, none⟩ 0 9 [] _ (blk_cell BX_28.out 0) (blk_frozen BX_28.out 0)).mono ?_
  rintro e u' w'' ⟨rfl, rfl, w1, hb, rfl⟩
  have hbw := (below_then HB_26.out HB_26.out.size hb).setCell (p := ⟨w.heap.size + 1, 0, none⟩) (Nat.le_add_right _ _) (.int .i64 9)
  have hcw := blk_cell (blk_put (blk_below BX_28.out hb) 0 (.int .i64 9) rfl) 0
  simp [Leaves, settle, results, Try.results31, go_sem, hcw]
  exact hbw
set_option maxHeartbeats 3200000 in
theorem Revoke_ok (base g : Nat) (F : Nat → Prop) (w : World) (day : Int) (G : List S39) (E : List S44) (n by_ : Int) (h : BK base F w g day G E) (hT : Tree G) (h1 : 1 ≤ n) (h2 : n ≤ G.length) (hp : perB by_ = true) (hh : heldB G n.toNat by_ = true) (hr : revB G n.toNat = false) : Calls Try.prog 31 #[.pointer (some ⟨g, 0, none⟩), .int .i64 n, .int .i64 by_] w fun e w' => e = .returned (.tuple #[.int .i64 (cntS day G (belowL G n.toNat ++ [n])), .int .i64 0]) ∧ Got base F w w' g day (put8 G n.toNat true) E := by
  have hu70 := Try.underlying70
  have hu39 := Try.underlying39
  obtain ⟨AG, cG, AE, cE, ho⟩ := h.opn
  obtain ⟨b, hA, hFb⟩ := ho.ad (by omega)
  subst hA
  have hl := hT.1
  obtain ⟨m, rfl⟩ : ∃ m : Nat, n = m := ⟨n.toNat, by omega⟩
  have hm1 : 1 ≤ m := by omega
  have hm2 : m ≤ G.length := by omega
  have HT := lhid hT
  have HF := lhid (show ∀ k, F k → k < w.heap.size from fun k q => (h.fb k q).2)
  clear h hT
  try rw [Int.toNat_natCast] at hh
  try rw [Int.toNat_natCast] at hr
  try rw [Int.toNat_natCast]
  have HO_1 := lhid (ho)
  clear ho
  have hmf : ∀ (fn : Fn) (first cap : Array Value) (w : World), (Instr.makeFunc fn first cap).run Try.prog w = .ok (.func fn first cap) w := fun _ _ _ _ => rfl
  go_enter_defers Try.func31, Try.ntmps31
  go_upto_region 2 with (fail)
  have HB_2 := lhid (Below.refl w.heap.size w)
  have hb := below_alloc (Below.refl w.heap.size w) (.cells #[.int .i64 by_] 3)
  have hn := blk_new w (.cells #[.int .i64 by_] 3)
  have HZ1 := lhid (show (World.alloc w (.cells #[.int .i64 by_] 3)).heap.size = w.heap.size + 1 from by simp)
  generalize hq : World.alloc w (.cells #[.int .i64 by_] 3) = w1 at hb hn HZ1 ⊢
  clear hq
  have HO_3 := lhid (HO_1.out.next hb)
  have HB_4 := lhid (below_then HB_2.out HB_2.out.size hb)
  clear HO_1 HB_2 hb
  have BY_5 := lhid (hn)
  clear hn
  have hb := below_alloc (Below.refl w1.heap.size w1) (.cells #[.int .i64 0] 24)
  have hn := blk_new w1 (.cells #[.int .i64 0] 24)
  have HZ2 := lhid (show (World.alloc w1 (.cells #[.int .i64 0] 24)).heap.size = w1.heap.size + 1 from by simp)
  generalize hq : World.alloc w1 (.cells #[.int .i64 0] 24) = w2 at hb hn HZ2 ⊢
  clear hq
  have HO_6 := lhid (HO_3.out.next hb)
  have HB_7 := lhid (below_then HB_4.out HB_4.out.size hb)
  have BY_8 := lhid (blk_below BY_5.out hb)
  clear HO_3 HB_4 BY_5 hb
  rw [HZ1.out] at hn
  have BX_9 := lhid (hn)
  clear hn
  clear hmf
  go_wp2_with fail
  with_reducible refine (get_some base g F w2 day G E cG AE cE b m HO_6.out (by omega) (by omega) (by omega)).mono ?_
  rintro e w' ⟨rfl, rfl⟩
  rw [Int.toNat_natCast]
  unfold pt
  have hby := blk_cell BY_8.out 0
  simp only [List.getElem?_toArray, List.getElem?_cons_zero] at hby
  go_wp2_with fail
  with_reducible refine (custody_person.calls by_ true w2 (by rw [person_f]; exact congrArg some hp)).mono ?_
  rintro e w3 ⟨rfl, nd, hq⟩
  have hb := pw_below_drewN (Below.refl w2.heap.size w2) nd
  rw [← hq] at hb
  clear hq
  have HO_10 := lhid (HO_6.out.next hb)
  have HB_11 := lhid (below_then HB_7.out HB_7.out.size hb)
  have BY_12 := lhid (blk_below BY_8.out hb)
  have BX_13 := lhid (blk_below BX_9.out hb)
  clear HO_6 HB_7 BY_8 BX_9 hb
  go_wp2_with fail
  with_reducible refine (refuse_no _ 2).mono ?_
  rintro e w' ⟨rfl, rfl⟩
  clear hby
  go_wp2_with fail
  with_reducible refine (up_calls base g F w3 day G E (some ⟨b, 0, none⟩) cG AE cE b m HO_10.out HT.out hm2 (fun _ => rfl)).mono ?_
  rintro e w4 ⟨vu, rfl, hU, hb⟩
  have HU_14 := lhid (Kd.R_lower hU HB_11.out.size)
  clear hU
  have HO_15 := lhid (HO_10.out.next hb)
  have HB_16 := lhid (below_then HB_11.out HB_11.out.size hb)
  have BY_17 := lhid (blk_below BY_12.out hb)
  have BX_18 := lhid (blk_below BX_13.out hb)
  clear HO_10 HB_11 BY_12 BX_13 hb
  obtain ⟨Au, cu, rfl⟩ := Kd.R_slice HU_14.out
  obtain ⟨_, hcu, hCU⟩ := Kd.R_reads' HU_14.out
  have HCU := lhid hCU
  have HHU := lhid hcu
  clear hCU hcu
  rw [List.length_map]
  have HML := lhid (show (up G m).length ≤ 1000 by have := up_len HT.out m m (Nat.le_refl _) hm2; omega)
  have HMM := lhid (show ∀ q ∈ up G m, 1 ≤ q ∧ q ≤ m from fun q hq => up_mem HT.out m m (Nat.le_refl _) hm2 q hq)
  go_wp2_with fail
  (with_reducible refine (has62_calls _ Au cu b (up G m) (fun q => (gr G q).f3) ⟨w.heap.size, 0, none⟩ by_ HCU.out HHU.out HML.out (fun q hq => (HO_15.out.cells q (HMM.out q hq).1 (by have := (HMM.out q hq).2; omega)).2.2.2.1) ((blk_cell BY_17.out 0).trans rfl)).mono ?_)
  rintro e w9 ⟨rfl, nd, hq⟩
  have hb := pw_below_drewN (Below.refl w4.heap.size w4) nd
  rw [← hq] at hb
  clear hq
  obtain ⟨w65, hw9⟩ : ∃ q : World, q = w9 := ⟨_, rfl⟩
  subst hw9
  have HO_19 := lhid (HO_15.out.next hb)
  have HB_20 := lhid (below_then HB_16.out HB_16.out.size hb)
  have BY_21 := lhid (blk_below BY_17.out hb)
  have BX_22 := lhid (blk_below BX_18.out hb)
  have HU_23 := lhid (Kd.R_below HU_14.out hb)
  have CU_24 := lhid (Kd.C_below HCU.out hb)
  clear HO_15 HB_16 BY_17 BX_18 HU_14 HCU hb
  rw [show (up G m).any (fun q => (gr G q).f3 == by_) = true from hh]
  go_wp2_with fail
  with_reducible refine (refuse_no _ 12).mono ?_
  rintro e w' ⟨rfl, rfl⟩
  go_wp2_with fail
  (with_reducible refine (has63_calls _ Au cu b (up G m) (fun q => (gr G q).f8) CU_24.out HHU.out HML.out (fun q hq => (HO_19.out.cells q (HMM.out q hq).1 (by have := (HMM.out q hq).2; omega)).2.2.2.2.2.2.2.2)).mono ?_)
  rintro e w9 ⟨rfl, nd, hq⟩
  have hb := pw_below_drewN (Below.refl w65.heap.size w65) nd
  rw [← hq] at hb
  clear hq
  obtain ⟨w66, hw9⟩ : ∃ q : World, q = w9 := ⟨_, rfl⟩
  subst hw9
  have HO_25 := lhid (HO_19.out.next hb)
  have HB_26 := lhid (below_then HB_20.out HB_20.out.size hb)
  have BY_27 := lhid (blk_below BY_21.out hb)
  have BX_28 := lhid (blk_below BX_22.out hb)
  have HU_29 := lhid (Kd.R_below HU_23.out hb)
  have CU_30 := lhid (Kd.C_below CU_24.out hb)
  clear HO_19 HB_20 BY_21 BX_22 HU_23 CU_24 hb
  rw [show (up G m).any (fun q => (gr G q).f8) = false from hr]
  go_wp2_with fail
  with_reducible refine (refuse_no _ 9).mono ?_
  rintro e w' ⟨rfl, rfl⟩
  clear hh hr
  go_wp2_with fail
  with_reducible refine (below_calls base g F w66 day G E m HO_25.out.bk HT.out (by omega) (by omega)).mono ?_
  rintro e w7 ⟨vl, rfl, hL, hb⟩
  have HL := lhid hL
  have HBL := lhid hb
  clear hL hb
  rw [Int.toNat_natCast] at HL
  obtain ⟨Al, cl, rfl⟩ := Kd.R_slice HL.out
  have hll : (belowL G m).length ≤ 128 := by have := belL_len G m (G.length - m); unfold belowL; omega
  have hxs0 : ∀ x ∈ belowL G m ++ [(m : Int)], ∃ q : Nat, x = (q : Int) ∧ 1 ≤ q ∧ q ≤ G.length := fun x hx => by
    rcases List.mem_append.1 hx with hx | hx
    · obtain ⟨q, q1, q2, q3, q4⟩ := belL_mem hx
      exact ⟨q, q1, by omega, by omega⟩
    · simp only [List.mem_singleton] at hx
      exact ⟨m, hx, hm1, hm2⟩
  have hxl0 : (belowL G m ++ [(m : Int)]).length ≤ 129 := by simp; exact hll
  obtain ⟨xs, hxs⟩ : ∃ xs, xs = belowL G m ++ [(m : Int)] := ⟨_, rfl⟩
  rw [← hxs] at hxs0 hxl0
  have HXM := lhid hxs0
  have HXS := lhid hxs
  clear hxs0 hxs
  go_upto_region 8 with ((with_reducible refine gate_builtin (b := .append) (xs := #[.tmp 33, .tmp 35]) rfl ?_); at_builtin; refine Kd.R_append (Kd.int .i64) (w0 := w66) w66.heap.size rfl (.tmp 33) (.tmp 35) 32 3 (.int .i64 0) 8 rfl Try.underlying32 info3 rfl (by decide) (by omega) (.slice Al (belowL G m).length cl) (belowL G m) (m : Int) [.int .i64 (m : Int)] (fun _ => True) (fun _ => False) rfl rfl ?aP (fun _ hk => hk.elim) ?aF ?aO ?aB ?aS ?aL ?_; (case aP => exact rfl); (case aF => exact fun _ _ => trivial); (case aO => exact HL.out); (case aB => exact HBL.out); (case aS => exact HBL.out.size); (case aL => omega); intro v8 w8 ho8 hb8 hg8 hat8; rw [← HXS.out] at ho8; obtain ⟨A8, c8, rfl⟩ := Kd.R_slice ho8; have HP8 := lhid ho8; have HB8 := lhid hb8; clear ho8 hb8 hg8 hat8)
  have hb := HB8.out
  have HO_31 := lhid (HO_25.out.next hb)
  have HB_32 := lhid (below_then HB_26.out HB_26.out.size hb)
  have BX_33 := lhid (blk_below BX_28.out hb)
  clear HO_25 HB_26 BX_28 hb
  clear HBL HL hll
  have HQ0 := lhid (Below.refl w8.heap.size w8)
  go_loopw [6, 38] (fun v t wr => ∃ i : Nat, i ≤ xs.length ∧ t = .int .i64 i ∧ v = .int .i64 (cntS day G (xs.take i) : Nat) ∧ Hid (Below w8.heap.size w8 wr)) (fun _ t _ => xs.length - (intOf t).toNat)
  case atStart => exact ⟨0, Nat.zero_le _, rfl, by simp [cntS], HQ0⟩
  case round =>
    obtain ⟨i, hi, rfl, rfl, HQr⟩ := hrel
    clear HQ0
    have hcn := cntS_le day G (xs.take i)
    rw [List.length_take] at hcn
    by_cases hlt : i < xs.length
    · have hlt2 : (i : Int) < (xs.length : Int) := by omega
      obtain ⟨q, hq, q1, q2⟩ := HXM.out (xs[i]) (List.getElem_mem hlt)
      obtain ⟨ad, eA, hcell⟩ := int_at (Kd.R_reads' (Kd.R_below HP8.out HQr.out)).2.2 i hlt
      rw [hq] at hcell
      subst eA
      have HSN := lhid (cntS_snoc day G xs i hlt)
      rw [hq, Int.toNat_natCast] at HSN
      clear hq
      have hcn2 : cntS day G (xs.take i) ≤ 129 := by omega
      go_wp2_with fail
      with_reducible refine (stands_calls base g F wr day G E q (HO_31.out.next HQr.out).bk HT.out (by omega) (by omega)).mono ?_
      rintro e w81 ⟨rfl, hb⟩
      have HQ_34 := lhid (below_then HQr.out HQr.out.size hb)
      clear HQr hb
      rw [Int.toNat_natCast]
      cases c : stB day G q
      · go_wp2_with fail
        go_roundw
        case rel =>
          exact ⟨i + 1, by omega, by simp, by rw [HSN.out]; simp [c], HQ_34⟩
        case measure => simp [intOf]; omega
      · go_wp2_with fail
        go_roundw
        case rel =>
          exact ⟨i + 1, by omega, by simp, by rw [HSN.out]; simp [c], HQ_34⟩
        case measure => simp [intOf]; omega
    · have hie : i = xs.length := by omega
      subst hie
      have hlt2 : ¬ (xs.length : Int) < (xs.length : Int) := by omega
      skip
      have HOw := lhid (HO_31.out.next HQr.out)
      have HXw := lhid (blk_below BX_33.out HQr.out)
      have HBw := lhid (below_then HB_32.out HB_32.out.size HQr.out)
      have hfz := HOw.out.frz
      have hc8 := (HOw.out.cells m hm1 hm2).2.2.2.2.2.2.2.2
      go_upto_region 14 with (fail)
      try any_goals (exfalso; omega)
      clear hfz hc8
      have hbF := HF.out b hFb
      have HG := lhid (show Got base F wr (World.setCell wr ⟨b, (m - 1) * 9 + 8, none⟩ (.bool true)) g day (put8 G m true) E from ⟨F, (HOw.out.put8 m hm1 hm2 true).bk, fun k q => Or.inl q, (Chg.refl _ _).set (Or.inr hFb) _⟩)
      have HX7 := lhid (blk_far HXw.out (p := ⟨b, (m - 1) * 9 + 8, none⟩) (show w.heap.size + 1 ≠ b by omega) (.bool true))
      have HLT := lhid (blk_lt HXw.out)
      generalize World.setCell wr ⟨b, (m - 1) * 9 + 8, none⟩ (.bool true) = w7 at HG HX7 ⊢
      have hxc := blk_cell HX7.out 0
      have hxz : ∀ o, w7.frozen? ⟨w.heap.size + 1, o, none⟩ = false := fun o => blk_frozen HX7.out o
      simp only [List.getElem?_toArray, List.getElem?_cons_zero] at hxc
      rw [List.take_length]
      rw [HXS.out]
      go_wp2_with fail
      have hz8 := blk_put HX7.out 0 (.int .i64 0) rfl
      have hg8 : Got base F w (World.setCell (World.setCell w7 ⟨w.heap.size + 1, 0, none⟩ (.int .i64 0)) ⟨w.heap.size + 1, 0, none⟩ (.int .i64 0)).drew _ _ _ _ := Got.box HG.out HBw.out (p := ⟨w.heap.size + 1, 0, none⟩) (Nat.le_add_right _ _) HLT.out HF.out (.int .i64 0) (.int .i64 0)
      generalize World.setCell w7 ⟨w.heap.size + 1, 0, none⟩ (.int .i64 0) = w8 at hz8 hg8 ⊢
      have hcw := blk_cell (blk_put hz8 0 (.int .i64 0) rfl) 0
      have hc8 := blk_cell hz8 0
      have hf8 := blk_frozen hz8 0
      simp only [List.getElem?_toArray, List.getElem?_cons_zero, Array.setIfInBounds_def, List.size_toArray] at hc8 hcw
      refine leaves_cons (f := 59) (args := #[.pointer (some ⟨w.heap.size + 1, 0, none⟩)]) (by simp) (by simp [go_sem]) ?_
      refine (catch59_idle ⟨w.heap.size + 1, 0, none⟩ 0 w8 (by simpa using hc8) hf8).mono ?_
      rintro e u' w'' ⟨rfl, rfl, rfl⟩
      simp [Leaves, settle, results, Try.results31, go_sem, hcw]
      first | exact hg8 | (rw [List.foldl_append] at hg8; exact hg8)
end Go.Proofs.Ytfnlghjkjmppdaa.PC
end
section
namespace Go.Proofs.Ytfnlghjkjmppdaa.PC
open Go.RowKit Go.Proofs.YtfnlghjkjmppdaaW.PrintWords Go.Proofs.YtfnlghjkjmppdaaW.PrintLast Go.Proofs.YtfnlghjkjmppdaaW.PrintMore
set_option linter.unusedVariables false
set_option linter.unusedSimpArgs false
structure St where
  day : Int
  G : List S39
  E : List S44
def rootG (G : List S39) (h v r u s : Int) : List S39 := G ++ [newG G ⟨0, 0, 0, h, v, r, u, s, false⟩]
def passG (G : List S39) (n h v r u s : Int) : List S39 := G ++ [newG G ⟨0, n, (gr G n.toNat).f2, h, v, r, u, s, false⟩]
def grantC (G : List S39) (h v r u s : Int) : Int := if mayB h v r u s = true then (if 128 ≤ G.length then 8 else 0) else 2
def passC (day : Int) (G : List S39) (n by_ h v r u s : Int) : Int :=
  if ¬ (1 ≤ n ∧ n ≤ G.length) then 6 else if mayB h v r u s = false then 2 else if perB by_ = false then 2 else if rightB day G n.toNat by_ v r u s = false then 12 else if 128 ≤ G.length then 8 else 0
def revC (G : List S39) (n by_ : Int) : Int := if ¬ (1 ≤ n ∧ n ≤ G.length) then 6 else if perB by_ = false then 2 else if heldB G n.toNat by_ = false then 12 else if revB G n.toNat = true then 9 else 0
def revN (day : Int) (G : List S39) (n : Int) : Int := (cntS day G (belowL G n.toNat ++ [n]) : Nat)
def nextC (day d : Int) : Int := if dayB d = false then 2 else if d < day then 9 else 0
def openG (G : List S39) (a s : Int) : List S39 := (up G a.toNat ++ up G s.toNat).foldl use1 G
theorem gr_app_old (G : List S39) (x : S39) (n : Nat) (h1 : 1 ≤ n) (h2 : n ≤ G.length) : gr (G ++ [x]) n = gr G n := by
  unfold gr rd_T39
  rw [List.getD_eq_getElem?_getD, List.getD_eq_getElem?_getD, List.getElem?_append_left (by omega)]
theorem gr_app_new (G : List S39) (x : S39) : gr (G ++ [x]) (G.length + 1) = x := by
  unfold gr rd_T39
  rw [show (((G.length + 1 : Nat) : Int) - 1).toNat = G.length by omega, List.getD_eq_getElem?_getD, List.getElem?_append_right (Nat.le_refl _)]; simp
theorem inv_app {G : List S39} (h : Inv G) (hl : G.length < 128) (x : S39) (h0 : x.f0 = (G.length : Int) + 1) (h1 : 0 ≤ x.f1) (h2 : x.f1 ≤ G.length) (hx : Ok1 x) : Inv (G ++ [x]) := by
  refine ⟨⟨by simp; omega, fun n q1 q2 => ?_⟩, fun n q1 q2 => ?_⟩
  · by_cases c : n ≤ G.length
    · rw [gr_app_old G x n q1 c]; exact h.1.2 n q1 c
    · have : n = G.length + 1 := by simp at q2; omega
      subst this
      rw [gr_app_new]; exact ⟨by rw [h0]; simp, h1, by omega⟩
  · by_cases c : n ≤ G.length
    · rw [gr_app_old G x n q1 c]; exact h.2 n q1 c
    · have : n = G.length + 1 := by simp at q2; omega
      subst this
      rw [gr_app_new]; exact hx
theorem ok1_of_may {h v r u s : Int} (hm : mayB h v r u s = true) (a b c : Int) : Ok1 ⟨a, b, c, h, v, r, u, s, false⟩ := by
  obtain ⟨m1, m2, m3, m4, m5, m6, m7, m8, m9⟩ := mayB_iff.1 hm
  exact ⟨m1, m2, m3, m4, m5, m6, m7, by show -1 ≤ s; omega, by show s ≤ 1048576; omega⟩
theorem inv_root {G : List S39} (h : Inv G) {h_ v r u s : Int} (hc : grantC G h_ v r u s = 0) : Inv (rootG G h_ v r u s) := by
  unfold grantC at hc
  by_cases hm : mayB h_ v r u s = true
  · by_cases hl : 128 ≤ G.length
    · rw [if_pos hm, if_pos hl] at hc; omega
    · exact inv_app h (by omega) _ rfl (Int.le_refl _) (by show (0 : Int) ≤ _; omega) (ok1_of_may hm _ _ _)
  · rw [if_neg hm] at hc; omega
theorem passC_zero {day : Int} {G : List S39} {n by_ h_ v r u s : Int} (hc : passC day G n by_ h_ v r u s = 0) : (1 ≤ n ∧ n ≤ G.length) ∧ mayB h_ v r u s = true ∧ perB by_ = true ∧ rightB day G n.toNat by_ v r u s = true ∧ G.length < 128 := by
  unfold passC at hc
  by_cases c1 : 1 ≤ n ∧ n ≤ G.length
  · rw [if_neg (fun q => q c1)] at hc
    cases c2 : mayB h_ v r u s
    · rw [c2, if_pos rfl] at hc; omega
    · rw [c2, if_neg (by decide)] at hc
      cases c3 : perB by_
      · rw [c3, if_pos rfl] at hc; omega
      · rw [c3, if_neg (by decide)] at hc
        cases c4 : rightB day G n.toNat by_ v r u s
        · rw [c4, if_pos rfl] at hc; omega
        · rw [c4, if_neg (by decide)] at hc
          by_cases c5 : 128 ≤ G.length
          · rw [if_pos c5] at hc; omega
          · exact ⟨c1, rfl, rfl, rfl, by omega⟩
  · rw [if_pos c1] at hc; omega
theorem inv_pass {day : Int} {G : List S39} (h : Inv G) {n by_ h_ v r u s : Int} (hc : passC day G n by_ h_ v r u s = 0) : Inv (passG G n h_ v r u s) := by
  obtain ⟨c1, c2, c3, c4, c5⟩ := passC_zero hc
  exact inv_app h c5 _ rfl (by show 0 ≤ n; omega) c1.2 (ok1_of_may c2 _ _ _)
theorem inv_put8 {G : List S39} (h : Inv G) {m : Nat} (h1 : 1 ≤ m) (h2 : m ≤ G.length) (u : Bool) : Inv (put8 G m u) := by
  refine ⟨⟨by rw [put8_len]; exact h.1.1, fun n q1 q2 => ?_⟩, fun n q1 q2 => ?_⟩
  · rw [put8_len] at q2
    rw [gr_put8 G m n u h1 h2 q1]
    split
    · rename_i e; subst e; exact h.1.2 n q1 q2
    · exact h.1.2 n q1 q2
  · rw [put8_len] at q2
    rw [gr_put8 G m n u h1 h2 q1]
    split
    · rename_i e; subst e; exact h.2 n q1 q2
    · exact h.2 n q1 q2
theorem gr_use1 (G : List S39) (m n : Nat) (h1 : 1 ≤ m) (h2 : m ≤ G.length) (hn : 1 ≤ n) : gr (use1 G m) n = { gr G n with f7 := if n = m ∧ 0 < (gr G m).f7 then (gr G n).f7 - 1 else (gr G n).f7 } := by
  unfold use1
  by_cases c : 0 < (gr G m).f7
  · rw [if_pos c, gr_put7 G m n _ h1 h2 hn]
    by_cases e : n = m
    · subst e; simp [c]
    · simp [e]
  · rw [if_neg c]
    rw [if_neg (fun q => c q.2)]
theorem inv_use1 {G : List S39} (h : Inv G) {m : Nat} (h1 : 1 ≤ m) (h2 : m ≤ G.length) : Inv (use1 G m) := by
  refine ⟨⟨by rw [use1_len]; exact h.1.1, fun n q1 q2 => ?_⟩, fun n q1 q2 => ?_⟩
  · rw [use1_len] at q2
    rw [gr_use1 G m n h1 h2 q1]
    exact h.1.2 n q1 q2
  · rw [use1_len] at q2
    rw [gr_use1 G m n h1 h2 q1]
    obtain ⟨a1, a2, a3, a4, a5, a6, a7, a8, a9⟩ := h.2 n q1 q2
    refine ⟨a1, a2, a3, a4, a5, a6, a7, ?_, ?_⟩
    · show -1 ≤ (if n = m ∧ 0 < (gr G m).f7 then (gr G n).f7 - 1 else (gr G n).f7)
      split
      · rename_i c; obtain ⟨rfl, c⟩ := c; omega
      · exact a8
    · show (if n = m ∧ 0 < (gr G m).f7 then (gr G n).f7 - 1 else (gr G n).f7) ≤ 1048576
      split <;> omega
theorem inv_uses {G : List S39} (h : Inv G) (ms : List Nat) (hm : ∀ m ∈ ms, 1 ≤ m ∧ m ≤ G.length) : Inv (ms.foldl use1 G) := by
  induction ms generalizing G with
  | nil => exact h
  | cons m ms ih =>
    rw [List.foldl_cons]
    exact ih (inv_use1 h (hm m (by simp)).1 (hm m (by simp)).2) (fun q hq => by rw [use1_len]; exact hm q (by simp [hq]))
theorem Inv.us {G : List S39} (h : Inv G) : Us G := fun n q1 q2 => (h.2 n q1 q2).2.2.2.2.2.2.2.2
theorem openC_zero {day : Int} {G : List S39} {E : List S44} {v a ab s sb : Int} (hc : openC day G E v a ab s sb = 0) : 0 ≤ v ∧ v ≤ 15 ∧ keyC day G v a ab = 0 ∧ keyC day G v s sb = 0 ∧ ab ≠ sb ∧ (gr G a.toNat).f2 ≠ (gr G s.toNat).f2 ∧ E.length < 4096 := by
  unfold openC at hc
  by_cases c1 : 0 ≤ v ∧ v ≤ 15
  · rw [if_neg (fun q => q c1)] at hc
    by_cases c2 : keyC day G v a ab = 0
    · rw [if_neg (fun q => q c2)] at hc
      by_cases c3 : keyC day G v s sb = 0
      · rw [if_neg (fun q => q c3)] at hc
        by_cases c4 : ab = sb ∨ (gr G a.toNat).f2 = (gr G s.toNat).f2
        · rw [if_pos c4] at hc; omega
        · rw [if_neg c4] at hc
          by_cases c5 : 4096 ≤ E.length
          · rw [if_pos c5] at hc; omega
          · exact ⟨c1.1, c1.2, c2, c3, fun q => c4 (Or.inl q), fun q => c4 (Or.inr q), by omega⟩
      · rw [if_pos c3] at hc; exact absurd hc c3
    · rw [if_pos c2] at hc; exact absurd hc c2
  · rw [if_pos c1] at hc; omega
theorem up_rng {G : List S39} (hT : Tree G) {n : Nat} (h : n ≤ G.length) : ∀ m ∈ up G n, 1 ≤ m ∧ m ≤ G.length := fun m hm => by
  have := up_mem hT n n (Nat.le_refl _) h m hm; omega
theorem open_rng {day : Int} {G : List S39} {E : List S44} {v a ab s sb : Int} (hT : Tree G) (hc : openC day G E v a ab s sb = 0) : (1 ≤ a ∧ a ≤ G.length) ∧ (1 ≤ s ∧ s ≤ G.length) ∧ ∀ m ∈ up G a.toNat ++ up G s.toNat, 1 ≤ m ∧ m ≤ G.length := by
  obtain ⟨_, _, k1, k2, _⟩ := openC_zero hc
  have r1 := keyC_in k1
  have r2 := keyC_in k2
  refine ⟨r1, r2, fun m hm => ?_⟩
  rcases List.mem_append.1 hm with hm | hm
  · exact up_rng hT (by omega) m hm
  · exact up_rng hT (by omega) m hm
theorem inv_open {day : Int} {G : List S39} (h : Inv G) {E : List S44} {v a ab s sb : Int} (hc : openC day G E v a ab s sb = 0) : Inv (openG G a s) := inv_uses h _ (open_rng h.1 hc).2.2
theorem revC_zero {G : List S39} {n by_ : Int} (hc : revC G n by_ = 0) : (1 ≤ n ∧ n ≤ G.length) ∧ perB by_ = true ∧ heldB G n.toNat by_ = true ∧ revB G n.toNat = false := by
  unfold revC at hc
  by_cases c1 : 1 ≤ n ∧ n ≤ G.length
  · rw [if_neg (fun q => q c1)] at hc
    cases c2 : perB by_
    · rw [c2, if_pos rfl] at hc; omega
    · rw [c2, if_neg (by decide)] at hc
      cases c3 : heldB G n.toNat by_
      · rw [c3, if_pos rfl] at hc; omega
      · rw [c3, if_neg (by decide)] at hc
        cases c4 : revB G n.toNat
        · exact ⟨c1, rfl, rfl, rfl⟩
        · rw [c4, if_pos rfl] at hc; omega
  · rw [if_pos c1] at hc; omega
def kd (a : S37) : Int := a.f0 % 8
def actC (s : St) (a : S37) : Int :=
  if kd a = 0 then grantC s.G a.f3 a.f6 a.f7 a.f8 a.f9
  else if kd a = 1 ∨ kd a = 2 then passC s.day s.G a.f1 a.f3 a.f4 a.f6 a.f7 a.f8 a.f9
  else if kd a = 3 then revC s.G a.f1 a.f3
  else if kd a = 7 then nextC s.day a.f10
  else openC s.day s.G s.E a.f10 a.f1 a.f3 a.f2 a.f4
def stepS (s : St) (a : S37) : St :=
  if actC s a = 0 then
    if kd a = 0 then ⟨s.day, rootG s.G a.f3 a.f6 a.f7 a.f8 a.f9, s.E⟩
    else if kd a = 1 ∨ kd a = 2 then ⟨s.day, passG s.G a.f1 a.f4 a.f6 a.f7 a.f8 a.f9, s.E⟩
    else if kd a = 3 then ⟨s.day, put8 s.G a.f1.toNat true, s.E⟩
    else if kd a = 7 then ⟨a.f10, s.G, s.E⟩
    else ⟨s.day, openG s.G a.f1 a.f2, s.E ++ [⟨s.day, a.f10, a.f1, a.f2⟩]⟩
  else s
theorem step_inv {s : St} (h : Inv s.G) (a : S37) : Inv (stepS s a).G := by
  unfold stepS
  by_cases hc : actC s a = 0
  · rw [if_pos hc]
    unfold actC at hc
    by_cases k0 : kd a = 0
    · rw [if_pos k0] at hc ⊢; exact inv_root h hc
    · rw [if_neg k0] at hc ⊢
      by_cases k1 : kd a = 1 ∨ kd a = 2
      · rw [if_pos k1] at hc ⊢; exact inv_pass h hc
      · rw [if_neg k1] at hc ⊢
        by_cases k3 : kd a = 3
        · rw [if_pos k3] at hc ⊢; obtain ⟨c1, _⟩ := revC_zero hc; exact inv_put8 h (by omega) (by omega) true
        · rw [if_neg k3] at hc ⊢
          by_cases k7 : kd a = 7
          · rw [if_pos k7]; exact h
          · rw [if_neg k7] at hc ⊢; exact inv_open h hc
  · rw [if_neg hc]; exact h
section
variable (base g : Nat) (F : Nat → Prop) (w : World) (day : Int) (G : List S39) (E : List S44)
theorem Grant_calls (h_ v r u s : Int) (h : BK base F w g day G E) : Calls Try.prog 15 #[.pointer (some ⟨g, 0, none⟩), .int .i64 h_, .int .i64 v, .int .i64 r, .int .i64 u, .int .i64 s] w fun e w' =>
    e = .returned (.tuple #[.int .i64 (if grantC G h_ v r u s = 0 then (G.length : Int) + 1 else 0), .int .i64 (grantC G h_ v r u s)]) ∧ Got base F w w' g day (if grantC G h_ v r u s = 0 then rootG G h_ v r u s else G) E := by
  unfold grantC
  by_cases hm : mayB h_ v r u s = true
  · rw [if_pos hm]
    by_cases hl : 128 ≤ G.length
    · rw [if_pos hl]
      refine (grant_full base g F w day G E h_ v r u s h (by rw [may_f, hm]) hl).mono ?_
      rintro e w' ⟨rfl, hb⟩; exact ⟨rfl, Got.of_below h hb⟩
    · rw [if_neg hl]
      refine (grant_ok base g F w day G E h_ v r u s h (by rw [may_f, hm]) (by omega)).mono ?_
      rintro e w' ⟨rfl, hb⟩; exact ⟨rfl, hb⟩
  · rw [if_neg hm]
    refine (grant_arg base g F w day G E h_ v r u s h (by rw [may_f, Bool.eq_false_iff.mpr hm])).mono ?_
    rintro e w' ⟨rfl, hb⟩; exact ⟨rfl, Got.of_below h hb⟩
theorem Pass_calls (n by_ h_ v r u s : Int) (h : BK base F w g day G E) (hT : Tree G) : Calls Try.prog 16 #[.pointer (some ⟨g, 0, none⟩), .int .i64 n, .int .i64 by_, .int .i64 h_, .int .i64 v, .int .i64 r, .int .i64 u, .int .i64 s] w fun e w' =>
    e = .returned (.tuple #[.int .i64 (if passC day G n by_ h_ v r u s = 0 then (G.length : Int) + 1 else 0), .int .i64 (passC day G n by_ h_ v r u s)]) ∧ Got base F w w' g day (if passC day G n by_ h_ v r u s = 0 then passG G n h_ v r u s else G) E := by
  by_cases c1 : 1 ≤ n ∧ n ≤ G.length
  · cases c2 : mayB h_ v r u s
    · have hc : passC day G n by_ h_ v r u s = 2 := by unfold passC; rw [if_neg (fun q => q c1), c2, if_pos rfl]
      rw [hc]
      refine (Pass_may base g F w day G E n by_ h_ v r u s h hT c1.1 c1.2 c2).mono ?_
      rintro e w' ⟨rfl, hb⟩; exact ⟨rfl, Got.of_below h hb⟩
    · cases c3 : perB by_
      · have hc : passC day G n by_ h_ v r u s = 2 := by unfold passC; rw [if_neg (fun q => q c1), c2, if_neg (by decide), c3, if_pos rfl]
        rw [hc]
        refine (Pass_per base g F w day G E n by_ h_ v r u s h hT c1.1 c1.2 c2 c3).mono ?_
        rintro e w' ⟨rfl, hb⟩; exact ⟨rfl, Got.of_below h hb⟩
      · cases c4 : rightB day G n.toNat by_ v r u s
        · have hc : passC day G n by_ h_ v r u s = 12 := by unfold passC; rw [if_neg (fun q => q c1), c2, if_neg (by decide), c3, if_neg (by decide), c4, if_pos rfl]
          rw [hc]
          refine (Pass_right base g F w day G E n by_ h_ v r u s h hT c1.1 c1.2 c2 c3 c4).mono ?_
          rintro e w' ⟨rfl, hb⟩; exact ⟨rfl, Got.of_below h hb⟩
        · by_cases c5 : 128 ≤ G.length
          · have hc : passC day G n by_ h_ v r u s = 8 := by unfold passC; rw [if_neg (fun q => q c1), c2, if_neg (by decide), c3, if_neg (by decide), c4, if_neg (by decide), if_pos c5]
            rw [hc]
            refine (Pass_full base g F w day G E n by_ h_ v r u s h hT c1.1 c1.2 c2 c3 c4 c5).mono ?_
            rintro e w' ⟨rfl, hb⟩; exact ⟨rfl, Got.of_below h hb⟩
          · have hc : passC day G n by_ h_ v r u s = 0 := by unfold passC; rw [if_neg (fun q => q c1), c2, if_neg (by decide), c3, if_neg (by decide), c4, if_neg (by decide), if_neg c5]
            rw [hc]
            refine (Pass_ok base g F w day G E n by_ h_ v r u s h hT c1.1 c1.2 c2 c3 c4 (by omega)).mono ?_
            rintro e w' ⟨rfl, hb⟩; exact ⟨rfl, hb⟩
  · have hc : passC day G n by_ h_ v r u s = 6 := by unfold passC; rw [if_pos c1]
    rw [hc]
    refine (Pass_none base g F w day G E n by_ h_ v r u s h c1).mono ?_
    rintro e w' ⟨rfl, hb⟩; exact ⟨rfl, Got.of_below h hb⟩
theorem Revoke_calls (n by_ : Int) (h : BK base F w g day G E) (hT : Tree G) : Calls Try.prog 31 #[.pointer (some ⟨g, 0, none⟩), .int .i64 n, .int .i64 by_] w fun e w' =>
    e = .returned (.tuple #[.int .i64 (if revC G n by_ = 0 then revN day G n else 0), .int .i64 (revC G n by_)]) ∧ Got base F w w' g day (if revC G n by_ = 0 then put8 G n.toNat true else G) E := by
  by_cases c1 : 1 ≤ n ∧ n ≤ G.length
  · cases c2 : perB by_
    · have hc : revC G n by_ = 2 := by unfold revC; rw [if_neg (fun q => q c1), c2, if_pos rfl]
      rw [hc]
      refine (Revoke_per base g F w day G E n by_ h hT c1.1 c1.2 c2).mono ?_
      rintro e w' ⟨rfl, hb⟩; exact ⟨rfl, Got.of_below h hb⟩
    · cases c3 : heldB G n.toNat by_
      · have hc : revC G n by_ = 12 := by unfold revC; rw [if_neg (fun q => q c1), c2, if_neg (by decide), c3, if_pos rfl]
        rw [hc]
        refine (Revoke_held base g F w day G E n by_ h hT c1.1 c1.2 c2 c3).mono ?_
        rintro e w' ⟨rfl, hb⟩; exact ⟨rfl, Got.of_below h hb⟩
      · cases c4 : revB G n.toNat
        · have hc : revC G n by_ = 0 := by unfold revC; rw [if_neg (fun q => q c1), c2, if_neg (by decide), c3, if_neg (by decide), c4, if_neg (by decide)]
          rw [hc]
          refine (Revoke_ok base g F w day G E n by_ h hT c1.1 c1.2 c2 c3 c4).mono ?_
          rintro e w' ⟨rfl, hb⟩; exact ⟨rfl, hb⟩
        · have hc : revC G n by_ = 9 := by unfold revC; rw [if_neg (fun q => q c1), c2, if_neg (by decide), c3, if_neg (by decide), c4, if_pos rfl]
          rw [hc]
          refine (Revoke_state base g F w day G E n by_ h hT c1.1 c1.2 c2 c3 c4).mono ?_
          rintro e w' ⟨rfl, hb⟩; exact ⟨rfl, Got.of_below h hb⟩
  · have hc : revC G n by_ = 6 := by unfold revC; rw [if_pos c1]
    rw [hc]
    refine (Revoke_none base g F w day G E n by_ h c1).mono ?_
    rintro e w' ⟨rfl, hb⟩; exact ⟨rfl, Got.of_below h hb⟩
theorem Next_calls (d : Int) (h : BK base F w g day G E) : Calls Try.prog 39 #[.pointer (some ⟨g, 0, none⟩), .int .i64 d] w fun e w' =>
    e = .returned (.int .i64 (nextC day d)) ∧ Got base F w w' g (if nextC day d = 0 then d else day) G E := by
  cases c1 : dayB d
  · have hc : nextC day d = 2 := by unfold nextC; rw [c1, if_pos rfl]
    rw [hc]
    refine (Next_arg base g F w day G E d h c1).mono ?_
    rintro e w' ⟨rfl, hb⟩; exact ⟨rfl, Got.of_below h hb⟩
  · by_cases c2 : d < day
    · have hc : nextC day d = 9 := by unfold nextC; rw [c1, if_neg (by decide), if_pos c2]
      rw [hc]
      refine (Next_state base g F w day G E d h c1 c2).mono ?_
      rintro e w' ⟨rfl, hb⟩; exact ⟨rfl, Got.of_below h hb⟩
    · have hc : nextC day d = 0 := by unfold nextC; rw [c1, if_neg (by decide), if_neg c2]
      rw [hc]
      refine (Next_ok base g F w day G E d h c1 c2).mono ?_
      rintro e w' ⟨rfl, hb⟩; exact ⟨rfl, hb⟩
theorem Open_calls (v a ab s sb : Int) (h : BK base F w g day G E) (hI : Inv G) : Calls Try.prog 38 #[.pointer (some ⟨g, 0, none⟩), .int .i64 v, .int .i64 a, .int .i64 ab, .int .i64 s, .int .i64 sb] w fun e w' =>
    e = .returned (.int .i64 (openC day G E v a ab s sb)) ∧ Got base F w w' g day (if openC day G E v a ab s sb = 0 then openG G a s else G) (if openC day G E v a ab s sb = 0 then E ++ [⟨day, v, a, s⟩] else E) := by
  by_cases c1 : 0 ≤ v ∧ v ≤ 15
  · by_cases c2 : keyC day G v a ab = 0
    · by_cases c3 : keyC day G v s sb = 0
      · by_cases c4 : ab = sb ∨ (gr G a.toNat).f2 = (gr G s.toNat).f2
        · have hc : openC day G E v a ab s sb = 13 := by unfold openC; rw [if_neg (fun q => q c1), if_neg (fun q => q c2), if_neg (fun q => q c3), if_pos c4]
          rw [hc]
          by_cases c5 : ab = sb
          · refine (open_same base g F w day G E v a ab s sb h hI.1 c1.1 c1.2 c2 c3 c5).mono ?_
            rintro e w' ⟨rfl, hb⟩; exact ⟨rfl, Got.of_below h hb⟩
          · refine (open_root base g F w day G E v a ab s sb h hI.1 c1.1 c1.2 c2 c3 c5 (c4.resolve_left c5)).mono ?_
            rintro e w' ⟨rfl, hb⟩; exact ⟨rfl, Got.of_below h hb⟩
        · by_cases c5 : 4096 ≤ E.length
          · have hc : openC day G E v a ab s sb = 8 := by unfold openC; rw [if_neg (fun q => q c1), if_neg (fun q => q c2), if_neg (fun q => q c3), if_neg c4, if_pos c5]
            rw [hc]
            refine (open_full base g F w day G E v a ab s sb h hI.1 c1.1 c1.2 c2 c3 (fun q => c4 (Or.inl q)) (fun q => c4 (Or.inr q)) c5).mono ?_
            rintro e w' ⟨rfl, hb⟩; exact ⟨rfl, Got.of_below h hb⟩
          · have hc : openC day G E v a ab s sb = 0 := by unfold openC; rw [if_neg (fun q => q c1), if_neg (fun q => q c2), if_neg (fun q => q c3), if_neg c4, if_neg c5]
            rw [hc]
            refine (open_ok base g F w day G E v a ab s sb h hI.1 c1.1 c1.2 c2 c3 (fun q => c4 (Or.inl q)) (fun q => c4 (Or.inr q)) (by omega) hI.us).mono ?_
            rintro e w' ⟨rfl, hb⟩; exact ⟨rfl, hb⟩
      · have hc : openC day G E v a ab s sb = keyC day G v s sb := by unfold openC; rw [if_neg (fun q => q c1), if_neg (fun q => q c2), if_pos c3]
        rw [hc, if_neg c3, if_neg c3]
        refine (open_key2 base g F w day G E v a ab s sb h hI.1 c1.1 c1.2 c2 _ rfl c3).mono ?_
        rintro e w' ⟨rfl, hb⟩; exact ⟨rfl, Got.of_below h hb⟩
    · have hc : openC day G E v a ab s sb = keyC day G v a ab := by unfold openC; rw [if_neg (fun q => q c1), if_pos c2]
      rw [hc, if_neg c2, if_neg c2]
      refine (open_key1 base g F w day G E v a ab s sb h hI.1 c1.1 c1.2 _ rfl c2).mono ?_
      rintro e w' ⟨rfl, hb⟩; exact ⟨rfl, Got.of_below h hb⟩
  · have hc : openC day G E v a ab s sb = 2 := by unfold openC; rw [if_pos c1]
    rw [hc]
    refine (open_arg base g F w day G E v a ab s sb h hI.1 c1).mono ?_
    rintro e w' ⟨rfl, hb⟩; exact ⟨rfl, Got.of_below h hb⟩
end
end Go.Proofs.Ytfnlghjkjmppdaa.PC
namespace Go.Proofs.Ytfnlghjkjmppdaa.PC
open Go.RowKit Go.Proofs.YtfnlghjkjmppdaaW.PrintWords Go.Proofs.YtfnlghjkjmppdaaW.PrintLast Go.Proofs.YtfnlghjkjmppdaaW.PrintMore
set_option linter.unusedVariables false
set_option linter.unusedSimpArgs false
theorem act_root {s : St} {a : S37} (k : kd a = 0) : actC s a = grantC s.G a.f3 a.f6 a.f7 a.f8 a.f9 ∧ stepS s a = ⟨s.day, if grantC s.G a.f3 a.f6 a.f7 a.f8 a.f9 = 0 then rootG s.G a.f3 a.f6 a.f7 a.f8 a.f9 else s.G, s.E⟩ := by
  have h : actC s a = grantC s.G a.f3 a.f6 a.f7 a.f8 a.f9 := by unfold actC; rw [if_pos k]
  refine ⟨h, ?_⟩
  unfold stepS
  rw [h]
  by_cases c : grantC s.G a.f3 a.f6 a.f7 a.f8 a.f9 = 0
  · rw [if_pos c, if_pos c, if_pos k]
  · rw [if_neg c, if_neg c]
theorem act_pass {s : St} {a : S37} (k0 : kd a ≠ 0) (k : kd a = 1 ∨ kd a = 2) : actC s a = passC s.day s.G a.f1 a.f3 a.f4 a.f6 a.f7 a.f8 a.f9 ∧ stepS s a = ⟨s.day, if passC s.day s.G a.f1 a.f3 a.f4 a.f6 a.f7 a.f8 a.f9 = 0 then passG s.G a.f1 a.f4 a.f6 a.f7 a.f8 a.f9 else s.G, s.E⟩ := by
  have h : actC s a = passC s.day s.G a.f1 a.f3 a.f4 a.f6 a.f7 a.f8 a.f9 := by unfold actC; rw [if_neg k0, if_pos k]
  refine ⟨h, ?_⟩
  unfold stepS
  rw [h]
  by_cases c : passC s.day s.G a.f1 a.f3 a.f4 a.f6 a.f7 a.f8 a.f9 = 0
  · rw [if_pos c, if_pos c, if_neg k0, if_pos k]
  · rw [if_neg c, if_neg c]
theorem act_revoke {s : St} {a : S37} (k : kd a = 3) : actC s a = revC s.G a.f1 a.f3 ∧ stepS s a = ⟨s.day, if revC s.G a.f1 a.f3 = 0 then put8 s.G a.f1.toNat true else s.G, s.E⟩ := by
  have k0 : kd a ≠ 0 := by omega
  have k1 : ¬ (kd a = 1 ∨ kd a = 2) := by omega
  have h : actC s a = revC s.G a.f1 a.f3 := by unfold actC; rw [if_neg k0, if_neg k1, if_pos k]
  refine ⟨h, ?_⟩
  unfold stepS
  rw [h]
  by_cases c : revC s.G a.f1 a.f3 = 0
  · rw [if_pos c, if_pos c, if_neg k0, if_neg k1, if_pos k]
  · rw [if_neg c, if_neg c]
theorem act_next {s : St} {a : S37} (k : kd a = 7) : actC s a = nextC s.day a.f10 ∧ stepS s a = ⟨if nextC s.day a.f10 = 0 then a.f10 else s.day, s.G, s.E⟩ := by
  have k0 : kd a ≠ 0 := by omega
  have k1 : ¬ (kd a = 1 ∨ kd a = 2) := by omega
  have k3 : kd a ≠ 3 := by omega
  have h : actC s a = nextC s.day a.f10 := by unfold actC; rw [if_neg k0, if_neg k1, if_neg k3, if_pos k]
  refine ⟨h, ?_⟩
  unfold stepS
  rw [h]
  by_cases c : nextC s.day a.f10 = 0
  · rw [if_pos c, if_pos c, if_neg k0, if_neg k1, if_neg k3, if_pos k]
  · rw [if_neg c, if_neg c]
theorem act_open {s : St} {a : S37} (k0 : kd a ≠ 0) (k1 : ¬ (kd a = 1 ∨ kd a = 2)) (k3 : kd a ≠ 3) (k7 : kd a ≠ 7) : actC s a = openC s.day s.G s.E a.f10 a.f1 a.f3 a.f2 a.f4 ∧
    stepS s a = ⟨s.day, if openC s.day s.G s.E a.f10 a.f1 a.f3 a.f2 a.f4 = 0 then openG s.G a.f1 a.f2 else s.G, if openC s.day s.G s.E a.f10 a.f1 a.f3 a.f2 a.f4 = 0 then s.E ++ [⟨s.day, a.f10, a.f1, a.f2⟩] else s.E⟩ := by
  have h : actC s a = openC s.day s.G s.E a.f10 a.f1 a.f3 a.f2 a.f4 := by unfold actC; rw [if_neg k0, if_neg k1, if_neg k3, if_neg k7]
  refine ⟨h, ?_⟩
  unfold stepS
  rw [h]
  by_cases c : openC s.day s.G s.E a.f10 a.f1 a.f3 a.f2 a.f4 = 0
  · rw [if_pos c, if_pos c, if_pos c, if_neg k0, if_neg k1, if_neg k3, if_neg k7]
  · rw [if_neg c, if_neg c, if_neg c]
theorem cells11 {W : World} {b : Nat} {v0 v1 v2 v3 v4 v5 v6 v7 v8 v9 v10 : Value} {ty : Nat} (h : W.heap[b]? = some (.cells #[v0, v1, v2, v3, v4, v5, v6, v7, v8, v9, v10] ty)) : W.cell? ⟨b, 0, none⟩ = some v0 ∧ W.cell? ⟨b, 1, none⟩ = some v1 ∧ W.cell? ⟨b, 2, none⟩ = some v2 ∧ W.cell? ⟨b, 3, none⟩ = some v3 ∧ W.cell? ⟨b, 4, none⟩ = some v4 ∧ W.cell? ⟨b, 5, none⟩ = some v5 ∧ W.cell? ⟨b, 6, none⟩ = some v6 ∧ W.cell? ⟨b, 7, none⟩ = some v7 ∧ W.cell? ⟨b, 8, none⟩ = some v8 ∧ W.cell? ⟨b, 9, none⟩ = some v9 ∧ W.cell? ⟨b, 10, none⟩ = some v10 :=
  ⟨by rw [blk_cell h 0]; rfl, by rw [blk_cell h 1]; rfl, by rw [blk_cell h 2]; rfl, by rw [blk_cell h 3]; rfl, by rw [blk_cell h 4]; rfl, by rw [blk_cell h 5]; rfl, by rw [blk_cell h 6]; rfl, by rw [blk_cell h 7]; rfl, by rw [blk_cell h 8]; rfl, by rw [blk_cell h 9]; rfl, by rw [blk_cell h 10]; rfl⟩
theorem tup_any {e : Ending} {a b : Int} (h : e = .returned (.tuple #[.int .i64 a, .int .i64 b])) : ∃ x y : Int, x = a ∧ y = b ∧ e = .returned (.tuple #[.int .i64 x, .int .i64 y]) := ⟨a, b, rfl, rfl, h⟩
theorem one_any {e : Ending} {b : Int} (h : e = .returned (.int .i64 b)) : ∃ y : Int, y = b ∧ e = .returned (.int .i64 y) := ⟨b, rfl, h⟩
def Bk (base : Nat) (F : Nat → Prop) (w : World) (g : Nat) (s : St) : Prop := BK base F w g s.day s.G s.E
end Go.Proofs.Ytfnlghjkjmppdaa.PC
namespace Go.Proofs.Ytfnlghjkjmppdaa.PC
open Go.RowKit Go.Proofs.YtfnlghjkjmppdaaW.PrintWords Go.Proofs.YtfnlghjkjmppdaaW.PrintLast Go.Proofs.YtfnlghjkjmppdaaW.PrintMore
set_option linter.unusedVariables false
set_option linter.unusedSimpArgs false
def Has (base : Nat) (w0 w : World) (g : Nat) (s : St) : Prop := (∃ F, BK base F w g s.day s.G s.E) ∧ Below base w0 w ∧ base ≤ w0.heap.size
theorem Has.next {base : Nat} {w0 w w' : World} {g : Nat} {s : St} (h : Has base w0 w g s) (hb : Below w.heap.size w w') : Has base w0 w' g s := by
  obtain ⟨⟨F, h1⟩, h2, h3⟩ := h
  exact ⟨⟨F, h1.next hb⟩, below_then h2 h1.size hb, h3⟩
theorem Has.got {base : Nat} {F : Nat → Prop} {w0 w w' : World} {g : Nat} {day : Int} {G : List S39} {E : List S44} (h1 : BK base F w g day G E) (h2 : Below base w0 w) (h3 : base ≤ w0.heap.size) {day' : Int} {G' : List S39} {E' : List S44} (hg : Got base F w w' g day' G' E') : Has base w0 w' g ⟨day', G', E'⟩ := by
  obtain ⟨F', m1, m2, m3⟩ := hg
  exact ⟨⟨F', m1⟩, h2.trans (m3.below h1.size (fun k q => (h1.fb k q).1)), h3⟩
theorem new_has (w : World) : Calls Try.prog 14 #[] w fun e w' => ∃ g, e = .returned (.pointer (some ⟨g, 0, none⟩)) ∧ Has w.heap.size w w' g ⟨0, [], []⟩ := by
  refine (new_calls w).mono ?_
  rintro e w' ⟨g, rfl, hg, hb, hw⟩
  exact ⟨g, rfl, ⟨_, hb⟩, hw, Nat.le_refl _⟩
theorem nil_inv : Inv [] := ⟨⟨by simp, fun n h1 h2 => by simp at h2; omega⟩, fun n h1 h2 => by simp at h2; omega⟩
def G1 : List S39 := [⟨1, 0, 1, 0, 1, 3, 9, 2, false⟩]
def G2 : List S39 := [⟨1, 0, 1, 0, 1, 3, 9, 2, false⟩, ⟨2, 0, 2, 1, 1, 1, 9, -1, false⟩]
def G3 : List S39 := [⟨1, 0, 1, 0, 1, 3, 9, 1, false⟩, ⟨2, 0, 2, 1, 1, 1, 9, -1, false⟩]
theorem g1_c : grantC [] 0 1 3 9 2 = 0 := by decide
theorem g1_g : rootG [] 0 1 3 9 2 = G1 := rfl
theorem g2_c : grantC G1 1 1 1 9 (-1) = 0 := by decide
theorem g2_g : rootG G1 1 1 1 9 (-1) = G2 := rfl
theorem inv1 : Inv G1 := by have := inv_root nil_inv g1_c; rwa [g1_g] at this
theorem inv2 : Inv G2 := by have := inv_root inv1 g2_c; rwa [g2_g] at this
theorem up_root {G : List S39} (hT : Tree G) {n : Nat} (h1 : 1 ≤ n) (h2 : n ≤ G.length) (h : (gr G n).f1 = 0) : up G n = [n] := by
  rw [up_succ hT h1 h2, h]; show n :: up G 0 = _; rw [up_zero]
theorem up21 : up G2 1 = [1] := up_root inv2.1 (by decide) (by decide) rfl
theorem up22 : up G2 2 = [2] := up_root inv2.1 (by decide) (by decide) rfl
theorem o3_c : openC 0 G2 [] 0 1 0 2 1 = 0 := by
  have k1 : keyC 0 G2 0 1 0 = 0 := by unfold keyC badB stB revB spB; rw [show ((1 : Int)).toNat = 1 from rfl, up21]; decide +kernel
  have k2 : keyC 0 G2 0 2 1 = 0 := by unfold keyC badB stB revB spB; rw [show ((2 : Int)).toNat = 2 from rfl, up22]; decide +kernel
  unfold openC; rw [k1, k2]; decide +kernel
theorem o3_g : openG G2 1 2 = G3 := by
  unfold openG; rw [show ((1 : Int)).toNat = 1 from rfl, show ((2 : Int)).toNat = 2 from rfl, up21, up22]; rfl
theorem inv3 : Inv G3 := by have := inv_open inv2 o3_c; rwa [o3_g] at this
theorem up31 : up G3 1 = [1] := up_root inv3.1 (by decide) (by decide) rfl
theorem o4_c (E : List S44) : openC 0 G3 E 0 1 0 1 0 = 13 := by
  have k1 : keyC 0 G3 0 1 0 = 0 := by unfold keyC badB stB revB spB; rw [show ((1 : Int)).toNat = 1 from rfl, up31]; decide +kernel
  unfold openC; rw [k1]; simp
theorem c2_s : couldS 0 G2 3 = 1 := by
  have s1 : servB 0 G2 3 1 = true := by unfold servB stB revB spB; rw [up21]; decide +kernel
  have s2 : servB 0 G2 3 2 = true := by unfold servB stB revB spB; rw [up22]; decide +kernel
  unfold couldS
  rw [show G2.length = 1 + 1 from rfl, keysS_yes s2, show (1 : Nat) = 0 + 1 from rfl, keysS_yes s1]
  decide +kernel
theorem alive_calls (w : World) : Calls Try.prog 17 #[] w fun e w' => e = .returned (.bool true) ∧ Below w.heap.size w w' := by
  have HB_1 := lhid (Below.refl w.heap.size w)
  go_enter Try.func17, Try.ntmps17
  go_wp2_with fail
  with_reducible refine (new_has w).mono ?_
  rintro e w1 ⟨g, rfl, h1⟩
  have HS0 := lhid h1
  clear h1
  go_wp2_with fail
  obtain ⟨⟨F, hk⟩, hb, hz⟩ := HS0.out
  with_reducible refine (Grant_calls w.heap.size g F w1 _ _ _ 0 1 3 9 2 hk).mono ?_
  rintro e w2 ⟨rfl, hg⟩
  rw [g1_c, if_pos rfl, g1_g] at hg
  rw [g1_c, if_pos rfl]
  have HS_2 := lhid (Has.got hk hb hz hg)
  clear hk hb hz hg HS0
  go_wp2_with fail
  obtain ⟨⟨F, hk⟩, hb, hz⟩ := HS_2.out
  with_reducible refine (Grant_calls w.heap.size g F w2 _ _ _ 1 1 1 9 (-1) hk).mono ?_
  rintro e w3 ⟨rfl, hg⟩
  rw [g2_c, if_pos rfl, g2_g] at hg
  rw [g2_c, if_pos rfl]
  have HS_3 := lhid (Has.got hk hb hz hg)
  clear hk hb hz hg HS_2
  simp only [show ((G1.length : Nat) : Int) + 1 = 2 from rfl]
  go_wp2_with fail
  obtain ⟨⟨F, hk⟩, hb, hz⟩ := HS_3.out
  with_reducible refine (could_ok w.heap.size g F w3 0 G2 [] 3 hk inv2 (by decide) (by decide)).mono ?_
  rintro e w4 ⟨rfl, hb9⟩
  rw [c2_s]
  have HS_4 := lhid (HS_3.out.next hb9)
  clear hk hb hz hb9 HS_3
  go_wp2_with fail
  obtain ⟨⟨F, hk⟩, hb, hz⟩ := HS_4.out
  have hGet := Get_ok w.heap.size g F w4 0 G2 [] 1 hk (by decide) (by decide) (by decide)
  rw [show ((1 : Nat) : Int) = 1 from rfl] at hGet
  with_reducible refine hGet.mono ?_
  clear hGet
  rintro e w5 ⟨rfl, hb9⟩
  have HS_5 := lhid (HS_4.out.next hb9)
  clear hk hb hz hb9 HS_4
  simp only [show gr G2 1 = ⟨1, 0, 1, 0, 1, 3, 9, 2, false⟩ from rfl]
  go_upto_region 8 with (fail)
  have hb := below_alloc (Below.refl w5.heap.size w5) (.cells #[.int .i64 1, .int .i64 0, .int .i64 1, .int .i64 0, .int .i64 1, .int .i64 3, .int .i64 9, .int .i64 2, .bool false] 39)
  have hn := blk_new w5 (.cells #[.int .i64 1, .int .i64 0, .int .i64 1, .int .i64 0, .int .i64 1, .int .i64 3, .int .i64 9, .int .i64 2, .bool false] 39)
  have HZ6 := lhid (show (World.alloc w5 (.cells #[.int .i64 1, .int .i64 0, .int .i64 1, .int .i64 0, .int .i64 1, .int .i64 3, .int .i64 9, .int .i64 2, .bool false] 39)).heap.size = w5.heap.size + 1 from by simp)
  generalize hq : World.alloc w5 (.cells #[.int .i64 1, .int .i64 0, .int .i64 1, .int .i64 0, .int .i64 1, .int .i64 3, .int .i64 9, .int .i64 2, .bool false] 39) = w6 at hb hn HZ6 ⊢
  clear hq
  have HS_6 := lhid (HS_5.out.next hb)
  clear HS_5 hb
  have XB_7 := lhid (hn)
  clear hn
  obtain ⟨xb, hxb⟩ : ∃ q, q = w5.heap.size := ⟨_, rfl⟩
  rw [← hxb] at XB_7 ⊢
  clear hxb
  obtain ⟨hx0, hx1, hx2, hx3, hx4, hx5, hx6, hx7, hx8⟩ := nine XB_7.out
  go_wp2_with fail
  obtain ⟨⟨F, hk⟩, hb, hz⟩ := HS_6.out
  with_reducible refine (Open_calls w.heap.size g F w6 0 G2 [] 0 1 0 2 1 hk inv2).mono ?_
  rintro e w7 ⟨rfl, hg⟩
  rw [o3_c, if_pos rfl, if_pos rfl, o3_g] at hg
  rw [o3_c]
  have HS_8 := lhid (Has.got hk hb hz hg)
  clear hk hb hz hg HS_6
  clear hx0 hx1 hx2 hx3 hx4 hx5 hx6 hx7 hx8
  go_wp2_with fail
  obtain ⟨⟨F, hk⟩, hb, hz⟩ := HS_8.out
  with_reducible refine (Open_calls w.heap.size g F w7 0 G3 ([] ++ [⟨0, 0, 1, 2⟩]) 0 1 0 1 0 hk inv3).mono ?_
  rintro e w8 ⟨rfl, hg⟩
  rw [o4_c, if_neg (by decide), if_neg (by decide)] at hg
  rw [o4_c]
  have HS_9 := lhid (Has.got hk hb hz hg)
  clear hk hb hz hg HS_8
  go_wp2_with fail
  obtain ⟨⟨F, hk⟩, hb, hz⟩ := HS_9.out
  with_reducible refine (entries_calls w.heap.size g F w8 0 G3 ([] ++ [⟨0, 0, 1, 2⟩]) hk (by decide)).mono ?_
  rintro e w9 ⟨vE, rfl, hR, hb9⟩
  obtain ⟨AE, cE, rfl⟩ := Kd.R_slice hR
  have HS9 := lhid (HS_9.out.next hb9)
  clear hk hb hz hb9 hR
  simp only [show ([] ++ [(⟨0, 0, 1, 2⟩ : S44)]).length = 1 from rfl]
  go_wp2_with fail
  go_ret
  exact ⟨rfl, HS9.out.2.1⟩
end Go.Proofs.Ytfnlghjkjmppdaa.PC
namespace Go.Proofs.Ytfnlghjkjmppdaa.PC
open Go.RowKit Go.Proofs.YtfnlghjkjmppdaaW.PrintWords Go.Proofs.YtfnlghjkjmppdaaW.PrintLast Go.Proofs.YtfnlghjkjmppdaaW.PrintMore
set_option linter.unusedVariables false
set_option linter.unusedSimpArgs false
def s0 : St := ⟨0, [], []⟩
def runS (s : St) (l : List S37) : St := l.foldl stepS s
theorem runS_take (s : St) (l : List S37) (i : Nat) (h : i < l.length) : runS s (l.take (i + 1)) = stepS (runS s (l.take i)) (l.getD i z37) := by
  unfold runS
  rw [List.take_succ_eq_append_getElem h, List.foldl_append, List.getD_eq_getElem?_getD, List.getElem?_eq_getElem h]; rfl
theorem step_len (s : St) (a : S37) : (stepS s a).G.length ≤ s.G.length + 1 ∧ s.G.length ≤ (stepS s a).G.length ∧ (stepS s a).E.length ≤ s.E.length + 1 ∧ s.E.length ≤ (stepS s a).E.length := by
  unfold stepS
  by_cases c : actC s a = 0
  · rw [if_pos c]
    by_cases k0 : kd a = 0
    · rw [if_pos k0]; simp [rootG]
    · rw [if_neg k0]
      by_cases k1 : kd a = 1 ∨ kd a = 2
      · rw [if_pos k1]; simp [passG]
      · rw [if_neg k1]
        by_cases k3 : kd a = 3
        · rw [if_pos k3]; simp [put8_len]
        · rw [if_neg k3]
          by_cases k7 : kd a = 7
          · rw [if_pos k7]; simp
          · rw [if_neg k7]; simp [openG, uses_len]
  · rw [if_neg c]; simp
theorem run_len (l : List S37) : ∀ s : St, (runS s l).G.length ≤ s.G.length + l.length ∧ (runS s l).E.length ≤ s.E.length + l.length := by
  unfold runS
  induction l with
  | nil => intro s; simp
  | cons a l ih =>
    intro s
    rw [List.foldl_cons]
    have h1 := ih (stepS s a)
    have h2 := step_len s a
    simp only [List.length_cons]
    omega
theorem mem_getD {l : List S37} {i : Nat} (h : i < l.length) : l.getD i z37 ∈ l := by
  rw [List.getD_eq_getElem?_getD, List.getElem?_eq_getElem h]; exact List.getElem_mem h
theorem take_gr (G : List S39) (i : Nat) (h : i < G.length) : G.take (i + 1) = G.take i ++ [gr G (i + 1)] := by
  have e := gr_get G (i + 1) (by omega) (by omega)
  rw [show i + 1 - 1 = i by omega, List.getElem?_eq_getElem h] at e
  rw [List.take_succ_eq_append_getElem h, Option.some.inj e]
end Go.Proofs.Ytfnlghjkjmppdaa.PC
end
section
namespace Go.Proofs.Ytfnlghjkjmppdaa.PC
open Go.Proofs.YtfnlghjkjmppdaaW.PrintLast
def lsb (n m : Nat) : Array Bool := ((List.range n).map m.testBit).toArray
section
variable {P : Program} {ops : Array Oper} {w : World} {Q : Act → Prop} {o : Oper} {rest : List Oper} {a : Act}
end
end Go.Proofs.Ytfnlghjkjmppdaa.PC


namespace Go.Proofs.Ytfnlghjkjmppdaa.PC
open Go.RowKit Go.Proofs.YtfnlghjkjmppdaaW.PrintWords Go.Proofs.YtfnlghjkjmppdaaW.PrintLast
theorem pS : (∀ (l : List Value) (i : Nat) (v : Value), l.toArray.setIfInBounds i v = (l.set i v).toArray) ∧ (∀ (a b : Value) (l : List Value), (a :: l).set 0 b = b :: l) ∧ (∀ (a b : Value) (l : List Value) (n : Nat), (a :: l).set (n + 1) b = a :: l.set n b) ∧ (∀ n : Int, IntKind.i64.wrap n = Go.RowKit.wrap64 n) ∧ (∀ n : Int, IntKind.i32.wrap n = Go.RowKit.wrap32 n) := ⟨fun _ _ _ => by simp, fun _ _ _ => rfl, fun _ _ _ _ => rfl, i64_w, i32_w⟩
section
variable {P : Program} {md : Region.Mode} {ops : Array Oper} {Q : Exit → Act → World → Prop} {S : World → Prop} {ds : List Nat}
theorem pu {oi : Oper} {v : Value} {fuel : Nat} {l : Array Bool} {a : Act} {w : World} (i : Nat) (N : Option Tmp) (n m : Nat) (hi : ops[i]? = some oi) (hN : oi.dst = N) (hr : ∀ w' : World, (execOp a.eval oi).run P w' = .ok (.value v) w') {a' : Act} (ha : a.put N v = a')
    (h : wpAnyLast P md ops Q S ds fuel (lsb n m) a' w) (hw : Region.wanted oi (yielded ops a.tmps) = true := by rfl) (hc : anyB md ops l (lsb n m) i = true := by as_aux_lemma => kernel_rfl) (hQ : ∀ c a w, Q (.panic c) (a.put oi.dst v) w → Q (.panic c) a w := by exact fun _ _ _ h => h) : wpAnyLast P md ops Q S ds (fuel + 1) l a w :=
  pure_ (lsb n m) hi hN hc hQ (Or.inl ⟨hw, hr⟩) ha h
theorem tk {oi : Oper} {v : Value} {fuel : Nat} {l : Array Bool} {a : Act} {w : World} (i : Nat) (N : Option Tmp) (n m : Nat) (hi : ops[i]? = some oi) (hN : oi.dst = N) (hS : S w) (hr : ∀ w' : World, S w' → (execOp a.eval oi).run P w' = .ok (.value v) w') {a' : Act} (ha : a.put N v = a')
    (h : wpAnyLast P md ops Q S ds fuel (lsb n m) a' w) (hw : Region.wanted oi (yielded ops a.tmps) = true := by rfl) (hc : takeB md ops ds l (lsb n m) i = true := by as_aux_lemma => kernel_rfl) (hQ : ∀ c a w, Q (.panic c) (a.put oi.dst v) w → Q (.panic c) a w := by exact fun _ _ _ h => h) : wpAnyLast P md ops Q S ds (fuel + 1) l a w :=
  take_ (lsb n m) hi hN hc hQ (Or.inl ⟨hw, hr⟩) hS ha h
theorem pf {oi : Oper} {fuel : Nat} {l : Array Bool} {a : Act} {w : World} (i : Nat) (N : Option Tmp) (n m : Nat) (hi : ops[i]? = some oi) (hN : oi.dst = N) {a' : Act} (ha : a.put N undef = a')
    (h : wpAnyLast P md ops Q S ds fuel (lsb n m) a' w) (hw : Region.wanted oi (yielded ops a.tmps) = false := by rfl) (hc : anyB md ops l (lsb n m) i = true := by as_aux_lemma => kernel_rfl) (hQ : ∀ c a w, Q (.panic c) (a.put oi.dst undef) w → Q (.panic c) a w := by exact fun _ _ _ h => h) : wpAnyLast P md ops Q S ds (fuel + 1) l a w :=
  pure_ (lsb n m) hi hN hc hQ (Or.inr ⟨hw, rfl⟩) ha h
end
end Go.Proofs.Ytfnlghjkjmppdaa.PC
end
section
namespace Go.Proofs.Ytfnlghjkjmppdaa.PC
open Go.RowKit Go.Proofs.YtfnlghjkjmppdaaW.PrintWords Go.Proofs.YtfnlghjkjmppdaaW.PrintLast Go.Proofs.YtfnlghjkjmppdaaW.PrintMore
set_option linter.unusedVariables false
set_option linter.unusedSimpArgs false
theorem and_n (a b : Nat) (ha : a < 9223372036854775808) (hb : b < 9223372036854775808) : bits .and .i64 (a : Int) (b : Int) = ((a &&& b : Nat) : Int) := by
  have hx : a &&& b < 2 ^ 63 := Nat.and_lt_two_pow _ (by omega)
  show IntKind.i64.wrap ((BitVec.ofInt 64 (a : Int) &&& BitVec.ofInt 64 (b : Int)).toNat : Int) = _
  rw [BitVec.toNat_and, ofInt_u64 a (by omega), ofInt_u64 b (by omega), IntKind.wrap_i64]
  omega
theorem or_n (a b : Nat) (ha : a < 9223372036854775808) (hb : b < 9223372036854775808) : bits .or .i64 (a : Int) (b : Int) = ((a ||| b : Nat) : Int) := by
  have hx : a ||| b < 2 ^ 63 := Nat.or_lt_two_pow (by omega) (by omega)
  show IntKind.i64.wrap ((BitVec.ofInt 64 (a : Int) ||| BitVec.ofInt 64 (b : Int)).toNat : Int) = _
  rw [BitVec.toNat_or, ofInt_u64 a (by omega), ofInt_u64 b (by omega), IntKind.wrap_i64]
  omega
theorem andNot_n (a b : Nat) (ha : a < 9223372036854775808) (hb : b < 9223372036854775808) : bits .andNot .i64 (a : Int) (b : Int) = ((a &&& (18446744073709551615 - b) : Nat) : Int) := by
  have hx : a &&& (18446744073709551615 - b) < 2 ^ 63 := by rw [Nat.and_comm]; exact Nat.and_lt_two_pow _ (by omega)
  show IntKind.i64.wrap ((BitVec.ofInt 64 (a : Int) &&& ~~~BitVec.ofInt 64 (b : Int)).toNat : Int) = _
  rw [BitVec.toNat_and, BitVec.toNat_not, ofInt_u64 a (by omega), ofInt_u64 b (by omega), IntKind.wrap_i64]
  have e : 2 ^ 64 - 1 - b = 18446744073709551615 - b := by omega
  rw [e]
  omega
theorem and_i {a b : Int} (h0 : 0 ≤ a) (h1 : a < 65536) (h2 : 0 ≤ b) (h3 : b < 65536) : bits .and .i64 a b = ((a.toNat &&& b.toNat : Nat) : Int) := by
  obtain ⟨A, rfl⟩ := Int.eq_ofNat_of_zero_le h0
  obtain ⟨B, rfl⟩ := Int.eq_ofNat_of_zero_le h2
  simpa using and_n A B (by omega) (by omega)
theorem or_i {a b : Int} (h0 : 0 ≤ a) (h1 : a < 65536) (h2 : 0 ≤ b) (h3 : b < 65536) : bits .or .i64 a b = ((a.toNat ||| b.toNat : Nat) : Int) := by
  obtain ⟨A, rfl⟩ := Int.eq_ofNat_of_zero_le h0
  obtain ⟨B, rfl⟩ := Int.eq_ofNat_of_zero_le h2
  simpa using or_n A B (by omega) (by omega)
theorem andNot_bit (a b i : Nat) (ha : a < 18446744073709551616) (hb : b < 18446744073709551616) : (a &&& (18446744073709551615 - b)).testBit i = (a.testBit i && !b.testBit i) := by
  rw [Nat.testBit_and]
  by_cases c : i < 64
  · rw [show 18446744073709551615 - b = 2 ^ 64 - (b + 1) by omega, Nat.testBit_two_pow_sub_succ (by omega)]
    simp [c]
  · rw [Nat.testBit_lt_two_pow (Nat.lt_of_lt_of_le (show a < 2 ^ 64 by omega) (Nat.pow_le_pow_right (by omega) (by omega)))]; rfl
theorem within {a b : Int} (h0 : 0 ≤ a) (h1 : a < 65536) (h2 : 0 ≤ b) (h3 : b < 65536) (h : bits .andNot .i64 a b = 0) : bits .and .i64 a b = a := by
  obtain ⟨A, rfl⟩ := Int.eq_ofNat_of_zero_le h0
  obtain ⟨B, rfl⟩ := Int.eq_ofNat_of_zero_le h2
  rw [andNot_n A B (by omega) (by omega)] at h
  rw [and_n A B (by omega) (by omega)]
  have hz : A &&& (18446744073709551615 - B) = 0 := by omega
  congr 1
  apply Nat.eq_of_testBit_eq
  intro i
  have := congrArg (fun x => x.testBit i) hz
  simp only [andNot_bit A B i (by omega) (by omega), Nat.zero_testBit] at this
  rw [Nat.testBit_and]
  cases ha : A.testBit i <;> cases hb : B.testBit i <;> simp_all
theorem wf_u8 {n : Int} (h : (Lit.int .u8 n).wf = true) : 0 ≤ n ∧ n < 256 := by
  have : 0 ≤ n ∧ n ≤ 255 := by simpa [Lit.wf, IntKind.min, IntKind.max, IntKind.signed, IntKind.bits] using h
  omega
theorem gr_getD (G : List S39) (i : Nat) : gr G (i + 1) = G.getD i z39 := by
  unfold gr rd_T39
  rw [show (((i + 1 : Nat) : Int) - 1).toNat = i by omega]
def In1 (x u : S39) : Prop := x.f2 = u.f2 ∧ bits .and .i64 x.f4 u.f4 = x.f4 ∧ bits .and .i64 x.f5 u.f5 = x.f5 ∧ x.f6 ≤ u.f6 ∧ bits .and .i64 u.f5 2 ≠ 0 ∧ (0 ≤ u.f7 → 0 ≤ x.f7)
def Nar (G : List S39) : Prop := Inv G ∧ ∀ n, 1 ≤ n → n ≤ G.length → ((gr G n).f1 = 0 → (gr G n).f2 = n) ∧ ((gr G n).f1 ≠ 0 → In1 (gr G n) (gr G (gr G n).f1.toNat))
theorem nil_nar : Nar [] := ⟨nil_inv, fun n h1 h2 => by simp at h2; omega⟩
theorem nar_app {G : List S39} (h : Nar G) (x : S39) (hI : Inv (G ++ [x])) (h1 : 0 ≤ x.f1) (h2 : x.f1 ≤ G.length) (hr : x.f1 = 0 → x.f2 = (G.length : Int) + 1) (hi : x.f1 ≠ 0 → In1 x (gr G x.f1.toNat)) : Nar (G ++ [x]) := by
  refine ⟨hI, fun n q1 q2 => ?_⟩
  by_cases c : n ≤ G.length
  · rw [gr_app_old G x n q1 c]
    refine ⟨(h.2 n q1 c).1, fun e => ?_⟩
    have ht := (h.1.1.2 n q1 c).2
    rw [gr_app_old G x _ (by omega) (by omega)]
    exact (h.2 n q1 c).2 e
  · have : n = G.length + 1 := by simp at q2; omega
    subst this
    rw [gr_app_new]
    refine ⟨fun e => by rw [hr e]; simp, fun e => ?_⟩
    rw [gr_app_old G x _ (by omega) (by omega)]
    exact hi e
theorem nar_root {G : List S39} (h : Nar G) {h_ v r u s : Int} (hc : grantC G h_ v r u s = 0) : Nar (rootG G h_ v r u s) :=
  nar_app h _ (inv_root h.1 hc) (Int.le_refl _) (by show (0 : Int) ≤ _; omega) (fun _ => rfl) (fun e => absurd rfl e)
theorem rightB_in {day : Int} {G : List S39} {n : Nat} {by_ v r u s : Int} (h : rightB day G n by_ v r u s = true) : by_ = (gr G n).f3 ∧ stB day G n = true ∧ bits .and .i64 (gr G n).f5 2 ≠ 0 ∧ bits .andNot .i64 v (gr G n).f4 = 0 ∧ bits .andNot .i64 r (gr G n).f5 = 0 ∧ u ≤ (gr G n).f6 ∧ ((gr G n).f7 = -1 ∨ (s ≠ -1 ∧ s ≤ (gr G n).f7)) := by
  unfold rightB at h
  simp only [Bool.and_eq_true, Bool.or_eq_true, Bool.not_eq_true', decide_eq_true_eq, decide_eq_false_iff_not, beq_iff_eq, bne_iff_ne] at h
  obtain ⟨⟨⟨⟨h1, h2⟩, h3⟩, ⟨h4, h5⟩, h6⟩, h7⟩ := h
  exact ⟨h1, h2, h3, h4, h5, h6, h7⟩
theorem nar_pass {day : Int} {G : List S39} (h : Nar G) {n by_ h_ v r u s : Int} (hc : passC day G n by_ h_ v r u s = 0) : Nar (passG G n h_ v r u s) := by
  obtain ⟨c1, c2, c3, c4, c5⟩ := passC_zero hc
  obtain ⟨m1, m2, m3, m4, m5, m6, m7, m8, m9⟩ := mayB_iff.1 c2
  obtain ⟨r1, r2, r3, r4, r5, r6, r7⟩ := rightB_in c4
  obtain ⟨o1, o2, o3, o4, o5, o6, o7, o8, o9⟩ := h.1.2 n.toNat (by omega) (by omega)
  have hne : n ≠ 0 := by omega
  refine nar_app h _ (inv_pass h.1 hc) (by show 0 ≤ n; omega) c1.2 (fun e => absurd e hne) (fun _ => ?_)
  refine ⟨if_neg hne, within (by omega : (0 : Int) ≤ v) m4 (by omega : 0 ≤ (gr G n.toNat).f4) o4 r4, within (by omega : (0 : Int) ≤ r) (by omega : r < 65536) (by omega : 0 ≤ (gr G n.toNat).f5) (by omega : (gr G n.toNat).f5 < 65536) r5, r6, r3, fun q => ?_⟩
  show 0 ≤ s
  have q' : 0 ≤ (gr G n.toNat).f7 := q
  omega
theorem nar_same {G H : List S39} (h : Nar G) (hI : Inv H) (hl : H.length = G.length) (hg : ∀ n, 1 ≤ n → n ≤ G.length → (gr H n).f1 = (gr G n).f1 ∧ (gr H n).f2 = (gr G n).f2 ∧ (gr H n).f4 = (gr G n).f4 ∧ (gr H n).f5 = (gr G n).f5 ∧ (gr H n).f6 = (gr G n).f6 ∧ (0 ≤ (gr H n).f7 ↔ 0 ≤ (gr G n).f7)) : Nar H := by
  refine ⟨hI, fun n q1 q2 => ?_⟩
  rw [hl] at q2
  obtain ⟨a1, a2, a4, a5, a6, a7⟩ := hg n q1 q2
  obtain ⟨k1, k2⟩ := h.2 n q1 q2
  have ht := (h.1.1.2 n q1 q2).2
  refine ⟨fun e => by rw [a2]; exact k1 (by rw [← a1]; exact e), fun e => ?_⟩
  rw [a1] at e ⊢
  obtain ⟨i1, i2, i3, i4, i5, i6⟩ := k2 e
  obtain ⟨b1, b2, b4, b5, b6, b7⟩ := hg (gr G n).f1.toNat (by omega) (by omega)
  unfold In1
  rw [a2, a4, a5, a6, b2, b4, b5, b6]
  exact ⟨i1, i2, i3, i4, i5, fun q => a7.2 (i6 (b7.1 q))⟩
theorem nar_put8 {G : List S39} (h : Nar G) {m : Nat} (h1 : 1 ≤ m) (h2 : m ≤ G.length) (u : Bool) : Nar (put8 G m u) :=
  nar_same h (inv_put8 h.1 h1 h2 u) (put8_len _ _ _) (fun n q1 q2 => by
    rw [gr_put8 G m n u h1 h2 q1]
    split
    · rename_i e; subst e; exact ⟨rfl, rfl, rfl, rfl, rfl, Iff.rfl⟩
    · exact ⟨rfl, rfl, rfl, rfl, rfl, Iff.rfl⟩)
theorem nar_use1 {G : List S39} (h : Nar G) {m : Nat} (h1 : 1 ≤ m) (h2 : m ≤ G.length) : Nar (use1 G m) :=
  nar_same h (inv_use1 h.1 h1 h2) (use1_len _ _) (fun n q1 q2 => by
    rw [gr_use1 G m n h1 h2 q1]
    refine ⟨rfl, rfl, rfl, rfl, rfl, ?_⟩
    show 0 ≤ (if n = m ∧ 0 < (gr G m).f7 then (gr G n).f7 - 1 else (gr G n).f7) ↔ _
    split
    · rename_i c; obtain ⟨rfl, c⟩ := c; omega
    · exact Iff.rfl)
theorem nar_uses {G : List S39} (h : Nar G) (ms : List Nat) (hm : ∀ m ∈ ms, 1 ≤ m ∧ m ≤ G.length) : Nar (ms.foldl use1 G) := by
  induction ms generalizing G with
  | nil => exact h
  | cons m ms ih =>
    rw [List.foldl_cons]
    exact ih (nar_use1 h (hm m (by simp)).1 (hm m (by simp)).2) (fun q hq => by rw [use1_len]; exact hm q (by simp [hq]))
theorem step_cases {P : St → Prop} {s : St} (a : S37) (h : P s) (hr : ∀ h_ v r u t, grantC s.G h_ v r u t = 0 → P ⟨s.day, rootG s.G h_ v r u t, s.E⟩) (hp : ∀ n by_ h_ v r u t, passC s.day s.G n by_ h_ v r u t = 0 → P ⟨s.day, passG s.G n h_ v r u t, s.E⟩)
    (hv : ∀ n by_, revC s.G n by_ = 0 → P ⟨s.day, put8 s.G n.toNat true, s.E⟩) (hn : ∀ d, nextC s.day d = 0 → P ⟨d, s.G, s.E⟩) (ho : ∀ v n nb m mb, openC s.day s.G s.E v n nb m mb = 0 → P ⟨s.day, openG s.G n m, s.E ++ [⟨s.day, v, n, m⟩]⟩) : P (stepS s a) := by
  unfold stepS
  by_cases hc : actC s a = 0
  · rw [if_pos hc]
    unfold actC at hc
    by_cases k0 : kd a = 0
    · rw [if_pos k0] at hc ⊢; exact hr _ _ _ _ _ hc
    · rw [if_neg k0] at hc ⊢
      by_cases k1 : kd a = 1 ∨ kd a = 2
      · rw [if_pos k1] at hc ⊢; exact hp _ _ _ _ _ _ _ hc
      · rw [if_neg k1] at hc ⊢
        by_cases k3 : kd a = 3
        · rw [if_pos k3] at hc ⊢; exact hv _ _ hc
        · rw [if_neg k3] at hc ⊢
          by_cases k7 : kd a = 7
          · rw [if_pos k7] at hc ⊢; exact hn _ hc
          · rw [if_neg k7] at hc ⊢; exact ho _ _ _ _ _ hc
  · rw [if_neg hc]; exact h
end Go.Proofs.Ytfnlghjkjmppdaa.PC
end
