-- printed by wip/gprint.py of this repo out of the translation and the texts under wip/
import Derived.Test.YtacjdoekgmmfoaaPLx0
import Derived.Test.YtacjdoekgmmfoaaPLx6
import Derived.Test.YtacjdoekgmmfoaaPLx9
import Derived.Test.YtacjdoekgmmfoaaPLx13
namespace Go.Proofs.Ytacjdoekgmmfoaa.PL
open Go.RowKit Go.Proofs.YtacjdoekgmmfoaaW.PrintWords Go.Proofs.YtacjdoekgmmfoaaW.PrintLast Go.Proofs.YtacjdoekgmmfoaaW.PrintMore
attribute [local go_sem] max2_int min2_int max_two min_two max_three min_three max_four min_four   -- for this text's walks alone
set_option linter.unusedVariables false
set_option linter.unusedSimpArgs false

-- GIVEN 69 rounds=1 making=1 info=
def kimberliteref07_made.f : Nat → Int → Int → Int → Bool → List Int → Option (Int × Int × Int × Bool)
  | 0, _, _, _, _, _ => none
  | k + 1, a0, a1, a2, a3, l4 => if a0 = a1 then (if a3 = true then (some (a2, a2, 0, false)) else ((kimberliteref07_Two_next.f a2 a2 0 false l4).bind fun bt373 => (some (bt373.1, bt373.1, bt373.2.2.2.1, bt373.2.2.2.2)))) else ((kimberliteref07_half.f k a1).bind fun t379 => (if a0 ≤ t379 then ((kimberliteref07_made.f k a0 t379 a2 a3 l4).bind fun bt380 => ((kimberliteref07_Two_next.f bt380.1 bt380.2.1 bt380.2.2.1 bt380.2.2.2 l4).bind fun bt384 => ((kimberliteref07_Node.f k bt384.2.2.1 bt384.1).bind fun t390 => (some (bt384.2.1, t390, bt384.2.2.2.1, bt384.2.2.2.2))))) else ((kimberliteref07_made.f k (wrap64 (a0 - t379)) (wrap64 (a1 - t379)) a2 false l4).bind fun bt391 => ((kimberliteref07_Two_next.f bt391.1 bt391.2.1 bt391.2.2.1 bt391.2.2.2 l4).bind fun bt395 => ((kimberliteref07_Node.f k bt395.1 bt395.2.1).bind fun t401 => ((kimberliteref07_Node.f k bt395.1 bt395.2.2.1).bind fun t402 => (some (t401, t402, bt395.2.2.2.1, bt395.2.2.2.2))))))))
theorem kimberliteref07_made.mono_l : ∀ k, (∀ y0 y1 y2 y3 y4, LeO (kimberliteref07_made.f k y0 y1 y2 y3 y4) (kimberliteref07_made.f (k + 1) y0 y1 y2 y3 y4))
  | 0 => fun _ _ _ _ _ r h => by simp [kimberliteref07_made.f] at h
  | k + 1 => by
    have ih0 := kimberliteref07_made.mono_l k
    · intro y0 y1 y2 y3 y4
      unfold kimberliteref07_made.f
      repeat' first
      | (with_reducible exact ih0 _ _ _ _ _)
      | (with_reducible exact kimberliteref07_Node.mono _ _ _)
      | (with_reducible exact kimberliteref07_half.mono _ _)
      | (with_reducible exact LeO.refl _)
      | (with_reducible exact LeO.none _)
      | (with_reducible refine LeO.ite ?_ ?_)
      | (with_reducible refine LeO.bind ?_ (fun _ => ?_))
      | exact ih0 _ _ _ _ _
      | exact kimberliteref07_Node.mono _ _ _
      | exact kimberliteref07_half.mono _ _
      | exact LeO.none _
      | refine LeO.ite ?_ ?_
      | refine LeO.bind ?_ (fun _ => ?_)
theorem kimberliteref07_made.mono : ∀ a0 a1 a2 a3 a4 k, LeO (kimberliteref07_made.f k a0 a1 a2 a3 a4) (kimberliteref07_made.f (k + 1) a0 a1 a2 a3 a4) := by
  intro a0 a1 a2 a3 a4 k
  have ih0 := kimberliteref07_made.mono_l k
  exact ih0 a0 a1 a2 a3 a4
theorem mhid {p : Prop} (h : p) : Hid p := h
/-- A pair of roots in memory. -/
def T100 (w : World) (g : Nat) (a b c : Int) (d : Bool) : Prop := w.heap[g]? = some (.cells #[.int .u64 a, .int .u64 b, .int .i64 c, .bool d] 100 (0, 0))
section
variable {w W : World} {g a : Nat} {x y z : Int} {d : Bool}
theorem T100.lt (h : T100 w g x y z d) : g < w.heap.size := blk_lt h
theorem T100.next (h : T100 w g x y z d) (hb : Below w.heap.size w W) : T100 W g x y z d := by unfold T100; rw [hb.block g h.lt]; exact h
theorem T100.cells (h : T100 w g x y z d) : w.cell? ⟨g, 0, none⟩ = some (.int .u64 x) ∧ w.cell? ⟨g, 1, none⟩ = some (.int .u64 y) ∧ w.cell? ⟨g, 2, none⟩ = some (.int .i64 z) ∧ w.cell? ⟨g, 3, none⟩ = some (.bool d) := by
  refine ⟨?_, ?_, ?_, ?_⟩ <;> (rw [blk_cell h]; rfl)
theorem T100.fr (h : T100 w g x y z d) : w.frozen? ⟨g, 0, none⟩ = false ∧ w.frozen? ⟨g, 1, none⟩ = false ∧ w.frozen? ⟨g, 2, none⟩ = false ∧ w.frozen? ⟨g, 3, none⟩ = false := ⟨blk_frozen h 0, blk_frozen h 1, blk_frozen h 2, blk_frozen h 3⟩
theorem T100.put (h : T100 w g x y z d) (x' y' z' : Int) (d' : Bool) : T100 ((((w.setCell ⟨g, 0, none⟩ (.int .u64 x')).setCell ⟨g, 1, none⟩ (.int .u64 y')).setCell ⟨g, 2, none⟩ (.int .i64 z')).setCell ⟨g, 3, none⟩ (.bool d')) g x' y' z' d' := by
  have h1 := blk_put h 0 (.int .u64 x') rfl
  have h2 := blk_put h1 1 (.int .u64 y') rfl
  have h3 := blk_put h2 2 (.int .i64 z') rfl
  have h4 := blk_put h3 3 (.bool d') rfl
  simpa [T100] using h4
theorem T100.far4 (h : T100 w g x y z d) (ha : g ≠ a) (v0 v1 v2 v3 : Value) : T100 ((((w.setCell ⟨a, 0, none⟩ v0).setCell ⟨a, 1, none⟩ v1).setCell ⟨a, 2, none⟩ v2).setCell ⟨a, 3, none⟩ v3) g x y z d :=
  blk_far (blk_far (blk_far (blk_far h (p := ⟨a, 0, none⟩) ha v0) (p := ⟨a, 1, none⟩) ha v1) (p := ⟨a, 2, none⟩) ha v2) (p := ⟨a, 3, none⟩) ha v3
theorem T100.put0 (h : T100 w g x y z d) (x' : Int) : T100 (w.setCell ⟨g, 0, none⟩ (.int .u64 x')) g x' y z d := by
  have h1 := blk_put h 0 (.int .u64 x') rfl
  simpa [T100] using h1
theorem T100.put1 (h : T100 w g x y z d) (y' : Int) : T100 (w.setCell ⟨g, 1, none⟩ (.int .u64 y')) g x y' z d := by
  have h1 := blk_put h 1 (.int .u64 y') rfl
  simpa [T100] using h1
theorem T100.far (h : T100 w g x y z d) (ha : g ≠ a) (j : Nat) (v : Value) : T100 (w.setCell ⟨a, j, none⟩ v) g x y z d := blk_far h (p := ⟨a, j, none⟩) ha v
theorem below_step' {w0 : World} {b : Nat} (h : Below b w0 w) (hb : b ≤ w.heap.size) (o : Obj) : Below b w0 (w.alloc o) := h.alloc hb o
theorem below4 {w0 : World} {b : Nat} (h : Below b w0 w) (ha : b ≤ a) (v0 v1 v2 v3 : Value) : Below b w0 ((((w.setCell ⟨a, 0, none⟩ v0).setCell ⟨a, 1, none⟩ v1).setCell ⟨a, 2, none⟩ v2).setCell ⟨a, 3, none⟩ v3) :=
  (((h.setCell ha _).setCell ha _).setCell ha _).setCell ha _
end
set_option maxHeartbeats 1600000 in
set_option maxRecDepth 100000 in
theorem kimberliteref07_made.calls (k : Nat) : ∀ (a0 : Int) (a1 : Int) (a2 : Int) (a3 : Bool) (A4 : Option Addr) (c4 : Nat) (l4 : List Int) (r1 : Int) (r2 : Int) (r3 : Int) (r4 : Bool) (w : World) (hr4 : Kd.C (Kd.int .u64) w A4 l4.length l4) (hc4 : l4.length ≤ c4) (h : kimberliteref07_made.f k a0 a1 a2 a3 l4 = some (r1, r2, r3, r4)),
    Calls Try.prog 69 #[.int .i64 a0, .int .i64 a1, .int .u64 a2, .bool a3, .slice A4 l4.length c4] w fun e w' => e = .returned (.agg #[.int .u64 r1, .int .u64 r2, .int .i64 r3, .bool r4]) ∧ Below w.heap.size w w' := by
  induction k with
  | zero => intro a0 a1 a2 a3 A4 c4 l4 r1 r2 r3 r4 w hr4 hc4 h; simp [kimberliteref07_made.f] at h
  | succ k ih =>
    intro a0 a1 a2 a3 A4 c4 l4 r1 r2 r3 r4 w hr4 hc4 h
    have HR := mhid hr4
    have HC := mhid hc4
    clear hr4 hc4
    have hu100 := Try.underlying100
    simp only [kimberliteref07_made.f] at h
    by_cases c1 : a0 = a1
    · rw [if_pos c1] at h
      subst c1
      have hmm : (a0 == a0) = true := beq_self_eq_true a0
      cases a3 with
      | true =>
        rw [if_pos rfl] at h
        have H := mhid h
        clear h
        go_enter Try.func69, Try.ntmps69
        go_wp2_with (fail)
        simp only [Option.some.injEq, Prod.mk.injEq] at H
        obtain ⟨rfl, rfl, rfl, rfl⟩ := H.out
        refine bodyPost_ret (results_cell_row rfl _ _ w.heap.size 100 #[.int .u64 a2, .int .u64 a2, .int .i64 0, .bool false] (0, 0) _ rfl (blk_alloc (blk_new _ _) _) Try.underlying100 rfl (by kernel_rfl)) rfl ?_
        exact ⟨rfl, below_alloc (below_alloc (Below.refl _ _) _) _⟩
      | false =>
        rw [if_neg (by decide)] at h
        obtain ⟨⟨t1, t2, t3, t4, t5⟩, hn, h⟩ := Option.bind_eq_some_iff.mp h
        simp only [Option.some.injEq, Prod.mk.injEq] at h
        obtain ⟨rfl, rfl, rfl, rfl⟩ := h
        have HN := mhid hn
        clear hn
        go_enter Try.func69, Try.ntmps69
        go_wp2_with (fail)
        have HB0 := mhid (below_alloc (below_alloc (Below.refl w.heap.size w) (.cells #[.int .u64 0, .int .u64 0, .int .i64 0, .bool false] 100)) (.cells #[.int .u64 a2, .int .u64 a2, .int .i64 0, .bool false] 100))
        have h10 := mhid (show T100 ((w.alloc (.cells #[.int .u64 0, .int .u64 0, .int .i64 0, .bool false] 100)).alloc (.cells #[.int .u64 a2, .int .u64 a2, .int .i64 0, .bool false] 100)) w.heap.size 0 0 0 false from blk_alloc (blk_new _ _) _)
        have h11 := mhid (show T100 ((w.alloc (.cells #[.int .u64 0, .int .u64 0, .int .i64 0, .bool false] 100)).alloc (.cells #[.int .u64 a2, .int .u64 a2, .int .i64 0, .bool false] 100)) (w.heap.size + 1) a2 a2 0 false from by
          have := blk_new (w.alloc (.cells #[.int .u64 0, .int .u64 0, .int .i64 0, .bool false] 100)) (.cells #[.int .u64 a2, .int .u64 a2, .int .i64 0, .bool false] 100)
          simpa [T100] using this)
        have hz := mhid (show w.heap.size ≤ ((w.alloc (.cells #[.int .u64 0, .int .u64 0, .int .i64 0, .bool false] 100)).alloc (.cells #[.int .u64 a2, .int .u64 a2, .int .i64 0, .bool false] 100)).heap.size from HB0.out.size)
        have hCw := mhid (Kd.C_below HR.out HB0.out)
        generalize (w.alloc (.cells #[.int .u64 0, .int .u64 0, .int .i64 0, .bool false] 100)).alloc (.cells #[.int .u64 a2, .int .u64 a2, .int .i64 0, .bool false] 100) = w1 at *
        refine (kimberliteref07_Two_next.calls a2 a2 0 false A4 c4 l4 t1 t2 t3 t4 t5 w1 hCw.out HC.out HN.out).mono ?_
        rintro e w2 ⟨rfl, hb2⟩
        have HB2 := mhid (below_then HB0.out hz.out hb2)
        have H10 := mhid (h10.out.next hb2)
        have H11 := mhid (h11.out.next hb2)
        obtain ⟨f0, f1, f2, f3⟩ := H11.out.fr
        obtain ⟨p0, p1, p2, p3⟩ := H11.out.cells
        clear hb2 HB0 h10 h11 hz hCw HN
        generalize hg : w.heap.size = g at *
        have hlt := H11.out.lt
        go_upto_region 6 with (fail)
        have hge : g ≤ g + 1 := by omega
        have hne : g ≠ g + 1 := by omega
        have HB3 := mhid (below_step' (below4 HB2.out hge (.int .u64 t2) (.int .u64 t3) (.int .i64 t4) (.bool t5)) (by have := (H11.out.put t2 t3 t4 t5).lt; omega) (.cells #[.int .u64 t2, .int .u64 t3, .int .i64 t4, .bool t5] 100))
        have h10 := mhid (H10.out.far4 hne (.int .u64 t2) (.int .u64 t3) (.int .i64 t4) (.bool t5) |>.next (below_alloc (Below.refl _ _) (.cells #[.int .u64 t2, .int .u64 t3, .int .i64 t4, .bool t5] 100)))
        have h11 := mhid ((H11.out.put t2 t3 t4 t5).next (below_alloc (Below.refl _ _) (.cells #[.int .u64 t2, .int .u64 t3, .int .i64 t4, .bool t5] 100)))
        clear p0 p1 p2 p3 f0 f1 f2 f3 hlt HB2 H10 H11
        generalize World.alloc _ _ = w3 at *
        obtain ⟨f0, f1, f2, f3⟩ := h11.out.fr
        obtain ⟨p0, p1, p2, p3⟩ := h11.out.cells
        go_upto_region 8 with (fail)
        have HB4 := mhid ((HB3.out.setCell (p := ⟨g + 1, 0, none⟩) hge (.int .u64 t1)).setCell (p := ⟨g + 1, 1, none⟩) hge (.int .u64 t1))
        have h10' := mhid ((h10.out.far hne 0 (.int .u64 t1)).far hne 1 (.int .u64 t1))
        have h11' := mhid ((h11.out.put0 t1).put1 t1)
        clear p0 p1 p2 p3 f0 f1 f2 f3 HB3 h10 h11
        generalize (w3.setCell ⟨g + 1, 0, none⟩ (.int .u64 t1)).setCell ⟨g + 1, 1, none⟩ (.int .u64 t1) = w4 at *
        obtain ⟨f0, f1, f2, f3⟩ := h10'.out.fr
        obtain ⟨q0, q1, q2, q3⟩ := h10'.out.cells
        obtain ⟨p0, p1, p2, p3⟩ := h11'.out.cells
        go_wp2_with (fail)
        refine bodyPost_ret (results_cell_row rfl _ _ g 100 #[.int .u64 t1, .int .u64 t1, .int .i64 t4, .bool t5] (0, 0) _ rfl (h10'.out.put t1 t1 t4 t5) Try.underlying100 rfl (by kernel_rfl)) rfl ?_
        exact ⟨rfl, by rw [hg]; exact below4 HB4.out (Nat.le_refl _) _ _ _ _⟩
    · rw [if_neg c1] at h
      have hmn : (a0 == a1) = false := beq_eq_false_iff_ne.mpr c1
      obtain ⟨q, hq, h⟩ := Option.bind_eq_some_iff.mp h
      have HQ := mhid hq
      have hW0 := mhid (show T100 ((w.alloc (.cells #[.int .u64 0, .int .u64 0, .int .i64 0, .bool false] 100)).alloc (.cells #[.int .u64 a2, .int .u64 a2, .int .i64 0, .bool false] 100)) w.heap.size 0 0 0 false from blk_alloc (blk_new _ _) _)
      have hW1 := mhid (show T100 ((w.alloc (.cells #[.int .u64 0, .int .u64 0, .int .i64 0, .bool false] 100)).alloc (.cells #[.int .u64 a2, .int .u64 a2, .int .i64 0, .bool false] 100)) (w.heap.size + 1) a2 a2 0 false from by
          have := blk_new (w.alloc (.cells #[.int .u64 0, .int .u64 0, .int .i64 0, .bool false] 100)) (.cells #[.int .u64 a2, .int .u64 a2, .int .i64 0, .bool false] 100)
          simpa [T100] using this)
      have HB0 := mhid (below_alloc (below_alloc (Below.refl w.heap.size w) (.cells #[.int .u64 0, .int .u64 0, .int .i64 0, .bool false] 100)) (.cells #[.int .u64 a2, .int .u64 a2, .int .i64 0, .bool false] 100))
      have hCw := mhid (Kd.C_below HR.out HB0.out)
      clear hq c1
      by_cases c2 : a0 ≤ q
      · rw [if_pos c2] at h
        have hc2 : decide (a0 ≤ q) = true := decide_eq_true c2
        obtain ⟨⟨s1, s2, s3, s4⟩, h1, h⟩ := Option.bind_eq_some_iff.mp h
        obtain ⟨⟨t1, t2, t3, t4, t5⟩, h2, h⟩ := Option.bind_eq_some_iff.mp h
        obtain ⟨x, h3, h⟩ := Option.bind_eq_some_iff.mp h
        simp only [Option.some.injEq, Prod.mk.injEq] at h
        obtain ⟨rfl, rfl, rfl, rfl⟩ := h
        have H1 := mhid h1
        have H2 := mhid h2
        have H3 := mhid h3
        clear h1 h2 h3
        go_enter Try.func69, Try.ntmps69
        go_wp2_with (fail)
        refine (kimberliteref07_half.calls k a1 q _ HQ.out).mono ?_
        rintro e w' ⟨rfl, nd, rfl⟩
        have HB1 := mhid (pw_below_drewN HB0.out nd)
        have R1 := mhid (hW0.out.next (pw_below_drewN (Below.refl _ _) nd))
        have U1 := mhid (hW1.out.next (pw_below_drewN (Below.refl _ _) nd))
        clear HB0 hW0 hW1 hCw HQ
        generalize World.drewN _ nd = w1 at *
        go_wp2_with (fail)
        refine (ih a0 q a2 a3 A4 c4 l4 s1 s2 s3 s4 w1 (Kd.C_below HR.out HB1.out) HC.out H1.out).mono ?_
        rintro e w2 ⟨rfl, hb2⟩
        have HB2 := mhid (below_then HB1.out HB1.out.size hb2)
        have R2 := mhid (R1.out.next hb2)
        have U2 := mhid (U1.out.next hb2)
        clear hb2 HB1 R1 U1 H1
        obtain ⟨f0, f1, f2, f3⟩ := U2.out.fr
        obtain ⟨p0, p1, p2, p3⟩ := U2.out.cells
        have hge : w.heap.size ≤ w.heap.size + 1 := by omega
        have hne : w.heap.size ≠ w.heap.size + 1 := by omega
        go_wp2_with (fail)
        have HB3 := mhid (below4 HB2.out hge (.int .u64 s1) (.int .u64 s2) (.int .i64 s3) (.bool s4))
        have R3 := mhid (R2.out.far4 hne (.int .u64 s1) (.int .u64 s2) (.int .i64 s3) (.bool s4))
        have U3 := mhid (U2.out.put s1 s2 s3 s4)
        clear f0 f1 f2 f3 p0 p1 p2 p3 HB2 R2 U2
        generalize (((w2.setCell ⟨w.heap.size + 1, 0, none⟩ (.int .u64 s1)).setCell ⟨w.heap.size + 1, 1, none⟩ (.int .u64 s2)).setCell ⟨w.heap.size + 1, 2, none⟩ (.int .i64 s3)).setCell ⟨w.heap.size + 1, 3, none⟩ (.bool s4) = w3 at *
        refine (kimberliteref07_Two_next.calls s1 s2 s3 s4 A4 c4 l4 t1 t2 t3 t4 t5 w3 (Kd.C_below HR.out HB3.out) HC.out H2.out).mono ?_
        rintro e w4 ⟨rfl, hb4⟩
        have HB4 := mhid (below_then HB3.out HB3.out.size hb4)
        have R4 := mhid (R3.out.next hb4)
        have U4 := mhid (U3.out.next hb4)
        clear hb4 HB3 R3 U3 H2
        obtain ⟨f0, f1, f2, f3⟩ := U4.out.fr
        obtain ⟨p0, p1, p2, p3⟩ := U4.out.cells
        have hlt := U4.out.lt
        go_upto_region 14 with (fail)
        have HB5 := mhid (below_step' (below4 HB4.out hge (.int .u64 t2) (.int .u64 t3) (.int .i64 t4) (.bool t5)) (by have := (U4.out.put t2 t3 t4 t5).lt; omega) (.cells #[.int .u64 t2, .int .u64 t3, .int .i64 t4, .bool t5] 100))
        have R5 := mhid ((R4.out.far4 hne (.int .u64 t2) (.int .u64 t3) (.int .i64 t4) (.bool t5)).next (below_alloc (Below.refl _ _) (.cells #[.int .u64 t2, .int .u64 t3, .int .i64 t4, .bool t5] 100)))
        have U5 := mhid ((U4.out.put t2 t3 t4 t5).next (below_alloc (Below.refl _ _) (.cells #[.int .u64 t2, .int .u64 t3, .int .i64 t4, .bool t5] 100)))
        clear f0 f1 f2 f3 p0 p1 p2 p3 hlt HB4 R4 U4
        generalize World.alloc _ _ = w5 at *
        obtain ⟨f0, f1, f2, f3⟩ := U5.out.fr
        obtain ⟨p0, p1, p2, p3⟩ := U5.out.cells
        go_wp2_with (fail)
        refine (kimberliteref07_Node.calls k t3 t1 x w5 H3.out).mono ?_
        rintro e w6 ⟨rfl, hb6⟩
        have HB6 := mhid (below_then HB5.out HB5.out.size hb6)
        have R6 := mhid (R5.out.next hb6)
        have U6 := mhid (U5.out.next hb6)
        clear f0 f1 f2 f3 p0 p1 p2 p3 hb6 HB5 R5 U5 H3
        obtain ⟨f0, f1, f2, f3⟩ := U6.out.fr
        obtain ⟨p0, p1, p2, p3⟩ := U6.out.cells
        go_upto_region 15 with (fail)
        have HB7 := mhid (HB6.out.setCell (p := ⟨w.heap.size + 1, 1, none⟩) hge (.int .u64 x))
        have R7 := mhid (R6.out.far hne 1 (.int .u64 x))
        have U7 := mhid (U6.out.put1 x)
        clear f0 f1 f2 f3 p0 p1 p2 p3 HB6 R6 U6
        generalize w6.setCell ⟨w.heap.size + 1, 1, none⟩ (.int .u64 x) = w7 at *
        obtain ⟨f0, f1, f2, f3⟩ := R7.out.fr
        obtain ⟨q0, q1, q2, q3⟩ := R7.out.cells
        obtain ⟨p0, p1, p2, p3⟩ := U7.out.cells
        go_wp2_with (fail)
        refine bodyPost_ret (results_cell_row rfl _ _ w.heap.size 100 #[.int .u64 t2, .int .u64 x, .int .i64 t4, .bool t5] (0, 0) _ rfl (R7.out.put t2 x t4 t5) Try.underlying100 rfl (by kernel_rfl)) rfl ?_
        exact ⟨rfl, below4 HB7.out (Nat.le_refl _) _ _ _ _⟩
      · rw [if_neg c2] at h
        have hc2 : decide (a0 ≤ q) = false := decide_eq_false c2
        obtain ⟨⟨s1, s2, s3, s4⟩, h1, h⟩ := Option.bind_eq_some_iff.mp h
        obtain ⟨⟨t1, t2, t3, t4, t5⟩, h2, h⟩ := Option.bind_eq_some_iff.mp h
        obtain ⟨x, h3, h⟩ := Option.bind_eq_some_iff.mp h
        obtain ⟨y, h4, h⟩ := Option.bind_eq_some_iff.mp h
        simp only [Option.some.injEq, Prod.mk.injEq] at h
        obtain ⟨rfl, rfl, rfl, rfl⟩ := h
        have H1 := mhid h1
        have H2 := mhid h2
        have H3 := mhid h3
        have H4 := mhid h4
        clear h1 h2 h3 h4 c2
        go_enter Try.func69, Try.ntmps69
        go_wp2_with (fail)
        refine (kimberliteref07_half.calls k a1 q _ HQ.out).mono ?_
        rintro e w' ⟨rfl, nd, rfl⟩
        have HB1 := mhid (pw_below_drewN HB0.out nd)
        have R1 := mhid (hW0.out.next (pw_below_drewN (Below.refl _ _) nd))
        have U1 := mhid (hW1.out.next (pw_below_drewN (Below.refl _ _) nd))
        clear HB0 hW0 hW1 hCw HQ
        generalize World.drewN _ nd = w1 at *
        go_wp2_with (fail)
        refine (ih (wrap64 (a0 - q)) (wrap64 (a1 - q)) a2 false A4 c4 l4 s1 s2 s3 s4 w1 (Kd.C_below HR.out HB1.out) HC.out H1.out).mono ?_
        rintro e w2 ⟨rfl, hb2⟩
        have HB2 := mhid (below_then HB1.out HB1.out.size hb2)
        have R2 := mhid (R1.out.next hb2)
        have U2 := mhid (U1.out.next hb2)
        clear hb2 HB1 R1 U1 H1
        obtain ⟨f0, f1, f2, f3⟩ := U2.out.fr
        obtain ⟨p0, p1, p2, p3⟩ := U2.out.cells
        have hge : w.heap.size ≤ w.heap.size + 1 := by omega
        have hne : w.heap.size ≠ w.heap.size + 1 := by omega
        go_wp2_with (fail)
        have HB3 := mhid (below4 HB2.out hge (.int .u64 s1) (.int .u64 s2) (.int .i64 s3) (.bool s4))
        have R3 := mhid (R2.out.far4 hne (.int .u64 s1) (.int .u64 s2) (.int .i64 s3) (.bool s4))
        have U3 := mhid (U2.out.put s1 s2 s3 s4)
        clear f0 f1 f2 f3 p0 p1 p2 p3 HB2 R2 U2
        generalize (((w2.setCell ⟨w.heap.size + 1, 0, none⟩ (.int .u64 s1)).setCell ⟨w.heap.size + 1, 1, none⟩ (.int .u64 s2)).setCell ⟨w.heap.size + 1, 2, none⟩ (.int .i64 s3)).setCell ⟨w.heap.size + 1, 3, none⟩ (.bool s4) = w3 at *
        refine (kimberliteref07_Two_next.calls s1 s2 s3 s4 A4 c4 l4 t1 t2 t3 t4 t5 w3 (Kd.C_below HR.out HB3.out) HC.out H2.out).mono ?_
        rintro e w4 ⟨rfl, hb4⟩
        have HB4 := mhid (below_then HB3.out HB3.out.size hb4)
        have R4 := mhid (R3.out.next hb4)
        have U4 := mhid (U3.out.next hb4)
        clear hb4 HB3 R3 U3 H2
        obtain ⟨f0, f1, f2, f3⟩ := U4.out.fr
        obtain ⟨p0, p1, p2, p3⟩ := U4.out.cells
        have hlt := U4.out.lt
        go_upto_region 19 with (fail)
        have HB5 := mhid (below_step' (below4 HB4.out hge (.int .u64 t2) (.int .u64 t3) (.int .i64 t4) (.bool t5)) (by have := (U4.out.put t2 t3 t4 t5).lt; omega) (.cells #[.int .u64 t2, .int .u64 t3, .int .i64 t4, .bool t5] 100))
        have R5 := mhid ((R4.out.far4 hne (.int .u64 t2) (.int .u64 t3) (.int .i64 t4) (.bool t5)).next (below_alloc (Below.refl _ _) (.cells #[.int .u64 t2, .int .u64 t3, .int .i64 t4, .bool t5] 100)))
        have U5 := mhid ((U4.out.put t2 t3 t4 t5).next (below_alloc (Below.refl _ _) (.cells #[.int .u64 t2, .int .u64 t3, .int .i64 t4, .bool t5] 100)))
        clear f0 f1 f2 f3 p0 p1 p2 p3 hlt HB4 R4 U4
        generalize World.alloc _ _ = w5 at *
        obtain ⟨f0, f1, f2, f3⟩ := U5.out.fr
        obtain ⟨p0, p1, p2, p3⟩ := U5.out.cells
        go_wp2_with (fail)
        refine (kimberliteref07_Node.calls k t1 t2 x w5 H3.out).mono ?_
        rintro e w6 ⟨rfl, hb6⟩
        have HB6 := mhid (below_then HB5.out HB5.out.size hb6)
        have R6 := mhid (R5.out.next hb6)
        have U6 := mhid (U5.out.next hb6)
        clear f0 f1 f2 f3 p0 p1 p2 p3 hb6 HB5 R5 U5 H3
        obtain ⟨f0, f1, f2, f3⟩ := U6.out.fr
        obtain ⟨p0, p1, p2, p3⟩ := U6.out.cells
        go_upto_region 20 with (fail)
        have HB7 := mhid (HB6.out.setCell (p := ⟨w.heap.size + 1, 0, none⟩) hge (.int .u64 x))
        have R7 := mhid (R6.out.far hne 0 (.int .u64 x))
        have U7 := mhid (U6.out.put0 x)
        clear f0 f1 f2 f3 p0 p1 p2 p3 HB6 R6 U6
        generalize w6.setCell ⟨w.heap.size + 1, 0, none⟩ (.int .u64 x) = w7 at *
        obtain ⟨p0, p1, p2, p3⟩ := U7.out.cells
        go_wp2_with (fail)
        refine (kimberliteref07_Node.calls k t1 t3 y w7 H4.out).mono ?_
        rintro e w8 ⟨rfl, hb8⟩
        have HB8 := mhid (below_then HB7.out HB7.out.size hb8)
        have R8 := mhid (R7.out.next hb8)
        have U8 := mhid (U7.out.next hb8)
        clear p0 p1 p2 p3 hb8 HB7 R7 U7 H4
        obtain ⟨f0, f1, f2, f3⟩ := U8.out.fr
        obtain ⟨p0, p1, p2, p3⟩ := U8.out.cells
        go_upto_region 21 with (fail)
        have HB9 := mhid (HB8.out.setCell (p := ⟨w.heap.size + 1, 1, none⟩) hge (.int .u64 y))
        have R9 := mhid (R8.out.far hne 1 (.int .u64 y))
        have U9 := mhid (U8.out.put1 y)
        clear f0 f1 f2 f3 p0 p1 p2 p3 HB8 R8 U8
        generalize w8.setCell ⟨w.heap.size + 1, 1, none⟩ (.int .u64 y) = w9 at *
        obtain ⟨f0, f1, f2, f3⟩ := R9.out.fr
        obtain ⟨q0, q1, q2, q3⟩ := R9.out.cells
        obtain ⟨p0, p1, p2, p3⟩ := U9.out.cells
        go_wp2_with (fail)
        refine bodyPost_ret (results_cell_row rfl _ _ w.heap.size 100 #[.int .u64 x, .int .u64 y, .int .i64 t4, .bool t5] (0, 0) _ rfl (R9.out.put x y t4 t5) Try.underlying100 rfl (by kernel_rfl)) rfl ?_
        exact ⟨rfl, below4 HB9.out (Nat.le_refl _) _ _ _ _⟩

end Go.Proofs.Ytacjdoekgmmfoaa.PL
