-- printed by wip/gprint.py of this repo out of the translation and the texts under wip/
import Derived.Test.YtacjdoekgmmfoaaPLx0
import Derived.Test.YtacjdoekgmmfoaaPLx4
import Derived.Test.YtacjdoekgmmfoaaPLx5
namespace Go.Proofs.Ytacjdoekgmmfoaa.PL
open Go.RowKit Go.Proofs.YtacjdoekgmmfoaaW.PrintWords Go.Proofs.YtacjdoekgmmfoaaW.PrintLast Go.Proofs.YtacjdoekgmmfoaaW.PrintMore
attribute [local go_sem] max2_int min2_int max_two min_two max_three min_three max_four min_four   -- for this text's walks alone
set_option linter.unusedVariables false
set_option linter.unusedSimpArgs false

-- GIVEN 34 rounds=1 making=1 info=
theorem xhid {p : Prop} (h : p) : Hid p := h
/-- The hashes that are left, in memory. -/
structure TK (w0 w : World) (g : Nat) (hs : List Int) (sh : Bool) : Prop where
  below : Below w0.heap.size w0 w
  lo : w0.heap.size ≤ g
  lt : g < w.heap.size
  row : ∃ A c, w.heap[g]? = some (.cells #[.slice A hs.length c, .bool sh] 96 (0, 0)) ∧ Kd.C (Kd.int .u64) w0 A hs.length hs ∧ hs.length ≤ c
theorem TK.next {w0 w w' : World} {g : Nat} {hs : List Int} {sh : Bool} (h : TK w0 w g hs sh) (hb : Below w.heap.size w w') : TK w0 w' g hs sh := by
  obtain ⟨A, c, h1, h2, h3⟩ := h.row
  refine ⟨below_step h.below hb, h.lo, Nat.lt_of_lt_of_le h.lt hb.size, A, c, ?_, h2, h3⟩
  rw [hb.block g h.lt]; exact h1
theorem TK.drewN {w0 w : World} {g : Nat} {hs : List Int} {sh : Bool} (h : TK w0 w g hs sh) (n : Nat) : TK w0 (w.drewN n) g hs sh := ⟨pw_below_drewN h.below n, h.lo, h.lt, h.row⟩
def nxt (hs : List Int) : Int := hs.headD 0
set_option maxHeartbeats 1600000 in
set_option maxRecDepth 100000 in
theorem next_calls (w0 w : World) (g : Nat) (hs : List Int) (sh : Bool) (h : TK w0 w g hs sh) :
    Calls Try.prog 88 #[.pointer (some ⟨g, 0, none⟩)] w fun e w' => e = .returned (.int .u64 (nxt hs)) ∧ TK w0 w' g hs.tail (sh || hs.isEmpty) := by
  obtain ⟨A, c, hb, hC, hc⟩ := h.row
  have HT := xhid h
  have HK := xhid hb
  have HC := xhid hC
  have hc0 := blk_cell hb 0
  have hc1 := blk_cell hb 1
  simp only [List.getElem?_toArray, List.getElem?_cons_zero, List.getElem?_cons_succ] at hc0 hc1
  have hf1 := blk_frozen hb 1
  have hf0 := blk_frozen hb 0
  have hu96 := Try.underlying96
  clear h hb hC
  by_cases he : hs = []
  · subst he
    go_enter Try.func88, Try.ntmps88
    go_wp2
    go_ret
    refine ⟨rfl, ?_⟩
    exact ⟨HT.out.below.setCell HT.out.lo _, HT.out.lo, by have := HT.out.lt; simpa [World.setCell] using this, A, c, by have := blk_put HK.out 1 (.bool true) rfl; simpa using this, HC.out, hc⟩
  · have hlen : 0 < hs.length := List.length_pos_iff.2 he
    have hlb : ((hs.length : Int) == 0) = false := beq_eq_false_iff_ne.mpr (by omega)
    have hl0 : (0 : Int) < (hs.length : Int) := by omega
    obtain ⟨ad, rfl, hx⟩ := Kd.at_int (Kd.C_below HC.out HT.out.below) 0 (by omega) (by omega)
    rw [show ((0 : Int)).toNat = 0 from rfl, Addr.add_zero'] at hx
    obtain ⟨i0, hi0, _, hsz, _⟩ := info_parts info33
    obtain ⟨A1, hcut, hA1, hC1⟩ := print_drop_of (P := Try.prog) (Value.int .u64) 0 46 33 .i64 Try.underlying46 hi0 hsz (some ad) c hs 1 (by omega) (by omega) hc
    have HC1 := xhid (show Kd.C (Kd.int .u64) w0 A1 hs.tail.length hs.tail from by
      have := Kd.C_of_reads (h1 := fun _ => rfl) (hA1 _ (Kd.reads_of_C HC.out))
      rw [show ((1 : Int)).toNat = 1 from rfl, List.drop_one] at this
      exact this)
    have hlc : hs.tail.length ≤ c - 1 := by rw [show ((1 : Int)).toNat = 1 from rfl, List.drop_one] at hC1; exact hC1
    rw [show ((1 : Int)).toNat = 1 from rfl, List.drop_one] at hcut
    have HE := xhid he
    clear hA1 hC1 hi0 hsz he
    go_enter Try.func88, Try.ntmps88
    go_wp2
    go_ret
    refine ⟨?_, ?_⟩
    · have : rd hs 0 = nxt hs := by cases hs with
        | nil => rfl
        | cons x hs => rfl
      rw [← this]; rfl
    · refine ⟨HT.out.below.setCell HT.out.lo _, HT.out.lo, by have := HT.out.lt; simpa [World.setCell] using this, A1, c - 1, ?_, HC1.out, hlc⟩
      have := blk_put HK.out 0 (.slice A1 hs.tail.length (c - 1)) rfl
      have e : hs.isEmpty = false := by have := HE.out; simpa using this
      rw [e, Bool.or_false]
      simpa using this
/-- The two roots that the hashes make, what is left of them, and whether there were too few. -/
def rts : Nat → Int → Int → Bool → Int → List Int → Bool → Option (Int × Int × List Int × Bool)
  | 0, _, _, _, _, _, _ => none
  | k + 1, m, n, wh, old, hs, sh => if m = n then (if wh = true then some (old, old, hs, sh) else some (nxt hs, nxt hs, hs.tail, sh || hs.isEmpty)) else
    (proof_part.f k n).bind fun q => if m ≤ q then
      (rts k m q wh old hs sh).bind fun r => (proof_Node.f k r.2.1 (nxt r.2.2.1)).bind fun x => some (r.1, x, r.2.2.1.tail, r.2.2.2 || r.2.2.1.isEmpty)
    else (rts k (wrap64 (m - q)) (wrap64 (n - q)) false old hs sh).bind fun r => (proof_Node.f k (nxt r.2.2.1) r.1).bind fun x => (proof_Node.f k (nxt r.2.2.1) r.2.1).bind fun y => some (x, y, r.2.2.1.tail, r.2.2.2 || r.2.2.1.isEmpty)
theorem rts_mono : ∀ k m n wh old hs sh, LeO (rts k m n wh old hs sh) (rts (k + 1) m n wh old hs sh)
  | 0, _, _, _, _, _, _ => fun r h => by simp [rts] at h
  | k + 1, m, n, wh, old, hs, sh => by
    have ih := rts_mono k
    unfold rts
    repeat' first
      | exact ih _ _ _ _ _ _
      | exact proof_part.mono _ _
      | exact proof_Node.mono _ _ _
      | exact LeO.refl _
      | refine LeO.ite ?_ ?_
      | refine LeO.bind ?_ (fun _ => ?_)
set_option maxHeartbeats 3200000 in
set_option maxRecDepth 100000 in
theorem roots_calls (w0 : World) (g : Nat) : ∀ (k : Nat) (m n : Int) (wh : Bool) (old : Int) (hs : List Int) (sh : Bool) (w : World) (r : Int × Int × List Int × Bool), TK w0 w g hs sh → rts k m n wh old hs sh = some r →
    Calls Try.prog 68 #[.pointer (some ⟨g, 0, none⟩), .int .i64 m, .int .i64 n, .bool wh, .int .u64 old] w fun e w' => e = .returned (.tuple #[.int .u64 r.1, .int .u64 r.2.1]) ∧ TK w0 w' g r.2.2.1 r.2.2.2 := by
  intro k
  induction k with
  | zero => intro m n wh old hs sh w r _ h; simp [rts] at h
  | succ k ih =>
    intro m n wh old hs sh w r ht h
    have HT := xhid ht
    clear ht
    simp only [rts] at h
    by_cases c1 : m = n
    · subst c1
      rw [if_pos rfl] at h
      have hmm : (m == m) = true := beq_self_eq_true m
      cases wh with
      | true =>
        rw [if_pos rfl] at h
        injection h with h
        subst h
        go_enter Try.func68, Try.ntmps68
        go_wp2
        go_ret2
        exact ⟨rfl, HT.out⟩
      | false =>
        rw [if_neg (by decide)] at h
        injection h with h
        subst h
        go_enter Try.func68, Try.ntmps68
        go_wp2_with (fail)
        refine (next_calls w0 _ g hs sh HT.out).mono ?_
        rintro e w1 ⟨rfl, hT1⟩
        have HT1 := xhid hT1
        clear hT1
        go_wp2_with (fail)
        go_ret2
        exact ⟨rfl, HT1.out⟩
    · rw [if_neg c1] at h
      have hmn : (m == n) = false := beq_eq_false_iff_ne.mpr c1
      obtain ⟨q, hq, h⟩ := Option.bind_eq_some_iff.mp h
      have HQ := xhid hq
      clear hq c1
      by_cases c2 : m ≤ q
      · rw [if_pos c2] at h
        obtain ⟨r1, h1, h⟩ := Option.bind_eq_some_iff.mp h
        obtain ⟨x, h2, h⟩ := Option.bind_eq_some_iff.mp h
        injection h with h
        subst h
        have H1 := xhid h1
        have H2 := xhid h2
        have hc2 : decide (m ≤ q) = true := decide_eq_true c2
        clear h1 h2
        go_enter Try.func68, Try.ntmps68
        go_wp2_with (fail)
        refine (proof_part.calls k n q _ HQ.out).mono ?_
        rintro e w1 ⟨rfl, nd, rfl⟩
        have HT1 := xhid (HT.out.drewN nd)
        generalize w.drewN nd = w1 at *
        go_wp2_with (fail)
        refine (ih m q wh old hs sh _ r1 HT1.out H1.out).mono ?_
        rintro e w2 ⟨rfl, hT2⟩
        have HT2 := xhid hT2
        clear hT2
        go_wp2_with (fail)
        refine (next_calls w0 _ g _ _ HT2.out).mono ?_
        rintro e w3 ⟨rfl, hT3⟩
        have HT3 := xhid hT3
        clear hT3
        go_wp2_with (fail)
        refine (proof_Node.calls k _ _ x _ H2.out).mono ?_
        rintro e w4 ⟨rfl, hb4⟩
        have HT4 := xhid (HT3.out.next hb4)
        clear hb4
        go_wp2_with (fail)
        go_ret2
        exact ⟨rfl, HT4.out⟩
      · rw [if_neg c2] at h
        obtain ⟨r1, h1, h⟩ := Option.bind_eq_some_iff.mp h
        obtain ⟨x, h2, h⟩ := Option.bind_eq_some_iff.mp h
        obtain ⟨y, h3, h⟩ := Option.bind_eq_some_iff.mp h
        injection h with h
        subst h
        have H1 := xhid h1
        have H2 := xhid h2
        have H3 := xhid h3
        have hc2 : decide (m ≤ q) = false := decide_eq_false c2
        clear h1 h2 h3 c2
        go_enter Try.func68, Try.ntmps68
        go_wp2_with (fail)
        refine (proof_part.calls k n q _ HQ.out).mono ?_
        rintro e w1 ⟨rfl, nd, rfl⟩
        have HT1 := xhid (HT.out.drewN nd)
        generalize w.drewN nd = w1 at *
        go_wp2_with (fail)
        refine (ih (wrap64 (m - q)) (wrap64 (n - q)) false old hs sh _ r1 HT1.out H1.out).mono ?_
        rintro e w2 ⟨rfl, hT2⟩
        have HT2 := xhid hT2
        clear hT2
        go_wp2_with (fail)
        refine (next_calls w0 _ g _ _ HT2.out).mono ?_
        rintro e w3 ⟨rfl, hT3⟩
        have HT3 := xhid hT3
        clear hT3
        go_wp2_with (fail)
        refine (proof_Node.calls k _ _ x _ H2.out).mono ?_
        rintro e w4 ⟨rfl, hb4⟩
        have HT4 := xhid (HT3.out.next hb4)
        clear hb4
        go_wp2_with (fail)
        refine (proof_Node.calls k _ _ y _ H3.out).mono ?_
        rintro e w5 ⟨rfl, hb5⟩
        have HT5 := xhid (HT4.out.next hb5)
        clear hb5
        go_wp2_with (fail)
        go_ret2
        exact ⟨rfl, HT5.out⟩
def proof_Extended.f (k : Nat) (a0 : Int) (a1 : Int) (a2 : Int) (a3 : Int) (l4 : List Int) : Option (Bool × Int) :=
  if a1 < 1 ∨ a1 > 4096 ∨ a0 < 1 ∨ a0 > a1 then some (false, 2) else (rts k a0 a1 true a2 l4 false).bind fun r => some (!r.2.2.2 && (r.2.2.1.isEmpty && (r.1 == a2 && r.2.1 == a3)), 0)
theorem proof_Extended.mono : ∀ a0 a1 a2 a3 l4 k, LeO (proof_Extended.f k a0 a1 a2 a3 l4) (proof_Extended.f (k + 1) a0 a1 a2 a3 l4) := by
  intro a0 a1 a2 a3 l4 k
  unfold proof_Extended.f
  repeat' first
    | exact rts_mono _ _ _ _ _ _ _
    | exact LeO.refl _
    | refine LeO.ite ?_ ?_
    | refine LeO.bind ?_ (fun _ => ?_)
set_option maxHeartbeats 3200000 in
set_option maxRecDepth 100000 in
theorem proof_Extended.calls (k : Nat) (a0 : Int) (a1 : Int) (a2 : Int) (a3 : Int) (A4 : Option Addr) (c4 : Nat) (l4 : List Int) (r1 : Bool) (r2 : Int) (w : World) (hr4 : Kd.C (Kd.int .u64) w A4 l4.length l4) (hc4 : l4.length ≤ c4) (h : proof_Extended.f k a0 a1 a2 a3 l4 = some (r1, r2)) :
    Calls Try.prog 34 #[.int .i64 a0, .int .i64 a1, .int .u64 a2, .int .u64 a3, .slice A4 l4.length c4] w fun e w' => e = .returned (.tuple #[.bool r1, .int .i64 r2]) ∧ Below w.heap.size w w' := by
  unfold proof_Extended.f at h
  by_cases c : a1 < 1 ∨ a1 > 4096 ∨ a0 < 1 ∨ a0 > a1
  · rw [if_pos c] at h
    injection h with h
    injection h with h1 h2
    subst h1 h2
    by_cases d1 : a1 < 1
    · have hd1 : decide (a1 < 1) = true := decide_eq_true d1
      go_enter Try.func34, Try.ntmps34
      go_wp2
      go_ret2
      exact ⟨rfl, Below.refl _ _⟩
    have hd1 : decide (a1 < 1) = false := decide_eq_false d1
    by_cases d2 : a1 > 4096
    · have hd2 : decide (a1 > 4096) = true := decide_eq_true d2
      go_enter Try.func34, Try.ntmps34
      go_wp2
      go_ret2
      exact ⟨rfl, Below.refl _ _⟩
    have hd2 : decide (a1 > 4096) = false := decide_eq_false d2
    by_cases d3 : a0 < 1
    · have hd3 : decide (a0 < 1) = true := decide_eq_true d3
      go_enter Try.func34, Try.ntmps34
      go_wp2
      go_ret2
      exact ⟨rfl, Below.refl _ _⟩
    have hd3 : decide (a0 < 1) = false := decide_eq_false d3
    have hd4 : decide (a0 > a1) = true := decide_eq_true (by omega)
    go_enter Try.func34, Try.ntmps34
    go_wp2
    go_ret2
    exact ⟨rfl, Below.refl _ _⟩
  · rw [if_neg c] at h
    obtain ⟨r, hr, h⟩ := Option.bind_eq_some_iff.mp h
    injection h with h
    injection h with h1 h2
    have HE := xhid h1
    subst h2
    have HR := xhid hr
    have HC := xhid hr4
    have HCC := xhid hc4
    have hd1 : decide (a1 < 1) = false := decide_eq_false (by omega)
    have hd2 : decide (a1 > 4096) = false := decide_eq_false (by omega)
    have hd3 : decide (a0 < 1) = false := decide_eq_false (by omega)
    have hd4 : decide (a0 > a1) = false := decide_eq_false (by omega)
    have hu96 := Try.underlying96
    clear h1 hr hr4 hc4
    go_enter Try.func34, Try.ntmps34
    go_wp2_with (fail)
    have HT0 := xhid (show TK w (w.alloc (Obj.cells #[Value.slice A4 l4.length c4, Value.bool false] 96)) w.heap.size l4 false from
      ⟨below_alloc (Below.refl _ _) _, Nat.le_refl _, by simp, A4, c4, blk_new _ _, HC.out, HCC.out⟩)
    generalize w.alloc (Obj.cells #[Value.slice A4 l4.length c4, Value.bool false] 96) = w1 at *
    refine (roots_calls w w.heap.size k a0 a1 true a2 l4 false _ r HT0.out HR.out).mono ?_
    rintro e w2 ⟨rfl, hT2⟩
    clear HT0 HR
    obtain ⟨o, x, hs, sh⟩ := r
    simp only at hT2 HE
    obtain ⟨A, c, hb, _, _⟩ := hT2.row
    have HB := xhid hT2.below
    have hc0 := blk_cell hb 0
    have hc1 := blk_cell hb 1
    simp only [List.getElem?_toArray, List.getElem?_cons_zero, List.getElem?_cons_succ] at hc0 hc1
    generalize hgz : w.heap.size = g at *
    clear hb hT2 w1
    cases sh with
    | true =>
      go_wp2_with (fail)
      go_ret2
      exact ⟨by rw [← HE.out]; rfl, by rw [hgz]; exact HB.out⟩
    | false =>
      by_cases hl : hs = []
      · have hlb : ((hs.length : Int) == 0) = true := by rw [hl]; rfl
        have hle : Hid (hs.isEmpty = true) := xhid (by rw [hl]; rfl)
        clear hl
        by_cases ho : o = a2
        · have hob : (o == a2) = true := beq_iff_eq.mpr ho
          go_wp2_with (fail)
          go_ret2
          exact ⟨by rw [← HE.out, hle.out, hob]; rfl, by rw [hgz]; exact HB.out⟩
        · have hob : (o == a2) = false := beq_eq_false_iff_ne.mpr ho
          go_wp2_with (fail)
          go_ret2
          exact ⟨by rw [← HE.out, hle.out, hob]; rfl, by rw [hgz]; exact HB.out⟩
      · have hlb : ((hs.length : Int) == 0) = false := beq_eq_false_iff_ne.mpr (by intro h; apply hl; exact List.eq_nil_of_length_eq_zero (by omega))
        have hle : Hid (hs.isEmpty = false) := xhid (by simpa using hl)
        clear hl
        go_wp2_with (fail)
        go_ret2
        exact ⟨by rw [← HE.out, hle.out]; rfl, by rw [hgz]; exact HB.out⟩

end Go.Proofs.Ytacjdoekgmmfoaa.PL
