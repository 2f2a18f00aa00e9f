/-
  The texts that the theorem in YtfnlghjkjmppdaaZRowLk rests on, merged (part 3); only what it reaches.
-/
import Derived.Defers
import Derived.Recover
import Derived.WalkSmall
import Derived.Test.YtfnlghjkjmppdaaZLk1
section
namespace Go.Proofs.Ytfnlghjkjmppdaa.PC
open Go.RowKit Go.Proofs.YtfnlghjkjmppdaaW.PrintWords Go.Proofs.YtfnlghjkjmppdaaW.PrintLast Go.Proofs.YtfnlghjkjmppdaaW.PrintMore
set_option linter.unusedVariables false
set_option linter.unusedSimpArgs false
theorem lhid {p : Prop} (h : p) : Hid p := h
def refu (c : Int) : Value := .iface 102 (.agg #[.int .i64 c])
theorem refuse_no (w : World) (c : Int) : Calls Try.prog 42 #[.bool false, .int .i64 c] w fun e w' => e = .returned (.tuple #[]) ∧ w = w' := by
  go_enter Try.func42, Try.ntmps42
  go_wp2
  first | go_end0 | skip
  exact ⟨rfl, rfl⟩
theorem refuse_yes (w : World) (c : Int) : Calls Try.prog 42 #[.bool true, .int .i64 c] w fun e w' => e = .panicked [{ v := refu c, recovered := false }] ∧ w = w' := by
  go_enter Try.func42, Try.ntmps42
  go_wp2
  exact ⟨rfl, rfl, rfl⟩
theorem why_nil (w : World) (c : Int) : Calls Try.prog 41 #[.nilIface, .int .i64 c] w fun e w' => e = .returned (.int .i64 c) ∧ w = w' := by
  go_enter Try.func41, Try.ntmps41
  go_wp2
  go_ret
  exact ⟨rfl, rfl⟩
theorem assert_yes (W : World) (v : Value) : (Instr.typeAssert (.iface 102 v) 20 102 true).run Try.prog W = .ok (.tuple #[v, .bool true]) W := by kernel_rfl
theorem iface_nil (W : World) (v : Value) : (binOp .eql 20 (.iface 102 v) .nilIface).run Try.prog W = .ok (.bool false) W := by kernel_rfl
theorem why_some (w : World) (c d : Int) : Calls Try.prog 41 #[refu d, .int .i64 c] w fun e w' => e = .returned (.int .i64 d) ∧ Below w.heap.size w w' := by
  unfold refu
  have h1 := assert_yes
  have h2 := iface_nil
  have hu := Try.underlying102
  go_enter Try.func41, Try.ntmps41
  go_wp2
  go_ret
  exact ⟨rfl, (below_alloc (Below.refl _ _) _)⟩
section
variable {P : Program} {Q : Exit → Act → List Frame → World → Prop} {a : Act} {cs : List Frame} {w : World}
theorem wpS_region_draw {id : Nat} {ops : Array Oper} (h : ∀ t, wpOpsS P ops Q (Region.schedule (P.follows .mixedOrders) ops t) a cs { w with drawn := w.drawn + 1 }) : (Code.region id ops true).wpS P Q a cs w :=
  fun b k hb hr => let ⟨e, a', cs', w', q, r⟩ := wp_opsS _ a cs _ (h _) b k hb hr; ⟨e, a', cs', w', q, .of_steps (.one step_region_draw) r⟩
end
theorem lin_step {md : Region.Mode} {ops : Array Oper} {rs : List Nat} {i : Nat} {listed : Array Bool} (h : Region.ready md ops listed = rs) (fuel t : Nat) (acc : List Nat) (h2 : rs[t % rs.length]? = some i) :
    Region.linearise.go md ops (fuel + 1) t listed acc = Region.linearise.go md ops fuel (t / rs.length) (listed.setIfInBounds i true) (i :: acc) := by
  simp only [Region.linearise.go]
  change (match (Region.ready md ops listed)[t % (Region.ready md ops listed).length]? with
    | some i => Region.linearise.go md ops fuel (t / (Region.ready md ops listed).length) (listed.setIfInBounds i true) (i :: acc)
    | none => acc.reverse) = _
  rw [h, h2]
theorem lin_two {md : Region.Mode} {ops : Array Oper} (hs : ops.size = 4) (h0 : Region.ready md ops #[false, false, false, false] = [0, 1]) (h1 : Region.ready md ops #[true, false, false, false] = [1]) (h1' : Region.ready md ops #[false, true, false, false] = [0])
    (h2 : Region.ready md ops #[true, true, false, false] = [2]) (h3 : Region.ready md ops #[true, true, true, false] = [3]) (t : Nat) : Region.linearise md ops t = [0, 1, 2, 3] ∨ Region.linearise md ops t = [1, 0, 2, 3] := by
  unfold Region.linearise
  rw [hs]
  have one : ∀ (t : Nat) (x : Nat), ([x] : List Nat)[t % ([x] : List Nat).length]? = some x := fun t x => by simp [Nat.mod_one]
  change Region.linearise.go md ops (3 + 1) t #[false, false, false, false] [] = _ ∨ Region.linearise.go md ops (3 + 1) t #[false, false, false, false] [] = _
  rcases Nat.mod_two_eq_zero_or_one t with q | q
  · left
    rw [lin_step (rs := [0, 1]) (i := 0) h0 3 t [] (by simp [q]), show (#[false, false, false, false] : Array Bool).setIfInBounds 0 true = #[true, false, false, false] from rfl, lin_step h1 2 _ _ (one _ _), show (#[true, false, false, false] : Array Bool).setIfInBounds 1 true = #[true, true, false, false] from rfl, lin_step h2 1 _ _ (one _ _), show (#[true, true, false, false] : Array Bool).setIfInBounds 2 true = #[true, true, true, false] from rfl, lin_step h3 0 _ _ (one _ _)]
    rfl
  · right
    rw [lin_step (rs := [0, 1]) (i := 1) h0 3 t [] (by simp [q]), show (#[false, false, false, false] : Array Bool).setIfInBounds 1 true = #[false, true, false, false] from rfl, lin_step h1' 2 _ _ (one _ _), show (#[false, true, false, false] : Array Bool).setIfInBounds 0 true = #[true, true, false, false] from rfl, lin_step h2 1 _ _ (one _ _), show (#[true, true, false, false] : Array Bool).setIfInBounds 2 true = #[true, true, true, false] from rfl, lin_step h3 0 _ _ (one _ _)]
    rfl
theorem mixed : Try.prog.follows .mixedOrders = true := by kernel_rfl
theorem catch40_orders (t : Nat) : Region.schedule (Try.prog.follows .mixedOrders) (opsOf Try.f40 0) t = [0, 1, 2, 3] ∨ Region.schedule (Try.prog.follows .mixedOrders) (opsOf Try.f40 0) t = [1, 0, 2, 3] := by
  rw [mixed]
  exact lin_two (md := .any) (by kernel_rfl) (by kernel_rfl) (by kernel_rfl) (by kernel_rfl) (by kernel_rfl) (by kernel_rfl) t
theorem catch40_panicking (p : Addr) (x c : Int) (older : List PanicEntry) (w : World) (hc : w.cell? p = some (.int .i64 x)) (hz : w.frozen? p = false) :
    CallsD Try.prog 40 #[.pointer (some p)] (.panicking ({ v := refu c, recovered := false } :: older)) w fun e u' w' =>
      e = .returned (.tuple #[]) ∧ u' = .panicking ({ v := refu c, recovered := true } :: older) ∧ ∃ w1, Below w.heap.size w w1 ∧ w' = w1.setCell p (.int .i64 c) := by
  refine callsD_of_wpS Try.func40 rfl fun c₀ cs hu => ?_
  apply wpS_region_draw
  intro t
  have hcd : w.drew.cell? p = some (.int .i64 x) := hc
  change wpOpsS _ _ _ (Region.schedule (Try.prog.follows .mixedOrders) (opsOf Try.f40 0) t) _ _ w.drew
  have hw := why_some w.drew x c
  have HB := below_drew1 (Below.refl w.heap.size w)
  have HK : ∀ w1, Below w.drew.heap.size w.drew w1 → w1.cell? p = some (.int .i64 x) ∧ w1.frozen? p = false ∧ Below w.heap.size w w1 := fun w1 hb =>
    ⟨pw_cell_below hb hcd, (hb.frozen (p := p) (World.block_lt_of_cell? w p hc)).trans hz, below_then HB HB.size hb⟩
  generalize w.drew = w2 at *
  have HW := lhid hw
  have HKK := lhid HK
  clear hw HK
  rcases catch40_orders t with h | h
  all_goals
    rw [h]
    simp [wpOpsS, go_sem, recoverD, hu, Try.ntmps40, Exit.thenS, hcd]
    refine HW.out.mono ?_
    rintro e w1 ⟨rfl, hb⟩
    obtain ⟨k1, k2, k3⟩ := HKK.out w1 hb
    simp [k1, k2, bodyPostS, results, Try.results40, go_sem]
    exact ⟨w1, k3, rfl⟩
theorem catch40_idle (p : Addr) (x : Int) (w : World) (hc : w.cell? p = some (.int .i64 x)) (hz : w.frozen? p = false) :
    CallsD Try.prog 40 #[.pointer (some p)] .returning w fun e u' w' => e = .returned (.tuple #[]) ∧ u' = .returning ∧ w' = w.drew.setCell p (.int .i64 x) := by
  refine callsD_of_wpS Try.func40 rfl fun c₀ cs hu => ?_
  apply wpS_region_draw
  intro t
  have hcd : w.drew.cell? p = some (.int .i64 x) := hc
  have hzd : w.drew.frozen? p = false := hz
  change wpOpsS _ _ _ (Region.schedule (Try.prog.follows .mixedOrders) (opsOf Try.f40 0) t) _ _ w.drew
  have hw := why_nil w.drew x
  generalize w.drew = w2 at *
  have HW := lhid hw
  clear hw
  rcases catch40_orders t with h | h
  all_goals
    rw [h]
    simp [wpOpsS, go_sem, recoverD, hu, Try.ntmps40, Exit.thenS, hcd]
    refine HW.out.mono ?_
    rintro e w1 ⟨rfl, rfl⟩
    cases c₀
    simp_all [bodyPostS, results, Try.results40, go_sem]
end Go.Proofs.Ytfnlghjkjmppdaa.PC
namespace Go.Proofs.Ytfnlghjkjmppdaa.PC
open Go.RowKit Go.Proofs.YtfnlghjkjmppdaaW.PrintWords Go.Proofs.YtfnlghjkjmppdaaW.PrintLast Go.Proofs.YtfnlghjkjmppdaaW.PrintMore
set_option linter.unusedVariables false
set_option linter.unusedSimpArgs false
structure Chg (F : Nat → Prop) (w W : World) : Prop where
  os : W.os = w.os
  tape : W.tape = w.tape
  output : W.output = w.output
  size : w.heap.size ≤ W.heap.size
  block : ∀ k, k < w.heap.size → ¬ F k → W.heap[k]? = w.heap[k]?
theorem Chg.of_below {F : Nat → Prop} {w W : World} (h : Below w.heap.size w W) : Chg F w W := ⟨h.os, h.tape, h.output, h.size, fun k hk _ => h.block k hk⟩
theorem Chg.refl (F : Nat → Prop) (w : World) : Chg F w w := Chg.of_below (Below.refl _ _)
theorem Chg.below {F : Nat → Prop} {w W : World} {B : Nat} (h : Chg F w W) (hB : B ≤ w.heap.size) (hF : ∀ k, F k → B ≤ k) : Below B w W :=
  ⟨h.os, h.tape, h.output, h.size, fun k hk => h.block k (by omega) (fun q => by have := hF k q; omega)⟩
theorem Chg.trans {F F' : Nat → Prop} {a b c : World} (h : Chg F a b) (k : Chg F' b c) (hF : ∀ i, i < a.heap.size → F' i → F i) : Chg F a c :=
  ⟨k.os.trans h.os, k.tape.trans h.tape, k.output.trans h.output, Nat.le_trans h.size k.size, fun i hi hn => by
    rw [k.block i (Nat.lt_of_lt_of_le hi h.size) (fun q => hn (hF i hi q))]; exact h.block i hi hn⟩
theorem Chg.next {F : Nat → Prop} {a b c : World} (h : Chg F a b) (k : Below b.heap.size b c) : Chg F a c := h.trans (Chg.of_below (F := fun _ => False) k) (fun _ _ q => q.elim)
theorem Chg.mono {F F' : Nat → Prop} {a b : World} (h : Chg F a b) (hF : ∀ i, i < a.heap.size → F i → F' i) : Chg F' a b :=
  ⟨h.os, h.tape, h.output, h.size, fun i hi hn => h.block i hi (fun q => hn (hF i hi q))⟩
theorem Chg.blk {F : Nat → Prop} {a b : World} {g : Nat} {o : Obj} (h : Chg F a b) (hb : a.heap[g]? = some o) (hn : ¬ F g) : b.heap[g]? = some o := by
  rw [h.block g (blk_lt hb) hn]; exact hb
structure BK (base : Nat) (F : Nat → Prop) (w : World) (g : Nat) (day : Int) (G : List S39) (E : List S44) : Prop where
  row : ∃ vG vE, w.heap[g]? = some (.cells #[.bool true, .int .i64 day, vG, vE] 70 (0, 0)) ∧ Kd.R k39 39 w base F vG G ∧ Kd.R k44 44 w base F vE E
  fg : F g
  fb : ∀ k, F k → base ≤ k ∧ k < w.heap.size
structure BO (base : Nat) (F : Nat → Prop) (w : World) (g : Nat) (day : Int) (AG : Option Addr) (cG : Nat) (G : List S39) (AE : Option Addr) (cE : Nat) (E : List S44) : Prop where
  hb : w.heap[g]? = some (.cells #[.bool true, .int .i64 day, .slice AG G.length cG, .slice AE E.length cE] 70 (0, 0))
  rG : Kd.R k39 39 w base F (.slice AG G.length cG) G
  rE : Kd.R k44 44 w base F (.slice AE E.length cE) E
  fg : F g
  fb : ∀ k, F k → base ≤ k ∧ k < w.heap.size
section
variable {base g : Nat} {F : Nat → Prop} {w W : World} {day : Int} {G : List S39} {E : List S44} {AG AE : Option Addr} {cG cE : Nat}
theorem BK.opn (h : BK base F w g day G E) : ∃ AG cG AE cE, BO base F w g day AG cG G AE cE E := by
  obtain ⟨vG, vE, h1, h2, h3⟩ := h.row
  obtain ⟨AG, cG, rfl⟩ := Kd.R_slice h2
  obtain ⟨AE, cE, rfl⟩ := Kd.R_slice h3
  exact ⟨AG, cG, AE, cE, h1, h2, h3, h.fg, h.fb⟩
theorem BO.bk (h : BO base F w g day AG cG G AE cE E) : BK base F w g day G E := ⟨⟨_, _, h.hb, h.rG, h.rE⟩, h.fg, h.fb⟩
theorem BK.lt (h : BK base F w g day G E) : g < w.heap.size := (h.fb g h.fg).2
theorem BK.size (h : BK base F w g day G E) : base ≤ w.heap.size := Nat.le_trans (h.fb g h.fg).1 (Nat.le_of_lt h.lt)
theorem BO.lt (h : BO base F w g day AG cG G AE cE E) : g < w.heap.size := (h.fb g h.fg).2
theorem BO.size (h : BO base F w g day AG cG G AE cE E) : base ≤ w.heap.size := Nat.le_trans (h.fb g h.fg).1 (Nat.le_of_lt h.lt)
theorem BO.next (h : BO base F w g day AG cG G AE cE E) (hb : Below w.heap.size w W) : BO base F W g day AG cG G AE cE E :=
  ⟨blk_below h.hb hb, Kd.R_below h.rG hb, Kd.R_below h.rE hb, h.fg, fun k q => ⟨(h.fb k q).1, Nat.lt_of_lt_of_le (h.fb k q).2 hb.size⟩⟩
theorem BK.next (h : BK base F w g day G E) (hb : Below w.heap.size w W) : BK base F W g day G E := by
  obtain ⟨AG, cG, AE, cE, k⟩ := h.opn
  exact (k.next hb).bk
theorem BK.far {F2 : Nat → Prop} (h : BK base F w g day G E) (hc : Chg F2 w W) (hd : ∀ k, F k → ¬ F2 k) : BK base F W g day G E := by
  obtain ⟨vG, vE, h1, h2, h3⟩ := h.row
  exact ⟨⟨vG, vE, hc.blk h1 (hd g h.fg), Kd.R_step h2 (fun k q hk => hc.block k hk (hd k q)), Kd.R_step h3 (fun k q hk => hc.block k hk (hd k q))⟩, h.fg, fun k q => ⟨(h.fb k q).1, Nat.lt_of_lt_of_le (h.fb k q).2 hc.size⟩⟩
theorem BK.lower {base' : Nat} (h : BK base F w g day G E) (hb : base' ≤ base) : BK base' F w g day G E := by
  obtain ⟨vG, vE, h1, h2, h3⟩ := h.row
  exact ⟨⟨vG, vE, h1, Kd.R_lower h2 hb, Kd.R_lower h3 hb⟩, h.fg, fun k q => ⟨Nat.le_trans hb (h.fb k q).1, (h.fb k q).2⟩⟩
theorem BO.c0 (h : BO base F w g day AG cG G AE cE E) : w.cell? ⟨g, 0, none⟩ = some (.bool true) := by rw [blk_cell h.hb]; rfl
theorem BO.c1 (h : BO base F w g day AG cG G AE cE E) : w.cell? ⟨g, 1, none⟩ = some (.int .i64 day) := by rw [blk_cell h.hb]; rfl
theorem BO.c2 (h : BO base F w g day AG cG G AE cE E) : w.cell? ⟨g, 2, none⟩ = some (.slice AG G.length cG) := by rw [blk_cell h.hb]; rfl
theorem BO.c3 (h : BO base F w g day AG cG G AE cE E) : w.cell? ⟨g, 3, none⟩ = some (.slice AE E.length cE) := by rw [blk_cell h.hb]; rfl
theorem BO.cap (h : BO base F w g day AG cG G AE cE E) : G.length ≤ cG ∧ E.length ≤ cE := ⟨(Kd.R_reads' h.rG).2.1, (Kd.R_reads' h.rE).2.1⟩
end
def gr (G : List S39) (n : Nat) : S39 := rd_T39 G ((n : Int) - 1)
theorem gr_get (G : List S39) (n : Nat) (h1 : 1 ≤ n) (h2 : n ≤ G.length) : G[n - 1]? = some (gr G n) := by
  unfold gr rd_T39
  rw [show ((n : Int) - 1).toNat = n - 1 by omega, List.getD_eq_getElem?_getD, List.getElem?_eq_getElem (by omega)]; rfl
def up (G : List S39) (n : Nat) : List Nat :=
  if h : n = 0 then [] else n :: (if h2 : (gr G n).f1.toNat < n then up G (gr G n).f1.toNat else [])
termination_by n
def Tree (G : List S39) : Prop := G.length ≤ 128 ∧ ∀ n, 1 ≤ n → n ≤ G.length → (gr G n).f0 = n ∧ 0 ≤ (gr G n).f1 ∧ (gr G n).f1 < n
theorem up_zero (G : List S39) : up G 0 = [] := by rw [up, dif_pos rfl]
theorem up_succ {G : List S39} (hT : Tree G) {n : Nat} (h1 : 1 ≤ n) (h2 : n ≤ G.length) : up G n = n :: up G (gr G n).f1.toNat := by
  have := (hT.2 n h1 h2).2
  rw [up, dif_neg (by omega), dif_pos (by omega)]
theorem up_mem {G : List S39} (hT : Tree G) : ∀ (b n : Nat), n ≤ b → n ≤ G.length → ∀ m ∈ up G n, 1 ≤ m ∧ m ≤ n
  | 0, n, hb, hn, m, hm => by
    have : n = 0 := by omega
    subst this; rw [up_zero] at hm; simp at hm
  | b + 1, n, hb, hn, m, hm => by
    by_cases c : n = 0
    · subst c; rw [up_zero] at hm; simp at hm
    · have ht := (hT.2 n (by omega) hn).2
      rw [up_succ hT (by omega) hn, List.mem_cons] at hm
      rcases hm with rfl | hm
      · omega
      · have := up_mem hT b (gr G n).f1.toNat (by omega) (by omega) m hm
        omega
theorem up_len {G : List S39} (hT : Tree G) : ∀ (b n : Nat), n ≤ b → n ≤ G.length → (up G n).length ≤ n
  | 0, n, hb, hn => by
    have : n = 0 := by omega
    subst this; rw [up_zero]; simp
  | b + 1, n, hb, hn => by
    by_cases c : n = 0
    · subst c; rw [up_zero]; simp
    · have ht := (hT.2 n (by omega) hn).2
      rw [up_succ hT (by omega) hn, List.length_cons]
      have := up_len hT b (gr G n).f1.toNat (by omega) (by omega)
      omega
end Go.Proofs.Ytfnlghjkjmppdaa.PC
namespace Go.Proofs.Ytfnlghjkjmppdaa.PC
open Go.RowKit Go.Proofs.YtfnlghjkjmppdaaW.PrintWords Go.Proofs.YtfnlghjkjmppdaaW.PrintLast Go.Proofs.YtfnlghjkjmppdaaW.PrintMore
set_option linter.unusedVariables false
set_option linter.unusedSimpArgs false
def Pan (t : Nat) (p : Value) (ds : List Deferred) (L : List PanicEntry → World → Prop) (c : List PanicEntry) (a : Act) (w : World) : Prop := a.tmps.getD t undef = p ∧ a.defers = ds ∧ L c w
def QP (Q : Exit → Act → World → Prop) (t : Nat) (p : Value) (ds : List Deferred) (L : List PanicEntry → World → Prop) : Exit → Act → World → Prop
  | .panic c, a, w => Pan t p ds L c a w
  | e, a, w => Q e a w
theorem qp {P : Program} {code : Code} {Q : Exit → Act → World → Prop} {a : Act} {w : World} (t : Nat) (p : Value) (ds : List Deferred) (L : List PanicEntry → World → Prop) (hq : ∀ c a w, Pan t p ds L c a w → Q (.panic c) a w) (h : code.wp P (QP Q t p ds L) a w) : code.wp P Q a w :=
  Code.wp_mono (fun e a w q => by
    cases e with
    | panic c => exact hq c a w q
    | _ => exact q) h
theorem pan_put {t n : Nat} {p v : Value} {ds : List Deferred} {L : List PanicEntry → World → Prop} {c : List PanicEntry} {a : Act} {w : World} (hn : n ≠ t) (h : Pan t p ds L c (a.put (some n) v) w) : Pan t p ds L c a w := by
  obtain ⟨h1, h2, h3⟩ := h
  refine ⟨?_, h2, h3⟩
  rw [← h1]
  simp [Act.put, Array.getD_eq_getD_getElem?, Array.getElem?_setIfInBounds, hn]
theorem qp_put {Q : Exit → Act → World → Prop} {t n : Nat} {p v : Value} {ds : List Deferred} {L : List PanicEntry → World → Prop} {c : List PanicEntry} {a : Act} {w : World} (hn : n ≠ t) (h : QP Q t p ds L (.panic c) (a.put (some n) v) w) : QP Q t p ds L (.panic c) a w := pan_put hn h
theorem qp_normal {Q : Exit → Act → World → Prop} {t : Nat} {p : Value} {ds : List Deferred} {L : List PanicEntry → World → Prop} {a : Act} {w : World} (h : Q .normal a w) : QP Q t p ds L .normal a w := h
theorem leaves_res {P : Program} {fn : Func} {t1 t2 : Array Value} {R : Ending → World → Prop} (h : results fn t1 = results fn t2) : ∀ (ds : List Deferred) (u : FrameMode) (w : World), Leaves P fn t1 R ds u w → Leaves P fn t2 R ds u w
  | [], .returning, w, q => by unfold Leaves at *; rw [← h]; exact q
  | [], .panicking c, w, q => q
  | [], .run, _, q => q
  | d :: ds, u, w, ⟨h1, fv, cap, f, args, h2, h3, h4⟩ => ⟨h1, fv, cap, f, args, h2, h3, h4.mono (fun e u' w' k => by
      cases e with
      | returned _ => exact leaves_res h ds _ _ k
      | panicked _ => exact leaves_res h ds _ _ k
      | outgrown => exact k)⟩
theorem res38 {t1 t2 : Array Value} (h : t1.getD 12 undef = t2.getD 12 undef) : results Try.f38 t1 = results Try.f38 t2 := by
  rw [Array.getD_eq_getD_getElem?, Array.getD_eq_getD_getElem?] at h
  simp [results, Try.results38, h]
end Go.Proofs.Ytfnlghjkjmppdaa.PC
namespace Go.Proofs.Ytfnlghjkjmppdaa.PC
open Go.RowKit Go.Proofs.YtfnlghjkjmppdaaW.PrintWords Go.Proofs.YtfnlghjkjmppdaaW.PrintLast Go.Proofs.YtfnlghjkjmppdaaW.PrintMore
set_option linter.unusedVariables false
set_option linter.unusedSimpArgs false
theorem catch45_orders (t : Nat) : Region.schedule (Try.prog.follows .mixedOrders) (opsOf Try.f45 0) t = [0, 1, 2, 3] ∨ Region.schedule (Try.prog.follows .mixedOrders) (opsOf Try.f45 0) t = [1, 0, 2, 3] := by
  rw [mixed]
  exact lin_two (md := .any) (by kernel_rfl) (by kernel_rfl) (by kernel_rfl) (by kernel_rfl) (by kernel_rfl) (by kernel_rfl) t
theorem catch45_panicking (p : Addr) (x c : Int) (older : List PanicEntry) (w : World) (hc : w.cell? p = some (.int .i64 x)) (hz : w.frozen? p = false) :
    CallsD Try.prog 45 #[.pointer (some p)] (.panicking ({ v := refu c, recovered := false } :: older)) w fun e u' w' =>
      e = .returned (.tuple #[]) ∧ u' = .panicking ({ v := refu c, recovered := true } :: older) ∧ ∃ w1, Below w.heap.size w w1 ∧ w' = w1.setCell p (.int .i64 c) := by
  refine callsD_of_wpS Try.func45 rfl fun c₀ cs hu => ?_
  apply wpS_region_draw
  intro t
  have hcd : w.drew.cell? p = some (.int .i64 x) := hc
  change wpOpsS _ _ _ (Region.schedule (Try.prog.follows .mixedOrders) (opsOf Try.f45 0) t) _ _ w.drew
  have hw := why_some w.drew x c
  have HB := below_drew1 (Below.refl w.heap.size w)
  have HK : ∀ w1, Below w.drew.heap.size w.drew w1 → w1.cell? p = some (.int .i64 x) ∧ w1.frozen? p = false ∧ Below w.heap.size w w1 := fun w1 hb =>
    ⟨pw_cell_below hb hcd, (hb.frozen (p := p) (World.block_lt_of_cell? w p hc)).trans hz, below_then HB HB.size hb⟩
  generalize w.drew = w2 at *
  have HW := lhid hw
  have HKK := lhid HK
  clear hw HK
  rcases catch45_orders t with h | h
  all_goals
    rw [h]
    simp [wpOpsS, go_sem, recoverD, hu, Try.ntmps45, Exit.thenS, hcd]
    refine HW.out.mono ?_
    rintro e w1 ⟨rfl, hb⟩
    obtain ⟨k1, k2, k3⟩ := HKK.out w1 hb
    simp [k1, k2, bodyPostS, results, Try.results45, go_sem]
    exact ⟨w1, k3, rfl⟩
theorem catch45_idle (p : Addr) (x : Int) (w : World) (hc : w.cell? p = some (.int .i64 x)) (hz : w.frozen? p = false) :
    CallsD Try.prog 45 #[.pointer (some p)] .returning w fun e u' w' => e = .returned (.tuple #[]) ∧ u' = .returning ∧ w' = w.drew.setCell p (.int .i64 x) := by
  refine callsD_of_wpS Try.func45 rfl fun c₀ cs hu => ?_
  apply wpS_region_draw
  intro t
  have hcd : w.drew.cell? p = some (.int .i64 x) := hc
  have hzd : w.drew.frozen? p = false := hz
  change wpOpsS _ _ _ (Region.schedule (Try.prog.follows .mixedOrders) (opsOf Try.f45 0) t) _ _ w.drew
  have hw := why_nil w.drew x
  generalize w.drew = w2 at *
  have HW := lhid hw
  clear hw
  rcases catch45_orders t with h | h
  all_goals
    rw [h]
    simp [wpOpsS, go_sem, recoverD, hu, Try.ntmps45, Exit.thenS, hcd]
    refine HW.out.mono ?_
    rintro e w1 ⟨rfl, rfl⟩
    cases c₀
    simp_all [bodyPostS, results, Try.results45, go_sem]
theorem catch50_orders (t : Nat) : Region.schedule (Try.prog.follows .mixedOrders) (opsOf Try.f50 0) t = [0, 1, 2, 3] ∨ Region.schedule (Try.prog.follows .mixedOrders) (opsOf Try.f50 0) t = [1, 0, 2, 3] := by
  rw [mixed]
  exact lin_two (md := .any) (by kernel_rfl) (by kernel_rfl) (by kernel_rfl) (by kernel_rfl) (by kernel_rfl) (by kernel_rfl) t
theorem catch50_panicking (p : Addr) (x c : Int) (older : List PanicEntry) (w : World) (hc : w.cell? p = some (.int .i64 x)) (hz : w.frozen? p = false) :
    CallsD Try.prog 50 #[.pointer (some p)] (.panicking ({ v := refu c, recovered := false } :: older)) w fun e u' w' =>
      e = .returned (.tuple #[]) ∧ u' = .panicking ({ v := refu c, recovered := true } :: older) ∧ ∃ w1, Below w.heap.size w w1 ∧ w' = w1.setCell p (.int .i64 c) := by
  refine callsD_of_wpS Try.func50 rfl fun c₀ cs hu => ?_
  apply wpS_region_draw
  intro t
  have hcd : w.drew.cell? p = some (.int .i64 x) := hc
  change wpOpsS _ _ _ (Region.schedule (Try.prog.follows .mixedOrders) (opsOf Try.f50 0) t) _ _ w.drew
  have hw := why_some w.drew x c
  have HB := below_drew1 (Below.refl w.heap.size w)
  have HK : ∀ w1, Below w.drew.heap.size w.drew w1 → w1.cell? p = some (.int .i64 x) ∧ w1.frozen? p = false ∧ Below w.heap.size w w1 := fun w1 hb =>
    ⟨pw_cell_below hb hcd, (hb.frozen (p := p) (World.block_lt_of_cell? w p hc)).trans hz, below_then HB HB.size hb⟩
  generalize w.drew = w2 at *
  have HW := lhid hw
  have HKK := lhid HK
  clear hw HK
  rcases catch50_orders t with h | h
  all_goals
    rw [h]
    simp [wpOpsS, go_sem, recoverD, hu, Try.ntmps50, Exit.thenS, hcd]
    refine HW.out.mono ?_
    rintro e w1 ⟨rfl, hb⟩
    obtain ⟨k1, k2, k3⟩ := HKK.out w1 hb
    simp [k1, k2, bodyPostS, results, Try.results50, go_sem]
    exact ⟨w1, k3, rfl⟩
theorem catch50_idle (p : Addr) (x : Int) (w : World) (hc : w.cell? p = some (.int .i64 x)) (hz : w.frozen? p = false) :
    CallsD Try.prog 50 #[.pointer (some p)] .returning w fun e u' w' => e = .returned (.tuple #[]) ∧ u' = .returning ∧ w' = w.drew.setCell p (.int .i64 x) := by
  refine callsD_of_wpS Try.func50 rfl fun c₀ cs hu => ?_
  apply wpS_region_draw
  intro t
  have hcd : w.drew.cell? p = some (.int .i64 x) := hc
  have hzd : w.drew.frozen? p = false := hz
  change wpOpsS _ _ _ (Region.schedule (Try.prog.follows .mixedOrders) (opsOf Try.f50 0) t) _ _ w.drew
  have hw := why_nil w.drew x
  generalize w.drew = w2 at *
  have HW := lhid hw
  clear hw
  rcases catch50_orders t with h | h
  all_goals
    rw [h]
    simp [wpOpsS, go_sem, recoverD, hu, Try.ntmps50, Exit.thenS, hcd]
    refine HW.out.mono ?_
    rintro e w1 ⟨rfl, rfl⟩
    cases c₀
    simp_all [bodyPostS, results, Try.results50, go_sem]
theorem catch58_orders (t : Nat) : Region.schedule (Try.prog.follows .mixedOrders) (opsOf Try.f58 0) t = [0, 1, 2, 3] ∨ Region.schedule (Try.prog.follows .mixedOrders) (opsOf Try.f58 0) t = [1, 0, 2, 3] := by
  rw [mixed]
  exact lin_two (md := .any) (by kernel_rfl) (by kernel_rfl) (by kernel_rfl) (by kernel_rfl) (by kernel_rfl) (by kernel_rfl) t
theorem catch58_panicking (p : Addr) (x c : Int) (older : List PanicEntry) (w : World) (hc : w.cell? p = some (.int .i64 x)) (hz : w.frozen? p = false) :
    CallsD Try.prog 58 #[.pointer (some p)] (.panicking ({ v := refu c, recovered := false } :: older)) w fun e u' w' =>
      e = .returned (.tuple #[]) ∧ u' = .panicking ({ v := refu c, recovered := true } :: older) ∧ ∃ w1, Below w.heap.size w w1 ∧ w' = w1.setCell p (.int .i64 c) := by
  refine callsD_of_wpS Try.func58 rfl fun c₀ cs hu => ?_
  apply wpS_region_draw
  intro t
  have hcd : w.drew.cell? p = some (.int .i64 x) := hc
  change wpOpsS _ _ _ (Region.schedule (Try.prog.follows .mixedOrders) (opsOf Try.f58 0) t) _ _ w.drew
  have hw := why_some w.drew x c
  have HB := below_drew1 (Below.refl w.heap.size w)
  have HK : ∀ w1, Below w.drew.heap.size w.drew w1 → w1.cell? p = some (.int .i64 x) ∧ w1.frozen? p = false ∧ Below w.heap.size w w1 := fun w1 hb =>
    ⟨pw_cell_below hb hcd, (hb.frozen (p := p) (World.block_lt_of_cell? w p hc)).trans hz, below_then HB HB.size hb⟩
  generalize w.drew = w2 at *
  have HW := lhid hw
  have HKK := lhid HK
  clear hw HK
  rcases catch58_orders t with h | h
  all_goals
    rw [h]
    simp [wpOpsS, go_sem, recoverD, hu, Try.ntmps58, Exit.thenS, hcd]
    refine HW.out.mono ?_
    rintro e w1 ⟨rfl, hb⟩
    obtain ⟨k1, k2, k3⟩ := HKK.out w1 hb
    simp [k1, k2, bodyPostS, results, Try.results58, go_sem]
    exact ⟨w1, k3, rfl⟩
theorem catch58_idle (p : Addr) (x : Int) (w : World) (hc : w.cell? p = some (.int .i64 x)) (hz : w.frozen? p = false) :
    CallsD Try.prog 58 #[.pointer (some p)] .returning w fun e u' w' => e = .returned (.tuple #[]) ∧ u' = .returning ∧ w' = w.drew.setCell p (.int .i64 x) := by
  refine callsD_of_wpS Try.func58 rfl fun c₀ cs hu => ?_
  apply wpS_region_draw
  intro t
  have hcd : w.drew.cell? p = some (.int .i64 x) := hc
  have hzd : w.drew.frozen? p = false := hz
  change wpOpsS _ _ _ (Region.schedule (Try.prog.follows .mixedOrders) (opsOf Try.f58 0) t) _ _ w.drew
  have hw := why_nil w.drew x
  generalize w.drew = w2 at *
  have HW := lhid hw
  clear hw
  rcases catch58_orders t with h | h
  all_goals
    rw [h]
    simp [wpOpsS, go_sem, recoverD, hu, Try.ntmps58, Exit.thenS, hcd]
    refine HW.out.mono ?_
    rintro e w1 ⟨rfl, rfl⟩
    cases c₀
    simp_all [bodyPostS, results, Try.results58, go_sem]
theorem catch59_orders (t : Nat) : Region.schedule (Try.prog.follows .mixedOrders) (opsOf Try.f59 0) t = [0, 1, 2, 3] ∨ Region.schedule (Try.prog.follows .mixedOrders) (opsOf Try.f59 0) t = [1, 0, 2, 3] := by
  rw [mixed]
  exact lin_two (md := .any) (by kernel_rfl) (by kernel_rfl) (by kernel_rfl) (by kernel_rfl) (by kernel_rfl) (by kernel_rfl) t
theorem catch59_panicking (p : Addr) (x c : Int) (older : List PanicEntry) (w : World) (hc : w.cell? p = some (.int .i64 x)) (hz : w.frozen? p = false) :
    CallsD Try.prog 59 #[.pointer (some p)] (.panicking ({ v := refu c, recovered := false } :: older)) w fun e u' w' =>
      e = .returned (.tuple #[]) ∧ u' = .panicking ({ v := refu c, recovered := true } :: older) ∧ ∃ w1, Below w.heap.size w w1 ∧ w' = w1.setCell p (.int .i64 c) := by
  refine callsD_of_wpS Try.func59 rfl fun c₀ cs hu => ?_
  apply wpS_region_draw
  intro t
  have hcd : w.drew.cell? p = some (.int .i64 x) := hc
  change wpOpsS _ _ _ (Region.schedule (Try.prog.follows .mixedOrders) (opsOf Try.f59 0) t) _ _ w.drew
  have hw := why_some w.drew x c
  have HB := below_drew1 (Below.refl w.heap.size w)
  have HK : ∀ w1, Below w.drew.heap.size w.drew w1 → w1.cell? p = some (.int .i64 x) ∧ w1.frozen? p = false ∧ Below w.heap.size w w1 := fun w1 hb =>
    ⟨pw_cell_below hb hcd, (hb.frozen (p := p) (World.block_lt_of_cell? w p hc)).trans hz, below_then HB HB.size hb⟩
  generalize w.drew = w2 at *
  have HW := lhid hw
  have HKK := lhid HK
  clear hw HK
  rcases catch59_orders t with h | h
  all_goals
    rw [h]
    simp [wpOpsS, go_sem, recoverD, hu, Try.ntmps59, Exit.thenS, hcd]
    refine HW.out.mono ?_
    rintro e w1 ⟨rfl, hb⟩
    obtain ⟨k1, k2, k3⟩ := HKK.out w1 hb
    simp [k1, k2, bodyPostS, results, Try.results59, go_sem]
    exact ⟨w1, k3, rfl⟩
theorem catch59_idle (p : Addr) (x : Int) (w : World) (hc : w.cell? p = some (.int .i64 x)) (hz : w.frozen? p = false) :
    CallsD Try.prog 59 #[.pointer (some p)] .returning w fun e u' w' => e = .returned (.tuple #[]) ∧ u' = .returning ∧ w' = w.drew.setCell p (.int .i64 x) := by
  refine callsD_of_wpS Try.func59 rfl fun c₀ cs hu => ?_
  apply wpS_region_draw
  intro t
  have hcd : w.drew.cell? p = some (.int .i64 x) := hc
  have hzd : w.drew.frozen? p = false := hz
  change wpOpsS _ _ _ (Region.schedule (Try.prog.follows .mixedOrders) (opsOf Try.f59 0) t) _ _ w.drew
  have hw := why_nil w.drew x
  generalize w.drew = w2 at *
  have HW := lhid hw
  clear hw
  rcases catch59_orders t with h | h
  all_goals
    rw [h]
    simp [wpOpsS, go_sem, recoverD, hu, Try.ntmps59, Exit.thenS, hcd]
    refine HW.out.mono ?_
    rintro e w1 ⟨rfl, rfl⟩
    cases c₀
    simp_all [bodyPostS, results, Try.results59, go_sem]
theorem catch65_orders (t : Nat) : Region.schedule (Try.prog.follows .mixedOrders) (opsOf Try.f65 0) t = [0, 1, 2, 3] ∨ Region.schedule (Try.prog.follows .mixedOrders) (opsOf Try.f65 0) t = [1, 0, 2, 3] := by
  rw [mixed]
  exact lin_two (md := .any) (by kernel_rfl) (by kernel_rfl) (by kernel_rfl) (by kernel_rfl) (by kernel_rfl) (by kernel_rfl) t
theorem catch65_panicking (p : Addr) (x c : Int) (older : List PanicEntry) (w : World) (hc : w.cell? p = some (.int .i64 x)) (hz : w.frozen? p = false) :
    CallsD Try.prog 65 #[.pointer (some p)] (.panicking ({ v := refu c, recovered := false } :: older)) w fun e u' w' =>
      e = .returned (.tuple #[]) ∧ u' = .panicking ({ v := refu c, recovered := true } :: older) ∧ ∃ w1, Below w.heap.size w w1 ∧ w' = w1.setCell p (.int .i64 c) := by
  refine callsD_of_wpS Try.func65 rfl fun c₀ cs hu => ?_
  apply wpS_region_draw
  intro t
  have hcd : w.drew.cell? p = some (.int .i64 x) := hc
  change wpOpsS _ _ _ (Region.schedule (Try.prog.follows .mixedOrders) (opsOf Try.f65 0) t) _ _ w.drew
  have hw := why_some w.drew x c
  have HB := below_drew1 (Below.refl w.heap.size w)
  have HK : ∀ w1, Below w.drew.heap.size w.drew w1 → w1.cell? p = some (.int .i64 x) ∧ w1.frozen? p = false ∧ Below w.heap.size w w1 := fun w1 hb =>
    ⟨pw_cell_below hb hcd, (hb.frozen (p := p) (World.block_lt_of_cell? w p hc)).trans hz, below_then HB HB.size hb⟩
  generalize w.drew = w2 at *
  have HW := lhid hw
  have HKK := lhid HK
  clear hw HK
  rcases catch65_orders t with h | h
  all_goals
    rw [h]
    simp [wpOpsS, go_sem, recoverD, hu, Try.ntmps65, Exit.thenS, hcd]
    refine HW.out.mono ?_
    rintro e w1 ⟨rfl, hb⟩
    obtain ⟨k1, k2, k3⟩ := HKK.out w1 hb
    simp [k1, k2, bodyPostS, results, Try.results65, go_sem]
    exact ⟨w1, k3, rfl⟩
theorem catch65_idle (p : Addr) (x : Int) (w : World) (hc : w.cell? p = some (.int .i64 x)) (hz : w.frozen? p = false) :
    CallsD Try.prog 65 #[.pointer (some p)] .returning w fun e u' w' => e = .returned (.tuple #[]) ∧ u' = .returning ∧ w' = w.drew.setCell p (.int .i64 x) := by
  refine callsD_of_wpS Try.func65 rfl fun c₀ cs hu => ?_
  apply wpS_region_draw
  intro t
  have hcd : w.drew.cell? p = some (.int .i64 x) := hc
  have hzd : w.drew.frozen? p = false := hz
  change wpOpsS _ _ _ (Region.schedule (Try.prog.follows .mixedOrders) (opsOf Try.f65 0) t) _ _ w.drew
  have hw := why_nil w.drew x
  generalize w.drew = w2 at *
  have HW := lhid hw
  clear hw
  rcases catch65_orders t with h | h
  all_goals
    rw [h]
    simp [wpOpsS, go_sem, recoverD, hu, Try.ntmps65, Exit.thenS, hcd]
    refine HW.out.mono ?_
    rintro e w1 ⟨rfl, rfl⟩
    cases c₀
    simp_all [bodyPostS, results, Try.results65, go_sem]
theorem catch73_orders (t : Nat) : Region.schedule (Try.prog.follows .mixedOrders) (opsOf Try.f73 0) t = [0, 1, 2, 3] ∨ Region.schedule (Try.prog.follows .mixedOrders) (opsOf Try.f73 0) t = [1, 0, 2, 3] := by
  rw [mixed]
  exact lin_two (md := .any) (by kernel_rfl) (by kernel_rfl) (by kernel_rfl) (by kernel_rfl) (by kernel_rfl) (by kernel_rfl) t
theorem catch73_panicking (p : Addr) (x c : Int) (older : List PanicEntry) (w : World) (hc : w.cell? p = some (.int .i64 x)) (hz : w.frozen? p = false) :
    CallsD Try.prog 73 #[.pointer (some p)] (.panicking ({ v := refu c, recovered := false } :: older)) w fun e u' w' =>
      e = .returned (.tuple #[]) ∧ u' = .panicking ({ v := refu c, recovered := true } :: older) ∧ ∃ w1, Below w.heap.size w w1 ∧ w' = w1.setCell p (.int .i64 c) := by
  refine callsD_of_wpS Try.func73 rfl fun c₀ cs hu => ?_
  apply wpS_region_draw
  intro t
  have hcd : w.drew.cell? p = some (.int .i64 x) := hc
  change wpOpsS _ _ _ (Region.schedule (Try.prog.follows .mixedOrders) (opsOf Try.f73 0) t) _ _ w.drew
  have hw := why_some w.drew x c
  have HB := below_drew1 (Below.refl w.heap.size w)
  have HK : ∀ w1, Below w.drew.heap.size w.drew w1 → w1.cell? p = some (.int .i64 x) ∧ w1.frozen? p = false ∧ Below w.heap.size w w1 := fun w1 hb =>
    ⟨pw_cell_below hb hcd, (hb.frozen (p := p) (World.block_lt_of_cell? w p hc)).trans hz, below_then HB HB.size hb⟩
  generalize w.drew = w2 at *
  have HW := lhid hw
  have HKK := lhid HK
  clear hw HK
  rcases catch73_orders t with h | h
  all_goals
    rw [h]
    simp [wpOpsS, go_sem, recoverD, hu, Try.ntmps73, Exit.thenS, hcd]
    refine HW.out.mono ?_
    rintro e w1 ⟨rfl, hb⟩
    obtain ⟨k1, k2, k3⟩ := HKK.out w1 hb
    simp [k1, k2, bodyPostS, results, Try.results73, go_sem]
    exact ⟨w1, k3, rfl⟩
theorem catch73_idle (p : Addr) (x : Int) (w : World) (hc : w.cell? p = some (.int .i64 x)) (hz : w.frozen? p = false) :
    CallsD Try.prog 73 #[.pointer (some p)] .returning w fun e u' w' => e = .returned (.tuple #[]) ∧ u' = .returning ∧ w' = w.drew.setCell p (.int .i64 x) := by
  refine callsD_of_wpS Try.func73 rfl fun c₀ cs hu => ?_
  apply wpS_region_draw
  intro t
  have hcd : w.drew.cell? p = some (.int .i64 x) := hc
  have hzd : w.drew.frozen? p = false := hz
  change wpOpsS _ _ _ (Region.schedule (Try.prog.follows .mixedOrders) (opsOf Try.f73 0) t) _ _ w.drew
  have hw := why_nil w.drew x
  generalize w.drew = w2 at *
  have HW := lhid hw
  clear hw
  rcases catch73_orders t with h | h
  all_goals
    rw [h]
    simp [wpOpsS, go_sem, recoverD, hu, Try.ntmps73, Exit.thenS, hcd]
    refine HW.out.mono ?_
    rintro e w1 ⟨rfl, rfl⟩
    cases c₀
    simp_all [bodyPostS, results, Try.results73, go_sem]
theorem catch74_orders (t : Nat) : Region.schedule (Try.prog.follows .mixedOrders) (opsOf Try.f74 0) t = [0, 1, 2, 3] ∨ Region.schedule (Try.prog.follows .mixedOrders) (opsOf Try.f74 0) t = [1, 0, 2, 3] := by
  rw [mixed]
  exact lin_two (md := .any) (by kernel_rfl) (by kernel_rfl) (by kernel_rfl) (by kernel_rfl) (by kernel_rfl) (by kernel_rfl) t
theorem catch74_panicking (p : Addr) (x c : Int) (older : List PanicEntry) (w : World) (hc : w.cell? p = some (.int .i64 x)) (hz : w.frozen? p = false) :
    CallsD Try.prog 74 #[.pointer (some p)] (.panicking ({ v := refu c, recovered := false } :: older)) w fun e u' w' =>
      e = .returned (.tuple #[]) ∧ u' = .panicking ({ v := refu c, recovered := true } :: older) ∧ ∃ w1, Below w.heap.size w w1 ∧ w' = w1.setCell p (.int .i64 c) := by
  refine callsD_of_wpS Try.func74 rfl fun c₀ cs hu => ?_
  apply wpS_region_draw
  intro t
  have hcd : w.drew.cell? p = some (.int .i64 x) := hc
  change wpOpsS _ _ _ (Region.schedule (Try.prog.follows .mixedOrders) (opsOf Try.f74 0) t) _ _ w.drew
  have hw := why_some w.drew x c
  have HB := below_drew1 (Below.refl w.heap.size w)
  have HK : ∀ w1, Below w.drew.heap.size w.drew w1 → w1.cell? p = some (.int .i64 x) ∧ w1.frozen? p = false ∧ Below w.heap.size w w1 := fun w1 hb =>
    ⟨pw_cell_below hb hcd, (hb.frozen (p := p) (World.block_lt_of_cell? w p hc)).trans hz, below_then HB HB.size hb⟩
  generalize w.drew = w2 at *
  have HW := lhid hw
  have HKK := lhid HK
  clear hw HK
  rcases catch74_orders t with h | h
  all_goals
    rw [h]
    simp [wpOpsS, go_sem, recoverD, hu, Try.ntmps74, Exit.thenS, hcd]
    refine HW.out.mono ?_
    rintro e w1 ⟨rfl, hb⟩
    obtain ⟨k1, k2, k3⟩ := HKK.out w1 hb
    simp [k1, k2, bodyPostS, results, Try.results74, go_sem]
    exact ⟨w1, k3, rfl⟩
theorem catch74_idle (p : Addr) (x : Int) (w : World) (hc : w.cell? p = some (.int .i64 x)) (hz : w.frozen? p = false) :
    CallsD Try.prog 74 #[.pointer (some p)] .returning w fun e u' w' => e = .returned (.tuple #[]) ∧ u' = .returning ∧ w' = w.drew.setCell p (.int .i64 x) := by
  refine callsD_of_wpS Try.func74 rfl fun c₀ cs hu => ?_
  apply wpS_region_draw
  intro t
  have hcd : w.drew.cell? p = some (.int .i64 x) := hc
  have hzd : w.drew.frozen? p = false := hz
  change wpOpsS _ _ _ (Region.schedule (Try.prog.follows .mixedOrders) (opsOf Try.f74 0) t) _ _ w.drew
  have hw := why_nil w.drew x
  generalize w.drew = w2 at *
  have HW := lhid hw
  clear hw
  rcases catch74_orders t with h | h
  all_goals
    rw [h]
    simp [wpOpsS, go_sem, recoverD, hu, Try.ntmps74, Exit.thenS, hcd]
    refine HW.out.mono ?_
    rintro e w1 ⟨rfl, rfl⟩
    cases c₀
    simp_all [bodyPostS, results, Try.results74, go_sem]
end Go.Proofs.Ytfnlghjkjmppdaa.PC
namespace Go.Proofs.Ytfnlghjkjmppdaa.PC
open Go.RowKit Go.Proofs.YtfnlghjkjmppdaaW.PrintWords Go.Proofs.YtfnlghjkjmppdaaW.PrintLast Go.Proofs.YtfnlghjkjmppdaaW.PrintMore
set_option linter.unusedVariables false
set_option linter.unusedSimpArgs false
def NoBook (w : World) (v : Value) : Prop := v = .pointer none ∨ ∃ g, v = .pointer (some ⟨g, 0, none⟩) ∧ w.heap[g]? = some (.cells #[.bool false, .int .i64 0, .slice none 0 0, .slice none 0 0] 70 (0, 0))
theorem NoBook.next {w w' : World} {v : Value} (h : NoBook w v) (hb : Below w.heap.size w w') : NoBook w' v := by
  rcases h with h | ⟨g, h1, h2⟩
  · exact Or.inl h
  · exact Or.inr ⟨g, h1, blk_below h2 hb⟩
theorem get_nil (w : World) (v : Value) (n : Int) (h : NoBook w v) : Calls Try.prog 46 #[v, .int .i64 n] w fun e w' => e = .panicked [{ v := refu 1, recovered := false }] ∧ w = w' := by
  have hu70 := Try.underlying70
  rcases h with rfl | ⟨g, rfl, hb⟩
  · go_enter Try.func46, Try.ntmps46
    go_wp2_with fail
    with_reducible refine (refuse_yes _ 1).mono ?_
    rintro e w' ⟨rfl, rfl⟩
    exact ⟨rfl, rfl, rfl⟩
  · have hc := blk_cell hb 0
    simp only [List.getElem?_toArray, List.getElem?_cons_zero] at hc
    go_enter Try.func46, Try.ntmps46
    go_wp2_with fail
    with_reducible refine (refuse_yes _ 1).mono ?_
    rintro e w' ⟨rfl, rfl⟩
    exact ⟨rfl, rfl, rfl⟩
def pt (b n : Nat) : Addr := ⟨b, (n - 1) * 9, none⟩
section
variable {base g : Nat} {F : Nat → Prop} {w W : World} {day : Int} {G : List S39} {E : List S44} {AG AE : Option Addr} {cG cE : Nat}
theorem BO.ad (h : BO base F w g day AG cG G AE cE E) (hG : 0 < G.length) : ∃ b, AG = some ⟨b, 0, none⟩ ∧ F b := by
  obtain ⟨inner, ho⟩ := Kd.R_own h.rG
  rcases ho.2 with ⟨hv, h0⟩ | ⟨b, cap, cur, hv, _⟩
  · injection hv with h1 h2
    omega
  · injection hv with h1 h2 h3
    exact ⟨b, h1, h.rG.1 b (by rw [h1]; rfl)⟩
end
theorem BO.cells {base g : Nat} {F : Nat → Prop} {w : World} {day : Int} {G : List S39} {E : List S44} {AE : Option Addr} {cG cE b : Nat} (h : BO base F w g day (some ⟨b, 0, none⟩) cG G AE cE E) (m : Nat) (h1 : 1 ≤ m) (h2 : m ≤ G.length) :
    w.cell? ⟨b, (m - 1) * 9, none⟩ = some (.int .i64 (gr G m).f0) ∧ w.cell? ⟨b, (m - 1) * 9 + 1, none⟩ = some (.int .i64 (gr G m).f1) ∧ w.cell? ⟨b, (m - 1) * 9 + 2, none⟩ = some (.int .i64 (gr G m).f2) ∧ w.cell? ⟨b, (m - 1) * 9 + 3, none⟩ = some (.int .i64 (gr G m).f3) ∧ w.cell? ⟨b, (m - 1) * 9 + 4, none⟩ = some (.int .i64 (gr G m).f4) ∧
      w.cell? ⟨b, (m - 1) * 9 + 5, none⟩ = some (.int .i64 (gr G m).f5) ∧ w.cell? ⟨b, (m - 1) * 9 + 6, none⟩ = some (.int .i64 (gr G m).f6) ∧ w.cell? ⟨b, (m - 1) * 9 + 7, none⟩ = some (.int .i64 (gr G m).f7) ∧ w.cell? ⟨b, (m - 1) * 9 + 8, none⟩ = some (.bool (gr G m).f8) := by
  obtain ⟨ad, e, q⟩ := at_T39 (Kd.R_reads' h.rG).2.2 ((m : Int) - 1) (by omega) (by omega)
  cases e
  rw [show ((m : Int) - 1).toNat = m - 1 by omega, add_plain] at q
  exact q
theorem BO.frz {base g : Nat} {F : Nat → Prop} {w : World} {day : Int} {G : List S39} {E : List S44} {AE : Option Addr} {cG cE b : Nat} (h : BO base F w g day (some ⟨b, 0, none⟩) cG G AE cE E) : ∀ o, w.frozen? ⟨b, o, none⟩ = false := by
  obtain ⟨inner, ho⟩ := Kd.R_own h.rG
  rcases ho.2 with ⟨hv, h0⟩ | ⟨b', cap, cur, hv, _, hh, _⟩
  · cases hv
  · injection hv with h1 h2 h3
    injection h1 with h1
    injection h1 with h1
    subst h1
    exact fun o => blk_frozen hh o
theorem get_none (base g : Nat) (F : Nat → Prop) (w : World) (day : Int) (G : List S39) (E : List S44) (n : Int) (h : BK base F w g day G E) (hn : ¬ (1 ≤ n ∧ n ≤ G.length)) :
    Calls Try.prog 46 #[.pointer (some ⟨g, 0, none⟩), .int .i64 n] w fun e w' => e = .panicked [{ v := refu 6, recovered := false }] ∧ w = w' := by
  have hu70 := Try.underlying70
  obtain ⟨AG, cG, AE, cE, ho⟩ := h.opn
  have hc0 := ho.c0
  have hc2 := ho.c2
  clear h ho
  by_cases c : n < 1
  · have hd1 : decide (n < 1) = true := decide_eq_true c
    clear hn
    go_enter Try.func46, Try.ntmps46
    go_wp2_with fail
    with_reducible refine (refuse_no _ 1).mono ?_
    rintro e w' ⟨rfl, rfl⟩
    go_wp2_with fail
    with_reducible refine (refuse_yes _ 6).mono ?_
    rintro e w' ⟨rfl, rfl⟩
    exact ⟨rfl, rfl, rfl⟩
  · have hd1 : decide (n < 1) = false := decide_eq_false c
    have hd2 : decide (n > (G.length : Int)) = true := decide_eq_true (by omega)
    clear hn
    go_enter Try.func46, Try.ntmps46
    go_wp2_with fail
    with_reducible refine (refuse_no _ 1).mono ?_
    rintro e w' ⟨rfl, rfl⟩
    go_wp2_with fail
    with_reducible refine (refuse_yes _ 6).mono ?_
    rintro e w' ⟨rfl, rfl⟩
    exact ⟨rfl, rfl, rfl⟩
theorem get_some (base g : Nat) (F : Nat → Prop) (w : World) (day : Int) (G : List S39) (E : List S44) (cG : Nat) (AE : Option Addr) (cE b : Nat) (n : Int) (h : BO base F w g day (some ⟨b, 0, none⟩) cG G AE cE E) (h1 : 1 ≤ n) (h2 : n ≤ G.length) (hl : G.length ≤ 1000) :
    Calls Try.prog 46 #[.pointer (some ⟨g, 0, none⟩), .int .i64 n] w fun e w' => e = .returned (.pointer (some (pt b n.toNat))) ∧ w = w' := by
  have hu70 := Try.underlying70
  have hc0 := h.c0
  have hc2 := h.c2
  have hd1 : decide (n < 1) = false := decide_eq_false (by omega)
  have hd2 : decide (n > (G.length : Int)) = false := decide_eq_false (by omega)
  have hd3 : n - 1 < (G.length : Int) := by omega
  clear h
  go_enter Try.func46, Try.ntmps46
  go_wp2_with fail
  with_reducible refine (refuse_no _ 1).mono ?_
  rintro e w' ⟨rfl, rfl⟩
  go_wp2_with fail
  with_reducible refine (refuse_no _ 6).mono ?_
  rintro e w' ⟨rfl, rfl⟩
  go_wp2_with fail
  go_ret
  exact ⟨rfl, rfl⟩
end Go.Proofs.Ytfnlghjkjmppdaa.PC
namespace Go.Proofs.Ytfnlghjkjmppdaa.PC
open Go.RowKit Go.Proofs.YtfnlghjkjmppdaaW.PrintWords Go.Proofs.YtfnlghjkjmppdaaW.PrintLast Go.Proofs.YtfnlghjkjmppdaaW.PrintMore
set_option linter.unusedVariables false
set_option linter.unusedSimpArgs false
def kptr : Kd Addr := Kd.scalar (fun a : Addr => Value.pointer (some a)) (fun _ => rfl)
theorem info80 : (Try.prog.info? 80).map (fun i => (i.zero, i.size, i.bytes)) = some (some (.pointer none), 1, 8) := by kernel_rfl
set_option maxHeartbeats 3200000 in
set_option maxRecDepth 100000 in
theorem up_calls (base g : Nat) (F : Nat → Prop) (w : World) (day : Int) (G : List S39) (E : List S44) (AG : Option Addr) (cG : Nat) (AE : Option Addr) (cE b n : Nat) (h : BO base F w g day AG cG G AE cE E) (hT : Tree G) (hn : n ≤ G.length) (hA : 0 < G.length → AG = some ⟨b, 0, none⟩) :
    Calls Try.prog 60 #[.pointer (some ⟨g, 0, none⟩), .int .i64 n] w fun e w' => ∃ v, e = .returned v ∧ Kd.R kptr 80 w' w.heap.size (fun _ => True) v ((up G n).map (pt b)) ∧ Below w.heap.size w w' := by
  have hu70 := Try.underlying70
  have hu39 := Try.underlying39
  have HO := lhid h
  have HT := lhid hT
  have HA := lhid hA
  have HB0 := lhid (Below.refl w.heap.size w)
  have HR0 := lhid (Kd.R_nil kptr 80 w w.heap.size (fun _ => True))
  clear h hT hA
  go_enter Try.func60, Try.ntmps60
  go_wp2_with fail
  go_loopw [1, 5] (fun v o wr => ∃ m : Nat, ∃ ps : List Nat, m ≤ G.length ∧ v = .int .i64 m ∧ Hid (ps ++ up G m = up G n) ∧ Hid (ps.length + m ≤ 128) ∧ Hid (Kd.R kptr 80 wr w.heap.size (fun _ => True) o (ps.map (pt b))) ∧ Hid (Below w.heap.size w wr)) (fun v _ _ => (intOf v).toNat)
  case atStart => exact ⟨n, [], hn, rfl, lhid rfl, lhid (by have := HT.out.1; simp; omega), HR0, HB0⟩
  case round =>
    obtain ⟨m, ps, hm, rfl, HU, HL, HR, HB⟩ := hrel
    clear HR0 HB0
    obtain ⟨Ao, co, rfl⟩ := Kd.R_slice HR.out
    by_cases h0 : m = 0
    · subst h0
      go_wp2_with fail
      go_ret
      have hu := HU.out
      rw [up_zero, List.append_nil] at hu
      exact ⟨_, rfl, by rw [← hu]; exact HR.out, HB.out⟩
    · have hAe := HA.out (by omega)
      subst hAe
      have ht := HT.out.2 m (by omega) hm
      have ho := HO.out.next HB.out
      have hc2 := ho.c2
      obtain ⟨_, hc, _⟩ := HO.out.cells m (by omega) hm
      have hg128 := HT.out.1
      have hm1 : (0 : Int) ≤ (m : Int) - 1 := by omega
      have hm2 : (m : Int) - 1 < (G.length : Int) := by omega
      have hmn : ((m : Int) != 0) = true := bne_iff_ne.mpr (by omega)
      have HTm := lhid ht
      obtain ⟨a, hae⟩ : ∃ a : Nat, (gr G m).f1 = a := ⟨(gr G m).f1.toNat, by omega⟩
      rw [hae] at hc
      have HCW := lhid hc
      have HAE := lhid hae
      clear hc
      clear ht ho hae
      go_wp2_with (first | ((with_reducible refine gate_builtin (b := .append) (xs := #[.tmp 16, .tmp 18]) rfl ?_); at_builtin; refine Kd.R_append kptr (w0 := w) w.heap.size rfl (.tmp 16) (.tmp 18) 86 80 (.pointer none) 8 rfl Try.underlying86 info80 rfl (by decide) (by omega) (.slice Ao (ps.map (pt b)).length co) (ps.map (pt b)) (pt b m) [.pointer (some (pt b m))] (fun _ => True) (fun _ => False) rfl rfl ?aP (fun _ hk => hk.elim) ?aF ?aO ?aB ?aS ?aL ?_; (case aP => exact rfl); (case aF => exact fun _ _ => trivial); (case aO => exact HR.out); (case aB => exact HB.out); (case aS => exact HB.out.size); (case aL => have := HL.out; simp; omega); intro v5 w5 ho hb hg hat; obtain ⟨A5, c5, rfl⟩ := Kd.R_slice ho; have HR5 := lhid ho; have HB5 := lhid hb; have hc5 := pw_cell_below HB5.out HCW.out; clear ho hb hg hat))
      go_roundw
      case rel =>
        have hat := HAE.out
        have hlt := HTm.out
        refine ⟨a, ps ++ [m], by omega, rfl, lhid ?_, lhid ?_, lhid (by have q := HR5.out; rw [List.length_append, List.length_map] at q; rw [List.map_append]; exact q), HB5⟩
        · have hu := HU.out
          rw [up_succ HT.out (by omega) hm, hat, Int.toNat_natCast] at hu
          simpa using hu
        · have := HL.out
          simp
          omega
      case measure =>
        have hat := HAE.out
        have hlt := HTm.out
        simp [intOf]; omega
end Go.Proofs.Ytfnlghjkjmppdaa.PC
namespace Go.Proofs.Ytfnlghjkjmppdaa.PC
open Go.RowKit Go.Proofs.YtfnlghjkjmppdaaW.PrintWords Go.Proofs.YtfnlghjkjmppdaaW.PrintLast Go.Proofs.YtfnlghjkjmppdaaW.PrintMore
set_option linter.unusedVariables false
set_option linter.unusedSimpArgs false
theorem ptr_at {w : World} {A : Option Addr} {ps : List Addr} {n : Nat} (h : Kd.C kptr w A n ps) (i : Nat) (a : Addr) (ha : ps[i]? = some a) : ∃ ad, A = some ad ∧ w.cell? (ad.add i) = some (.pointer (some a)) := by
  have hi : i < ps.length := (List.getElem?_eq_some_iff.1 ha).1
  have hn : n = ps.length := h.1.symm
  obtain ⟨ad, c, e, _, hK, hc⟩ := Kd.C_get h (⟨0, 0, none⟩ : Addr) (i : Int) (by omega) (by omega)
  refine ⟨ad, e, ?_⟩
  have hK' : c = [Value.pointer (some (ps.getD (i : Int).toNat ⟨0, 0, none⟩))] := hK
  subst hK'
  have this : w.cell? (ad.add ((i : Int).toNat * 1 + 0)) = some (Value.pointer (some (ps.getD (i : Int).toNat ⟨0, 0, none⟩))) := hc 0 _ rfl
  rw [Int.toNat_natCast, List.getD_eq_getElem?_getD, ha] at this
  simpa using this
theorem Drawn0.then {a b c : World} (h : Drawn0 a b) (k : Drawn0 b c) : Drawn0 a c := by obtain ⟨⟨m, rfl⟩⟩ := k; exact h.step m
def Idx (ms : List Nat) (p : Nat → Bool) (e : Ending) : Prop := ∃ i : Int, e = .returned (.int .i64 i) ∧ decide (0 ≤ i) = ms.any p
theorem any_take {ms : List Nat} {p : Nat → Bool} {k : Nat} {m : Nat} (hm : ms[k]? = some m) (h : (ms.take k).any p = false) (hp : p m = false) : (ms.take (k + 1)).any p = false := by
  have hk : k < ms.length := (List.getElem?_eq_some_iff.1 hm).1
  have e := (List.getElem?_eq_some_iff.1 hm).2
  rw [List.take_succ_eq_append_getElem hk, List.any_append, h, e]; simp [hp]
theorem any_hit {ms : List Nat} {p : Nat → Bool} {k : Nat} {m : Nat} (hm : ms[k]? = some m) (hp : p m = true) : ms.any p = true := List.any_eq_true.2 ⟨m, List.mem_of_getElem? hm, hp⟩
theorem cl78_calls (w : World) (b o : Nat) (v : Bool) (h : w.cell? ⟨b, o + 8, none⟩ = some (.bool v)) : Calls Try.prog 78 #[.pointer (some ⟨b, o, none⟩)] w fun e w' => e = .returned (.bool (v)) ∧ w = w' := by
  have hu39 := Try.underlying39
  go_enter Try.func78, Try.ntmps78
  go_wp2
  go_ret
  exact ⟨rfl, rfl⟩
set_option maxHeartbeats 3200000 in
set_option maxRecDepth 100000 in
theorem index78_calls (w : World) (A : Option Addr) (c b : Nat) (ms : List Nat) (u : Nat → Bool) (hC : Kd.C kptr w A (ms.map (pt b)).length (ms.map (pt b))) (hc : (ms.map (pt b)).length ≤ c) (hl : ms.length ≤ 1000) (hu : ∀ m ∈ ms, w.cell? ⟨b, (m - 1) * 9 + 8, none⟩ = some (.bool (u m))) :
    Calls Try.prog 85 #[.slice A ms.length c, (.func (.func 78) #[] #[])] w fun e w' => Idx ms (fun m => u m) e ∧ Drawn0 w w' := by
  have hu39 := Try.underlying39
  have HC := lhid hC
  have HL := lhid hl
  have HU := lhid hu
  have HD0 := lhid (Drawn0.refl w)
  clear hC hc hl hu
  go_enter Try.func85, Try.ntmps85
  go_wp2_with fail
  go_loopw [8] (fun v wr => ∃ i : Nat, i ≤ ms.length ∧ v = .int .i64 i ∧ Hid ((ms.take i).any (fun m => u m) = false) ∧ Hid (Drawn0 w wr)) (fun v _ => ms.length - (intOf v).toNat)
  case atStart => exact ⟨0, Nat.zero_le _, rfl, lhid (by simp), HD0⟩
  case round =>
    obtain ⟨i, hi, rfl, HA, HD⟩ := hrel
    clear HD0
    obtain ⟨⟨nd, hq⟩⟩ := HD.out
    have hl2 := HL.out
    by_cases hlt : i < ms.length
    · obtain ⟨m, hm⟩ : ∃ m, ms[i]? = some m := ⟨_, List.getElem?_eq_getElem hlt⟩
      obtain ⟨ad, e, hx⟩ := ptr_at HC.out i (pt b m) (by rw [List.getElem?_map, hm]; rfl)
      cases e
      have hx2 : wr.cell? (ad.add i) = some (.pointer (some (pt b m))) := by rw [hq]; exact hx
      have hu2 : wr.cell? ⟨b, (m - 1) * 9 + 8, none⟩ = some (.bool (u m)) := by rw [hq]; exact HU.out m (List.mem_of_getElem? hm)
      skip
      have HM := lhid hm
      have hil : (i : Int) < (ms.length : Int) := by omega
      have hi0 : (0 : Int) ≤ (i : Int) := by omega
      unfold pt at hx2
      clear hx hq hm
      rcases Bool.eq_false_or_eq_true (u m) with huv | huv
      · have HP : Hid ((u m) = true) := lhid huv
        go_wp2_with fail
        (with_reducible refine (cl78_calls _ b ((m - 1) * 9) (u m) hu2).mono ?_); rintro e w' ⟨rfl, rfl⟩
        rw [HP.out]
        go_wp2_with fail
        go_ret
        exact ⟨⟨_, rfl, by rw [any_hit HM.out HP.out]; simp⟩, HD.out⟩
      · have HP : Hid ((u m) = false) := lhid huv
        go_wp2_with fail
        (with_reducible refine (cl78_calls _ b ((m - 1) * 9) (u m) hu2).mono ?_); rintro e w' ⟨rfl, rfl⟩
        rw [HP.out]
        go_wp2_with fail
        go_roundw
        case rel => exact ⟨i + 1, by omega, by go_num, lhid (any_take HM.out HA.out HP.out), lhid HD.out⟩
        case measure => simp [intOf]; omega
    · obtain rfl : i = ms.length := by omega
      clear hq
      go_wp2_with fail
      go_ret
      refine ⟨⟨_, rfl, ?_⟩, HD.out⟩
      have := HA.out
      rw [List.take_length] at this
      rw [this]; rfl
theorem cl63_calls (w : World) (b o : Nat) (v : Bool) (h : w.cell? ⟨b, o + 8, none⟩ = some (.bool v)) : Calls Try.prog 63 #[.pointer (some ⟨b, o, none⟩)] w fun e w' => e = .returned (.bool (v)) ∧ w = w' := by
  have hu39 := Try.underlying39
  go_enter Try.func63, Try.ntmps63
  go_wp2
  go_ret
  exact ⟨rfl, rfl⟩
set_option maxHeartbeats 3200000 in
set_option maxRecDepth 100000 in
theorem index63_calls (w : World) (A : Option Addr) (c b : Nat) (ms : List Nat) (u : Nat → Bool) (hC : Kd.C kptr w A (ms.map (pt b)).length (ms.map (pt b))) (hc : (ms.map (pt b)).length ≤ c) (hl : ms.length ≤ 1000) (hu : ∀ m ∈ ms, w.cell? ⟨b, (m - 1) * 9 + 8, none⟩ = some (.bool (u m))) :
    Calls Try.prog 85 #[.slice A ms.length c, (.func (.func 63) #[] #[])] w fun e w' => Idx ms (fun m => u m) e ∧ Drawn0 w w' := by
  have hu39 := Try.underlying39
  have HC := lhid hC
  have HL := lhid hl
  have HU := lhid hu
  have HD0 := lhid (Drawn0.refl w)
  clear hC hc hl hu
  go_enter Try.func85, Try.ntmps85
  go_wp2_with fail
  go_loopw [8] (fun v wr => ∃ i : Nat, i ≤ ms.length ∧ v = .int .i64 i ∧ Hid ((ms.take i).any (fun m => u m) = false) ∧ Hid (Drawn0 w wr)) (fun v _ => ms.length - (intOf v).toNat)
  case atStart => exact ⟨0, Nat.zero_le _, rfl, lhid (by simp), HD0⟩
  case round =>
    obtain ⟨i, hi, rfl, HA, HD⟩ := hrel
    clear HD0
    obtain ⟨⟨nd, hq⟩⟩ := HD.out
    have hl2 := HL.out
    by_cases hlt : i < ms.length
    · obtain ⟨m, hm⟩ : ∃ m, ms[i]? = some m := ⟨_, List.getElem?_eq_getElem hlt⟩
      obtain ⟨ad, e, hx⟩ := ptr_at HC.out i (pt b m) (by rw [List.getElem?_map, hm]; rfl)
      cases e
      have hx2 : wr.cell? (ad.add i) = some (.pointer (some (pt b m))) := by rw [hq]; exact hx
      have hu2 : wr.cell? ⟨b, (m - 1) * 9 + 8, none⟩ = some (.bool (u m)) := by rw [hq]; exact HU.out m (List.mem_of_getElem? hm)
      skip
      have HM := lhid hm
      have hil : (i : Int) < (ms.length : Int) := by omega
      have hi0 : (0 : Int) ≤ (i : Int) := by omega
      unfold pt at hx2
      clear hx hq hm
      rcases Bool.eq_false_or_eq_true (u m) with huv | huv
      · have HP : Hid ((u m) = true) := lhid huv
        go_wp2_with fail
        (with_reducible refine (cl63_calls _ b ((m - 1) * 9) (u m) hu2).mono ?_); rintro e w' ⟨rfl, rfl⟩
        rw [HP.out]
        go_wp2_with fail
        go_ret
        exact ⟨⟨_, rfl, by rw [any_hit HM.out HP.out]; simp⟩, HD.out⟩
      · have HP : Hid ((u m) = false) := lhid huv
        go_wp2_with fail
        (with_reducible refine (cl63_calls _ b ((m - 1) * 9) (u m) hu2).mono ?_); rintro e w' ⟨rfl, rfl⟩
        rw [HP.out]
        go_wp2_with fail
        go_roundw
        case rel => exact ⟨i + 1, by omega, by go_num, lhid (any_take HM.out HA.out HP.out), lhid HD.out⟩
        case measure => simp [intOf]; omega
    · obtain rfl : i = ms.length := by omega
      clear hq
      go_wp2_with fail
      go_ret
      refine ⟨⟨_, rfl, ?_⟩, HD.out⟩
      have := HA.out
      rw [List.take_length] at this
      rw [this]; rfl
theorem cl79_calls (w : World) (b o : Nat) (v : Int) (h : w.cell? ⟨b, o + 7, none⟩ = some (.int .i64 v)) : Calls Try.prog 79 #[.pointer (some ⟨b, o, none⟩)] w fun e w' => e = .returned (.bool (v == 0)) ∧ w = w' := by
  have hu39 := Try.underlying39
  go_enter Try.func79, Try.ntmps79
  go_wp2
  go_ret
  exact ⟨rfl, rfl⟩
set_option maxHeartbeats 3200000 in
set_option maxRecDepth 100000 in
theorem index79_calls (w : World) (A : Option Addr) (c b : Nat) (ms : List Nat) (u : Nat → Int) (hC : Kd.C kptr w A (ms.map (pt b)).length (ms.map (pt b))) (hc : (ms.map (pt b)).length ≤ c) (hl : ms.length ≤ 1000) (hu : ∀ m ∈ ms, w.cell? ⟨b, (m - 1) * 9 + 7, none⟩ = some (.int .i64 (u m))) :
    Calls Try.prog 85 #[.slice A ms.length c, (.func (.func 79) #[] #[])] w fun e w' => Idx ms (fun m => u m == 0) e ∧ Drawn0 w w' := by
  have hu39 := Try.underlying39
  have HC := lhid hC
  have HL := lhid hl
  have HU := lhid hu
  have HD0 := lhid (Drawn0.refl w)
  clear hC hc hl hu
  go_enter Try.func85, Try.ntmps85
  go_wp2_with fail
  go_loopw [8] (fun v wr => ∃ i : Nat, i ≤ ms.length ∧ v = .int .i64 i ∧ Hid ((ms.take i).any (fun m => u m == 0) = false) ∧ Hid (Drawn0 w wr)) (fun v _ => ms.length - (intOf v).toNat)
  case atStart => exact ⟨0, Nat.zero_le _, rfl, lhid (by simp), HD0⟩
  case round =>
    obtain ⟨i, hi, rfl, HA, HD⟩ := hrel
    clear HD0
    obtain ⟨⟨nd, hq⟩⟩ := HD.out
    have hl2 := HL.out
    by_cases hlt : i < ms.length
    · obtain ⟨m, hm⟩ : ∃ m, ms[i]? = some m := ⟨_, List.getElem?_eq_getElem hlt⟩
      obtain ⟨ad, e, hx⟩ := ptr_at HC.out i (pt b m) (by rw [List.getElem?_map, hm]; rfl)
      cases e
      have hx2 : wr.cell? (ad.add i) = some (.pointer (some (pt b m))) := by rw [hq]; exact hx
      have hu2 : wr.cell? ⟨b, (m - 1) * 9 + 7, none⟩ = some (.int .i64 (u m)) := by rw [hq]; exact HU.out m (List.mem_of_getElem? hm)
      skip
      have HM := lhid hm
      have hil : (i : Int) < (ms.length : Int) := by omega
      have hi0 : (0 : Int) ≤ (i : Int) := by omega
      unfold pt at hx2
      clear hx hq hm
      rcases Bool.eq_false_or_eq_true (u m == 0) with huv | huv
      · have HP : Hid ((u m == 0) = true) := lhid huv
        go_wp2_with fail
        (with_reducible refine (cl79_calls _ b ((m - 1) * 9) (u m) hu2).mono ?_); rintro e w' ⟨rfl, rfl⟩
        rw [HP.out]
        go_wp2_with fail
        go_ret
        exact ⟨⟨_, rfl, by rw [any_hit HM.out HP.out]; simp⟩, HD.out⟩
      · have HP : Hid ((u m == 0) = false) := lhid huv
        go_wp2_with fail
        (with_reducible refine (cl79_calls _ b ((m - 1) * 9) (u m) hu2).mono ?_); rintro e w' ⟨rfl, rfl⟩
        rw [HP.out]
        go_wp2_with fail
        go_roundw
        case rel => exact ⟨i + 1, by omega, by go_num, lhid (any_take HM.out HA.out HP.out), lhid HD.out⟩
        case measure => simp [intOf]; omega
    · obtain rfl : i = ms.length := by omega
      clear hq
      go_wp2_with fail
      go_ret
      refine ⟨⟨_, rfl, ?_⟩, HD.out⟩
      have := HA.out
      rw [List.take_length] at this
      rw [this]; rfl
theorem cl62_calls (w : World) (b o : Nat) (pb : Addr) (v by_ : Int) (h : w.cell? ⟨b, o + 3, none⟩ = some (.int .i64 v)) (hb : w.cell? pb = some (.int .i64 by_)) : Calls Try.prog 62 #[.pointer (some ⟨b, o, none⟩), .pointer (some pb)] w fun e w' => e = .returned (.bool (v == by_)) ∧ Drawn0 w w' := by
  have hu39 := Try.underlying39
  go_enter Try.func62, Try.ntmps62
  go_wp2
  go_quiet (fail)
  go_wp2
  go_ret
  exact ⟨rfl, ⟨⟨_, rfl⟩⟩⟩
set_option maxHeartbeats 3200000 in
set_option maxRecDepth 100000 in
theorem index62_calls (w : World) (A : Option Addr) (c b : Nat) (ms : List Nat) (u : Nat → Int) (pb : Addr) (by_ : Int) (hC : Kd.C kptr w A (ms.map (pt b)).length (ms.map (pt b))) (hc : (ms.map (pt b)).length ≤ c) (hl : ms.length ≤ 1000) (hu : ∀ m ∈ ms, w.cell? ⟨b, (m - 1) * 9 + 3, none⟩ = some (.int .i64 (u m))) (hpb : w.cell? pb = some (.int .i64 by_)) :
    Calls Try.prog 85 #[.slice A ms.length c, (.func (.func 62) #[] #[.pointer (some pb)])] w fun e w' => Idx ms (fun m => u m == by_) e ∧ Drawn0 w w' := by
  have hu39 := Try.underlying39
  have HC := lhid hC
  have HL := lhid hl
  have HU := lhid hu
  have HD0 := lhid (Drawn0.refl w)
  clear hC hc hl hu
  go_enter Try.func85, Try.ntmps85
  go_wp2_with fail
  go_loopw [8] (fun v wr => ∃ i : Nat, i ≤ ms.length ∧ v = .int .i64 i ∧ Hid ((ms.take i).any (fun m => u m == by_) = false) ∧ Hid (Drawn0 w wr)) (fun v _ => ms.length - (intOf v).toNat)
  case atStart => exact ⟨0, Nat.zero_le _, rfl, lhid (by simp), HD0⟩
  case round =>
    obtain ⟨i, hi, rfl, HA, HD⟩ := hrel
    clear HD0
    obtain ⟨⟨nd, hq⟩⟩ := HD.out
    have hl2 := HL.out
    by_cases hlt : i < ms.length
    · obtain ⟨m, hm⟩ : ∃ m, ms[i]? = some m := ⟨_, List.getElem?_eq_getElem hlt⟩
      obtain ⟨ad, e, hx⟩ := ptr_at HC.out i (pt b m) (by rw [List.getElem?_map, hm]; rfl)
      cases e
      have hx2 : wr.cell? (ad.add i) = some (.pointer (some (pt b m))) := by rw [hq]; exact hx
      have hu2 : wr.cell? ⟨b, (m - 1) * 9 + 3, none⟩ = some (.int .i64 (u m)) := by rw [hq]; exact HU.out m (List.mem_of_getElem? hm)
      have hpb2 : wr.cell? pb = some (.int .i64 by_) := by rw [hq]; exact hpb
      have HM := lhid hm
      have hil : (i : Int) < (ms.length : Int) := by omega
      have hi0 : (0 : Int) ≤ (i : Int) := by omega
      unfold pt at hx2
      clear hx hq hm
      rcases Bool.eq_false_or_eq_true (u m == by_) with huv | huv
      · have HP : Hid ((u m == by_) = true) := lhid huv
        go_wp2_with fail
        (with_reducible refine (cl62_calls _ b ((m - 1) * 9) pb (u m) by_ hu2 hpb2).mono ?_); rintro e w' ⟨rfl, hd⟩; have HD2 := lhid hd; clear hd
        rw [HP.out]
        go_wp2_with fail
        go_ret
        exact ⟨⟨_, rfl, by rw [any_hit HM.out HP.out]; simp⟩, (Drawn0.then HD.out HD2.out)⟩
      · have HP : Hid ((u m == by_) = false) := lhid huv
        go_wp2_with fail
        (with_reducible refine (cl62_calls _ b ((m - 1) * 9) pb (u m) by_ hu2 hpb2).mono ?_); rintro e w' ⟨rfl, hd⟩; have HD2 := lhid hd; clear hd
        rw [HP.out]
        go_wp2_with fail
        go_roundw
        case rel => exact ⟨i + 1, by omega, by go_num, lhid (any_take HM.out HA.out HP.out), lhid (Drawn0.then HD.out HD2.out)⟩
        case measure => simp [intOf]; omega
    · obtain rfl : i = ms.length := by omega
      clear hq
      go_wp2_with fail
      go_ret
      refine ⟨⟨_, rfl, ?_⟩, HD.out⟩
      have := HA.out
      rw [List.take_length] at this
      rw [this]; rfl
set_option maxHeartbeats 1600000 in
theorem has78_calls (w : World) (A : Option Addr) (c b : Nat) (ms : List Nat) (u : Nat → Bool) (hC : Kd.C kptr w A (ms.map (pt b)).length (ms.map (pt b))) (hc : (ms.map (pt b)).length ≤ c) (hl : ms.length ≤ 1000) (hu : ∀ m ∈ ms, w.cell? ⟨b, (m - 1) * 9 + 8, none⟩ = some (.bool (u m))) :
    Calls Try.prog 61 #[.slice A ms.length c, (.func (.func 78) #[] #[])] w fun e w' => e = .returned (.bool (ms.any (fun m => u m))) ∧ Drawn0 w w' := by
  have HI := lhid (index78_calls w A c b ms u hC hc hl hu)
  clear hC hc hu
  go_enter Try.func61, Try.ntmps61
  go_wp2_with fail
  (with_reducible refine HI.out.mono ?_)
  rintro e w' ⟨⟨i, rfl, hi⟩, hd⟩
  have HD := lhid hd
  have HII := lhid hi
  clear hd hi HI
  go_wp2_with fail
  go_ret
  refine ⟨?_, HD.out⟩
  rw [← HII.out]; rfl
set_option maxHeartbeats 1600000 in
theorem has63_calls (w : World) (A : Option Addr) (c b : Nat) (ms : List Nat) (u : Nat → Bool) (hC : Kd.C kptr w A (ms.map (pt b)).length (ms.map (pt b))) (hc : (ms.map (pt b)).length ≤ c) (hl : ms.length ≤ 1000) (hu : ∀ m ∈ ms, w.cell? ⟨b, (m - 1) * 9 + 8, none⟩ = some (.bool (u m))) :
    Calls Try.prog 61 #[.slice A ms.length c, (.func (.func 63) #[] #[])] w fun e w' => e = .returned (.bool (ms.any (fun m => u m))) ∧ Drawn0 w w' := by
  have HI := lhid (index63_calls w A c b ms u hC hc hl hu)
  clear hC hc hu
  go_enter Try.func61, Try.ntmps61
  go_wp2_with fail
  (with_reducible refine HI.out.mono ?_)
  rintro e w' ⟨⟨i, rfl, hi⟩, hd⟩
  have HD := lhid hd
  have HII := lhid hi
  clear hd hi HI
  go_wp2_with fail
  go_ret
  refine ⟨?_, HD.out⟩
  rw [← HII.out]; rfl
set_option maxHeartbeats 1600000 in
theorem has79_calls (w : World) (A : Option Addr) (c b : Nat) (ms : List Nat) (u : Nat → Int) (hC : Kd.C kptr w A (ms.map (pt b)).length (ms.map (pt b))) (hc : (ms.map (pt b)).length ≤ c) (hl : ms.length ≤ 1000) (hu : ∀ m ∈ ms, w.cell? ⟨b, (m - 1) * 9 + 7, none⟩ = some (.int .i64 (u m))) :
    Calls Try.prog 61 #[.slice A ms.length c, (.func (.func 79) #[] #[])] w fun e w' => e = .returned (.bool (ms.any (fun m => u m == 0))) ∧ Drawn0 w w' := by
  have HI := lhid (index79_calls w A c b ms u hC hc hl hu)
  clear hC hc hu
  go_enter Try.func61, Try.ntmps61
  go_wp2_with fail
  (with_reducible refine HI.out.mono ?_)
  rintro e w' ⟨⟨i, rfl, hi⟩, hd⟩
  have HD := lhid hd
  have HII := lhid hi
  clear hd hi HI
  go_wp2_with fail
  go_ret
  refine ⟨?_, HD.out⟩
  rw [← HII.out]; rfl
set_option maxHeartbeats 1600000 in
theorem has62_calls (w : World) (A : Option Addr) (c b : Nat) (ms : List Nat) (u : Nat → Int) (pb : Addr) (by_ : Int) (hC : Kd.C kptr w A (ms.map (pt b)).length (ms.map (pt b))) (hc : (ms.map (pt b)).length ≤ c) (hl : ms.length ≤ 1000) (hu : ∀ m ∈ ms, w.cell? ⟨b, (m - 1) * 9 + 3, none⟩ = some (.int .i64 (u m))) (hpb : w.cell? pb = some (.int .i64 by_)) :
    Calls Try.prog 61 #[.slice A ms.length c, (.func (.func 62) #[] #[.pointer (some pb)])] w fun e w' => e = .returned (.bool (ms.any (fun m => u m == by_))) ∧ Drawn0 w w' := by
  have HI := lhid (index62_calls w A c b ms u pb by_ hC hc hl hu hpb)
  clear hC hc hu
  go_enter Try.func61, Try.ntmps61
  go_wp2_with fail
  (with_reducible refine HI.out.mono ?_)
  rintro e w' ⟨⟨i, rfl, hi⟩, hd⟩
  have HD := lhid hd
  have HII := lhid hi
  clear hd hi HI
  go_wp2_with fail
  go_ret
  refine ⟨?_, HD.out⟩
  rw [← HII.out]; rfl
end Go.Proofs.Ytfnlghjkjmppdaa.PC
namespace Go.Proofs.Ytfnlghjkjmppdaa.PC
open Go.RowKit Go.Proofs.YtfnlghjkjmppdaaW.PrintWords Go.Proofs.YtfnlghjkjmppdaaW.PrintLast Go.Proofs.YtfnlghjkjmppdaaW.PrintMore
set_option linter.unusedVariables false
set_option linter.unusedSimpArgs false
def revB (G : List S39) (n : Nat) : Bool := (up G n).any fun m => (gr G m).f8
def stB (day : Int) (G : List S39) (n : Nat) : Bool := decide (day ≤ (gr G n).f6) && !revB G n
def spB (G : List S39) (n : Nat) : Bool := (up G n).any fun m => (gr G m).f7 == 0
set_option maxHeartbeats 3200000 in
set_option maxRecDepth 100000 in
theorem spent_calls (base g : Nat) (F : Nat → Prop) (w : World) (day : Int) (G : List S39) (E : List S44) (n : Int) (h : BK base F w g day G E) (hT : Tree G) (h1 : 1 ≤ n) (h2 : n ≤ G.length) :
    Calls Try.prog 51 #[.pointer (some ⟨g, 0, none⟩), .int .i64 n] w fun e w' => e = .returned (.bool (spB G n.toNat)) ∧ Below w.heap.size w w' := by
  have hu70 := Try.underlying70
  have hu39 := Try.underlying39
  obtain ⟨AG, cG, AE, cE, ho⟩ := h.opn
  obtain ⟨b, hA, hFb⟩ := ho.ad (by omega)
  subst hA
  have hl := hT.1
  obtain ⟨m, rfl⟩ : ∃ m : Nat, n = m := ⟨n.toNat, by omega⟩
  have hm1 : 1 ≤ m := by omega
  have hm2 : m ≤ G.length := by omega
  rw [Int.toNat_natCast]
  have hml := up_len hT m m (Nat.le_refl _) hm2
  have HT := lhid hT
  have HMM := lhid (fun q hq => up_mem hT m m (Nat.le_refl _) hm2 q hq)
  have HML := lhid (show (up G m).length ≤ 1000 by omega)
  have hn2 : (m : Int) - 1 < (G.length : Int) := by omega
  have hn1 : (0 : Int) ≤ (m : Int) - 1 := by omega
  clear h hT hml
  have HO_1 := lhid (ho)
  clear ho
  have HB_2 := lhid (Below.refl w.heap.size w)
  go_enter Try.func51, Try.ntmps51
  go_wp2_with fail
  with_reducible refine (up_calls base g F _ day G E (some ⟨b, 0, none⟩) cG AE cE b m HO_1.out HT.out hm2 (fun _ => rfl)).mono ?_
  rintro e w1 ⟨vu, rfl, hU, hb⟩
  have HU_3 := lhid (Kd.R_lower hU HB_2.out.size)
  clear hU
  have HO_4 := lhid (HO_1.out.next hb)
  have HB_5 := lhid (below_then HB_2.out HB_2.out.size hb)
  clear HO_1 HB_2 hb
  obtain ⟨Au, cu, rfl⟩ := Kd.R_slice HU_3.out
  obtain ⟨_, hcu, hCU⟩ := Kd.R_reads' HU_3.out
  have HCU := lhid hCU
  have HHU := lhid hcu
  clear hCU hcu
  rw [List.length_map]
  go_wp2_with fail
  (with_reducible refine (has79_calls _ Au cu b (up G m) (fun q => (gr G q).f7) HCU.out HHU.out HML.out (fun q hq => (HO_4.out.cells q (HMM.out q hq).1 (by have := (HMM.out q hq).2; omega)).2.2.2.2.2.2.2.1)).mono ?_)
  rintro e w9 ⟨rfl, nd, hq⟩
  have hb := pw_below_drewN (Below.refl w1.heap.size w1) nd
  rw [← hq] at hb
  clear hq
  have HO_6 := lhid (HO_4.out.next hb)
  have HB_7 := lhid (below_then HB_5.out HB_5.out.size hb)
  have HU_8 := lhid (Kd.R_below HU_3.out hb)
  have CU_9 := lhid (Kd.C_below HCU.out hb)
  clear HO_4 HB_5 HU_3 HCU hb
  go_wp2_with fail
  go_ret
  exact ⟨rfl, HB_7.out⟩
set_option maxHeartbeats 3200000 in
set_option maxRecDepth 100000 in
theorem stands_calls (base g : Nat) (F : Nat → Prop) (w : World) (day : Int) (G : List S39) (E : List S44) (n : Int) (h : BK base F w g day G E) (hT : Tree G) (h1 : 1 ≤ n) (h2 : n ≤ G.length) :
    Calls Try.prog 48 #[.pointer (some ⟨g, 0, none⟩), .int .i64 n] w fun e w' => e = .returned (.bool (stB day G n.toNat)) ∧ Below w.heap.size w w' := by
  have hu70 := Try.underlying70
  have hu39 := Try.underlying39
  obtain ⟨AG, cG, AE, cE, ho⟩ := h.opn
  obtain ⟨b, hA, hFb⟩ := ho.ad (by omega)
  subst hA
  have hl := hT.1
  obtain ⟨m, rfl⟩ : ∃ m : Nat, n = m := ⟨n.toNat, by omega⟩
  have hm1 : 1 ≤ m := by omega
  have hm2 : m ≤ G.length := by omega
  rw [Int.toNat_natCast]
  have hml := up_len hT m m (Nat.le_refl _) hm2
  have HT := lhid hT
  have HMM := lhid (fun q hq => up_mem hT m m (Nat.le_refl _) hm2 q hq)
  have HML := lhid (show (up G m).length ≤ 1000 by omega)
  have hn2 : (m : Int) - 1 < (G.length : Int) := by omega
  have hn1 : (0 : Int) ≤ (m : Int) - 1 := by omega
  clear h hT hml
  have HO_1 := lhid (ho)
  clear ho
  have HB_2 := lhid (Below.refl w.heap.size w)
  obtain ⟨u, hu⟩ : ∃ u, u = (gr G m).f6 := ⟨_, rfl⟩
  have HUE := lhid hu
  clear hu
  have hst : stB day G m = (decide (day ≤ u) && !revB G m) := by unfold stB; rw [HUE.out]
  rw [hst]
  clear hst
  go_enter Try.func48, Try.ntmps48
  go_wp2_with fail
  by_cases hd : day ≤ u
  · have hdd : decide (day ≤ u) = true := decide_eq_true hd
    have hwm : IntKind.i64.wrap ((m : Int) - 1) = (m : Int) - 1 := IntWalk.i64_in _ (by omega)
    have htn : ((m : Int) - 1).toNat = m - 1 := by omega
    have hb := below_drew1 (Below.refl w.heap.size w)
    have HO_3 := lhid (HO_1.out.next hb)
    have HB_4 := lhid (below_then HB_2.out HB_2.out.size hb)
    clear HO_1 HB_2 hb
    refine start_ (n := 22) (S := fun w' => w'.cell? ⟨g, 2, none⟩ = some (.slice (some ⟨b, 0, none⟩) G.length cG) ∧ w'.cell? ⟨b, (m - 1) * 9 + 6, none⟩ = some (.int .i64 u) ∧ w'.cell? ⟨g, 1, none⟩ = some (.int .i64 day)) (ds := []) #[false, false, false, false, false, false, false, false, false, false, false, false, false, false, false, false, false, false, false, false, false, false] (by kernel_rfl) rfl rfl ⟨HO_3.out.c2, (by rw [HUE.out]; exact (HO_3.out.cells m hm1 hm2).2.2.2.2.2.2.1), HO_3.out.c1⟩ (fun hHeld => ?_)
    generalize w.drew = w1 at HO_3 HB_4 hHeld ⊢
    refine pure_ (i := 0) (N := some 5) (v := ?_) (a' := ?_) #[true, false, false, false, false, false, false, false, false, false, false, false, false, false, false, false, false, false, false, false, false, false] rfl rfl (by kernel_rfl) (fun _ _ _ h => h) (Or.inl ⟨by rfl, ?_⟩) ?_ ?_
    rotate_left
    · intro w'
      go_simp
      with_reducible rfl
    rotate_left
    · simp only [Act.put, List.setIfInBounds_toArray, List.set_cons_zero, List.set_cons_succ, i64_w, i32_w]
      rfl
    refine pure_ (i := 1) (N := some 6) (v := ?_) (a' := ?_) #[true, true, false, false, false, false, false, false, false, false, false, false, false, false, false, false, false, false, false, false, false, false] rfl rfl (by kernel_rfl) (fun _ _ _ h => h) (Or.inl ⟨by rfl, ?_⟩) ?_ ?_
    rotate_left
    · intro w'
      go_simp
      with_reducible rfl
    rotate_left
    · simp only [Act.put, List.setIfInBounds_toArray, List.set_cons_zero, List.set_cons_succ, i64_w, i32_w]
      rfl
    refine pure_ (i := 2) (N := some 7) (v := ?_) (a' := ?_) #[true, true, true, false, false, false, false, false, false, false, false, false, false, false, false, false, false, false, false, false, false, false] rfl rfl (by kernel_rfl) (fun _ _ _ h => h) (Or.inl ⟨by rfl, ?_⟩) ?_ ?_
    rotate_left
    · intro w'
      go_simp
      with_reducible rfl
    rotate_left
    · simp only [Act.put, List.setIfInBounds_toArray, List.set_cons_zero, List.set_cons_succ, i64_w, i32_w]
      rfl
    refine pure_ (i := 4) (N := some 9) (v := ?_) (a' := ?_) #[true, true, true, false, true, false, false, false, false, false, false, false, false, false, false, false, false, false, false, false, false, false] rfl rfl (by kernel_rfl) (fun _ _ _ h => h) (Or.inl ⟨by rfl, ?_⟩) ?_ ?_
    rotate_left
    · intro w'
      go_simp
      with_reducible rfl
    rotate_left
    · simp only [Act.put, List.setIfInBounds_toArray, List.set_cons_zero, List.set_cons_succ, i64_w, i32_w]
      rfl
    refine pure_ (i := 5) (N := some 10) (v := ?_) (a' := ?_) #[true, true, true, false, true, true, false, false, false, false, false, false, false, false, false, false, false, false, false, false, false, false] rfl rfl (by kernel_rfl) (fun _ _ _ h => h) (Or.inl ⟨by rfl, ?_⟩) ?_ ?_
    rotate_left
    · intro w'
      go_simp
      with_reducible rfl
    rotate_left
    · simp only [Act.put, List.setIfInBounds_toArray, List.set_cons_zero, List.set_cons_succ, i64_w, i32_w]
      rfl
    refine pure_ (i := 9) (N := some 14) (v := ?_) (a' := ?_) #[true, true, true, false, true, true, false, false, false, true, false, false, false, false, false, false, false, false, false, false, false, false] rfl rfl (by kernel_rfl) (fun _ _ _ h => h) (Or.inl ⟨by rfl, ?_⟩) ?_ ?_
    rotate_left
    · intro w'
      go_simp
      with_reducible rfl
    rotate_left
    · simp only [Act.put, List.setIfInBounds_toArray, List.set_cons_zero, List.set_cons_succ, i64_w, i32_w]
      rfl
    refine pure_ (i := 10) (N := some 15) (v := ?_) (a' := ?_) #[true, true, true, false, true, true, false, false, false, true, true, false, false, false, false, false, false, false, false, false, false, false] rfl rfl (by kernel_rfl) (fun _ _ _ h => h) (Or.inl ⟨by rfl, ?_⟩) ?_ ?_
    rotate_left
    · intro w'
      go_simp
      with_reducible rfl
    rotate_left
    · simp only [Act.put, List.setIfInBounds_toArray, List.set_cons_zero, List.set_cons_succ, i64_w, i32_w]
      rfl
    refine pure_ (i := 11) (N := some 16) (v := ?_) (a' := ?_) #[true, true, true, false, true, true, false, false, false, true, true, true, false, false, false, false, false, false, false, false, false, false] rfl rfl (by kernel_rfl) (fun _ _ _ h => h) (Or.inl ⟨by rfl, ?_⟩) ?_ ?_
    rotate_left
    · intro w'
      go_simp
      with_reducible rfl
    rotate_left
    · simp only [Act.put, List.setIfInBounds_toArray, List.set_cons_zero, List.set_cons_succ, i64_w, i32_w]
      rfl
    refine take_ (i := 3) (N := some 8) (v := ?_) (a' := ?_) #[true, true, true, true, true, true, false, false, false, true, true, true, false, false, false, false, false, false, false, false, false, false] rfl rfl (by kernel_rfl) (fun _ _ _ h => h) (Or.inl ⟨by rfl, ?_⟩) hHeld ?_ ?_
    rotate_left
    · rintro w' ⟨s0, s1, s2⟩
      go_simp
      with_reducible rfl
    rotate_left
    · simp only [Act.put, List.setIfInBounds_toArray, List.set_cons_zero, List.set_cons_succ, i64_w, i32_w]
      rfl
    refine pure_ (i := 6) (N := some 11) (v := ?_) (a' := ?_) #[true, true, true, true, true, true, true, false, false, true, true, true, false, false, false, false, false, false, false, false, false, false] rfl rfl (by kernel_rfl) (fun _ _ _ h => h) (Or.inl ⟨by rfl, ?_⟩) ?_ ?_
    rotate_left
    · intro w'
      go_simp
      with_reducible rfl
    rotate_left
    · simp only [Act.put, List.setIfInBounds_toArray, List.set_cons_zero, List.set_cons_succ, i64_w, i32_w]
      rfl
    refine pure_ (i := 7) (N := some 12) (v := ?_) (a' := ?_) #[true, true, true, true, true, true, true, true, false, true, true, true, false, false, false, false, false, false, false, false, false, false] rfl rfl (by kernel_rfl) (fun _ _ _ h => h) (Or.inl ⟨by rfl, ?_⟩) ?_ ?_
    rotate_left
    · intro w'
      go_simp
      with_reducible rfl
    rotate_left
    · simp only [Act.put, List.setIfInBounds_toArray, List.set_cons_zero, List.set_cons_succ, i64_w, i32_w]
      rfl
    refine take_ (i := 8) (N := some 13) (v := ?_) (a' := ?_) #[true, true, true, true, true, true, true, true, true, true, true, true, false, false, false, false, false, false, false, false, false, false] rfl rfl (by kernel_rfl) (fun _ _ _ h => h) (Or.inl ⟨by rfl, ?_⟩) hHeld ?_ ?_
    rotate_left
    · rintro w' ⟨s0, s1, s2⟩
      go_simp
      with_reducible rfl
    rotate_left
    · simp only [Act.put, List.setIfInBounds_toArray, List.set_cons_zero, List.set_cons_succ, i64_w, i32_w]
      rfl
    refine take_ (i := 12) (N := some 17) (v := ?_) (a' := ?_) #[true, true, true, true, true, true, true, true, true, true, true, true, true, false, false, false, false, false, false, false, false, false] rfl rfl (by kernel_rfl) (fun _ _ _ h => h) (Or.inl ⟨by rfl, ?_⟩) hHeld ?_ ?_
    rotate_left
    · rintro w' ⟨s0, s1, s2⟩
      go_simp
      with_reducible rfl
    rotate_left
    · simp only [Act.put, List.setIfInBounds_toArray, List.set_cons_zero, List.set_cons_succ, i64_w, i32_w]
      rfl
    refine pure_ (i := 13) (N := some 18) (v := ?_) (a' := ?_) #[true, true, true, true, true, true, true, true, true, true, true, true, true, true, false, false, false, false, false, false, false, false] rfl rfl (by kernel_rfl) (fun _ _ _ h => h) (Or.inl ⟨by rfl, ?_⟩) ?_ ?_
    rotate_left
    · intro w'
      go_simp
      with_reducible rfl
    rotate_left
    · simp only [Act.put, List.setIfInBounds_toArray, List.set_cons_zero, List.set_cons_succ, i64_w, i32_w]
      rfl
    refine pure_ (i := 14) (N := some 19) (v := ?_) (a' := ?_) #[true, true, true, true, true, true, true, true, true, true, true, true, true, true, true, false, false, false, false, false, false, false] rfl rfl (by kernel_rfl) (fun _ _ _ h => h) (Or.inl ⟨by rfl, ?_⟩) ?_ ?_
    rotate_left
    · intro w'
      go_simp
      with_reducible rfl
    rotate_left
    · simp only [Act.put, List.setIfInBounds_toArray, List.set_cons_zero, List.set_cons_succ, i64_w, i32_w]
      rfl
    refine pure_ (i := 15) (N := some 20) (v := ?_) (a' := ?_) #[true, true, true, true, true, true, true, true, true, true, true, true, true, true, true, true, false, false, false, false, false, false] rfl rfl (by kernel_rfl) (fun _ _ _ h => h) (Or.inl ⟨by rfl, ?_⟩) ?_ ?_
    rotate_left
    · intro w'
      go_simp
      with_reducible rfl
    rotate_left
    · simp only [Act.put, List.setIfInBounds_toArray, List.set_cons_zero, List.set_cons_succ, i64_w, i32_w]
      rfl
    refine pure_ (i := 16) (N := some 21) (v := ?_) (a' := ?_) #[true, true, true, true, true, true, true, true, true, true, true, true, true, true, true, true, true, false, false, false, false, false] rfl rfl (by kernel_rfl) (fun _ _ _ h => h) (Or.inl ⟨by rfl, ?_⟩) ?_ ?_
    rotate_left
    · intro w'
      go_simp
      with_reducible rfl
    rotate_left
    · simp only [Act.put, List.setIfInBounds_toArray, List.set_cons_zero, List.set_cons_succ, i64_w, i32_w]
      rfl
    refine one_ (i := 17) (N := some 22) #[true, true, true, true, true, true, true, true, true, true, true, true, true, true, true, true, true, true, false, false, false, false] rfl rfl (by kernel_rfl) (by decide) (fun K hK => ?_)
    refine goes_ Try.func60 (by kernel_rfl) rfl #[.pointer (some ⟨g, 0, none⟩), .int .i64 m] (by rfl) rfl rfl (by (try simp only [List.map_toArray, List.map_cons, List.map_nil]); first | done | rfl) ?_
    with_reducible refine (up_calls base g F _ day G E (some ⟨b, 0, none⟩) cG AE cE b m HO_3.out HT.out hm2 (fun _ => rfl)).mono ?_
    rintro e w2 ⟨vu, rfl, hU, hb⟩
    refine ⟨_, rfl, ?_⟩
    have HU_5 := lhid (Kd.R_lower hU HB_4.out.size)
    clear hU
    have HO_6 := lhid (HO_3.out.next hb)
    have HB_7 := lhid (below_then HB_4.out HB_4.out.size hb)
    clear HO_3 HB_4 hb
    obtain ⟨Au, cu, rfl⟩ := Kd.R_slice HU_5.out
    obtain ⟨_, hcu, hCU⟩ := Kd.R_reads' HU_5.out
    have HCU := lhid hCU
    have HHU := lhid hcu
    clear hCU hcu
    rw [List.length_map]
    refine hK.out _ _ ⟨HO_6.out.c2, (by rw [HUE.out]; exact (HO_6.out.cells m hm1 hm2).2.2.2.2.2.2.1), HO_6.out.c1⟩ (fun hHeld => ?_)
    clear hK K
    refine norm_ (a' := ?_) ?_ ?_
    rotate_left
    · show Act.put _ (some 22) _ = _
      simp only [Act.put, List.setIfInBounds_toArray, List.set_cons_zero, List.set_cons_succ, i64_w, i32_w]
      rfl
    refine one_ (i := 18) (N := some 23) #[true, true, true, true, true, true, true, true, true, true, true, true, true, true, true, true, true, true, true, false, false, false] rfl rfl (by kernel_rfl) (by decide) (fun K hK => ?_)
    refine goes_ Try.func61 (by kernel_rfl) rfl #[.slice Au (up G m).length cu, .func (.func 78) #[] #[]] (by rfl) rfl rfl (by (try simp only [List.map_toArray, List.map_cons, List.map_nil]); first | done | rfl) ?_
    with_reducible refine (has78_calls _ Au cu b (up G m) (fun q => (gr G q).f8) HCU.out HHU.out HML.out (fun q hq => (HO_6.out.cells q (HMM.out q hq).1 (by have := (HMM.out q hq).2; omega)).2.2.2.2.2.2.2.2)).mono ?_
    rintro e w3 ⟨rfl, nd, hq⟩
    refine ⟨_, rfl, ?_⟩
    have hb := pw_below_drewN (Below.refl w2.heap.size w2) nd
    rw [← hq] at hb
    clear hq
    have HO_8 := lhid (HO_6.out.next hb)
    have HB_9 := lhid (below_then HB_7.out HB_7.out.size hb)
    have HU_10 := lhid (Kd.R_below HU_5.out hb)
    have CU_11 := lhid (Kd.C_below HCU.out hb)
    clear HO_6 HB_7 HU_5 HCU hb
    refine hK.out _ _ ⟨HO_8.out.c2, (by rw [HUE.out]; exact (HO_8.out.cells m hm1 hm2).2.2.2.2.2.2.1), HO_8.out.c1⟩ (fun hHeld => ?_)
    clear hK K
    refine norm_ (a' := ?_) ?_ ?_
    rotate_left
    · show Act.put _ (some 23) _ = _
      simp only [Act.put, List.setIfInBounds_toArray, List.set_cons_zero, List.set_cons_succ, i64_w, i32_w]
      rfl
    refine pure_ (i := 19) (N := some 24) (v := ?_) (a' := ?_) #[true, true, true, true, true, true, true, true, true, true, true, true, true, true, true, true, true, true, true, true, false, false] rfl rfl (by kernel_rfl) (fun _ _ _ h => h) (Or.inl ⟨by rfl, ?_⟩) ?_ ?_
    rotate_left
    · intro w'
      go_simp
      with_reducible rfl
    rotate_left
    · simp only [Act.put, List.setIfInBounds_toArray, List.set_cons_zero, List.set_cons_succ, i64_w, i32_w]
      rfl
    refine pure_ (i := 20) (N := some 25) (v := ?_) (a' := ?_) #[true, true, true, true, true, true, true, true, true, true, true, true, true, true, true, true, true, true, true, true, true, false] rfl rfl (by kernel_rfl) (fun _ _ _ h => h) (Or.inl ⟨by rfl, ?_⟩) ?_ ?_
    rotate_left
    · intro w'
      go_simp
      with_reducible rfl
    rotate_left
    · simp only [Act.put, List.setIfInBounds_toArray, List.set_cons_zero, List.set_cons_succ, i64_w, i32_w]
      rfl
    refine pure_ (i := 21) (N := some 4) (v := ?_) (a' := ?_) #[true, true, true, true, true, true, true, true, true, true, true, true, true, true, true, true, true, true, true, true, true, true] rfl rfl (by kernel_rfl) (fun _ _ _ h => h) (Or.inl ⟨by rfl, ?_⟩) ?_ ?_
    rotate_left
    · intro w'
      go_simp
      with_reducible rfl
    rotate_left
    · simp only [Act.put, List.setIfInBounds_toArray, List.set_cons_zero, List.set_cons_succ, i64_w, i32_w]
      rfl
    refine done_ (by kernel_rfl) ?_
    
    go_wp2_with fail
    go_ret
    exact ⟨rfl, HB_9.out⟩
  · have hdd : decide (day ≤ u) = false := decide_eq_false hd
    have hwm : IntKind.i64.wrap ((m : Int) - 1) = (m : Int) - 1 := IntWalk.i64_in _ (by omega)
    have htn : ((m : Int) - 1).toNat = m - 1 := by omega
    have hb := below_drew1 (Below.refl w.heap.size w)
    have HO_12 := lhid (HO_1.out.next hb)
    have HB_13 := lhid (below_then HB_2.out HB_2.out.size hb)
    clear HO_1 HB_2 hb
    refine start_ (n := 22) (S := fun w' => w'.cell? ⟨g, 2, none⟩ = some (.slice (some ⟨b, 0, none⟩) G.length cG) ∧ w'.cell? ⟨b, (m - 1) * 9 + 6, none⟩ = some (.int .i64 u) ∧ w'.cell? ⟨g, 1, none⟩ = some (.int .i64 day)) (ds := []) #[false, false, false, false, false, false, false, false, false, false, false, false, false, false, false, false, false, false, false, false, false, false] (by kernel_rfl) rfl rfl ⟨HO_12.out.c2, (by rw [HUE.out]; exact (HO_12.out.cells m hm1 hm2).2.2.2.2.2.2.1), HO_12.out.c1⟩ (fun hHeld => ?_)
    generalize w.drew = w1 at HO_12 HB_13 hHeld ⊢
    refine pure_ (i := 0) (N := some 5) (v := ?_) (a' := ?_) #[true, false, false, false, false, false, false, false, false, false, false, false, false, false, false, false, false, false, false, false, false, false] rfl rfl (by kernel_rfl) (fun _ _ _ h => h) (Or.inl ⟨by rfl, ?_⟩) ?_ ?_
    rotate_left
    · intro w'
      go_simp
      with_reducible rfl
    rotate_left
    · simp only [Act.put, List.setIfInBounds_toArray, List.set_cons_zero, List.set_cons_succ, i64_w, i32_w]
      rfl
    refine pure_ (i := 1) (N := some 6) (v := ?_) (a' := ?_) #[true, true, false, false, false, false, false, false, false, false, false, false, false, false, false, false, false, false, false, false, false, false] rfl rfl (by kernel_rfl) (fun _ _ _ h => h) (Or.inl ⟨by rfl, ?_⟩) ?_ ?_
    rotate_left
    · intro w'
      go_simp
      with_reducible rfl
    rotate_left
    · simp only [Act.put, List.setIfInBounds_toArray, List.set_cons_zero, List.set_cons_succ, i64_w, i32_w]
      rfl
    refine pure_ (i := 2) (N := some 7) (v := ?_) (a' := ?_) #[true, true, true, false, false, false, false, false, false, false, false, false, false, false, false, false, false, false, false, false, false, false] rfl rfl (by kernel_rfl) (fun _ _ _ h => h) (Or.inl ⟨by rfl, ?_⟩) ?_ ?_
    rotate_left
    · intro w'
      go_simp
      with_reducible rfl
    rotate_left
    · simp only [Act.put, List.setIfInBounds_toArray, List.set_cons_zero, List.set_cons_succ, i64_w, i32_w]
      rfl
    refine pure_ (i := 4) (N := some 9) (v := ?_) (a' := ?_) #[true, true, true, false, true, false, false, false, false, false, false, false, false, false, false, false, false, false, false, false, false, false] rfl rfl (by kernel_rfl) (fun _ _ _ h => h) (Or.inl ⟨by rfl, ?_⟩) ?_ ?_
    rotate_left
    · intro w'
      go_simp
      with_reducible rfl
    rotate_left
    · simp only [Act.put, List.setIfInBounds_toArray, List.set_cons_zero, List.set_cons_succ, i64_w, i32_w]
      rfl
    refine pure_ (i := 5) (N := some 10) (v := ?_) (a' := ?_) #[true, true, true, false, true, true, false, false, false, false, false, false, false, false, false, false, false, false, false, false, false, false] rfl rfl (by kernel_rfl) (fun _ _ _ h => h) (Or.inl ⟨by rfl, ?_⟩) ?_ ?_
    rotate_left
    · intro w'
      go_simp
      with_reducible rfl
    rotate_left
    · simp only [Act.put, List.setIfInBounds_toArray, List.set_cons_zero, List.set_cons_succ, i64_w, i32_w]
      rfl
    refine pure_ (i := 9) (N := some 14) (v := ?_) (a' := ?_) #[true, true, true, false, true, true, false, false, false, true, false, false, false, false, false, false, false, false, false, false, false, false] rfl rfl (by kernel_rfl) (fun _ _ _ h => h) (Or.inl ⟨by rfl, ?_⟩) ?_ ?_
    rotate_left
    · intro w'
      go_simp
      with_reducible rfl
    rotate_left
    · simp only [Act.put, List.setIfInBounds_toArray, List.set_cons_zero, List.set_cons_succ, i64_w, i32_w]
      rfl
    refine pure_ (i := 10) (N := some 15) (v := ?_) (a' := ?_) #[true, true, true, false, true, true, false, false, false, true, true, false, false, false, false, false, false, false, false, false, false, false] rfl rfl (by kernel_rfl) (fun _ _ _ h => h) (Or.inl ⟨by rfl, ?_⟩) ?_ ?_
    rotate_left
    · intro w'
      go_simp
      with_reducible rfl
    rotate_left
    · simp only [Act.put, List.setIfInBounds_toArray, List.set_cons_zero, List.set_cons_succ, i64_w, i32_w]
      rfl
    refine pure_ (i := 11) (N := some 16) (v := ?_) (a' := ?_) #[true, true, true, false, true, true, false, false, false, true, true, true, false, false, false, false, false, false, false, false, false, false] rfl rfl (by kernel_rfl) (fun _ _ _ h => h) (Or.inl ⟨by rfl, ?_⟩) ?_ ?_
    rotate_left
    · intro w'
      go_simp
      with_reducible rfl
    rotate_left
    · simp only [Act.put, List.setIfInBounds_toArray, List.set_cons_zero, List.set_cons_succ, i64_w, i32_w]
      rfl
    refine take_ (i := 3) (N := some 8) (v := ?_) (a' := ?_) #[true, true, true, true, true, true, false, false, false, true, true, true, false, false, false, false, false, false, false, false, false, false] rfl rfl (by kernel_rfl) (fun _ _ _ h => h) (Or.inl ⟨by rfl, ?_⟩) hHeld ?_ ?_
    rotate_left
    · rintro w' ⟨s0, s1, s2⟩
      go_simp
      with_reducible rfl
    rotate_left
    · simp only [Act.put, List.setIfInBounds_toArray, List.set_cons_zero, List.set_cons_succ, i64_w, i32_w]
      rfl
    refine pure_ (i := 6) (N := some 11) (v := ?_) (a' := ?_) #[true, true, true, true, true, true, true, false, false, true, true, true, false, false, false, false, false, false, false, false, false, false] rfl rfl (by kernel_rfl) (fun _ _ _ h => h) (Or.inl ⟨by rfl, ?_⟩) ?_ ?_
    rotate_left
    · intro w'
      go_simp
      with_reducible rfl
    rotate_left
    · simp only [Act.put, List.setIfInBounds_toArray, List.set_cons_zero, List.set_cons_succ, i64_w, i32_w]
      rfl
    refine pure_ (i := 7) (N := some 12) (v := ?_) (a' := ?_) #[true, true, true, true, true, true, true, true, false, true, true, true, false, false, false, false, false, false, false, false, false, false] rfl rfl (by kernel_rfl) (fun _ _ _ h => h) (Or.inl ⟨by rfl, ?_⟩) ?_ ?_
    rotate_left
    · intro w'
      go_simp
      with_reducible rfl
    rotate_left
    · simp only [Act.put, List.setIfInBounds_toArray, List.set_cons_zero, List.set_cons_succ, i64_w, i32_w]
      rfl
    refine take_ (i := 8) (N := some 13) (v := ?_) (a' := ?_) #[true, true, true, true, true, true, true, true, true, true, true, true, false, false, false, false, false, false, false, false, false, false] rfl rfl (by kernel_rfl) (fun _ _ _ h => h) (Or.inl ⟨by rfl, ?_⟩) hHeld ?_ ?_
    rotate_left
    · rintro w' ⟨s0, s1, s2⟩
      go_simp
      with_reducible rfl
    rotate_left
    · simp only [Act.put, List.setIfInBounds_toArray, List.set_cons_zero, List.set_cons_succ, i64_w, i32_w]
      rfl
    refine take_ (i := 12) (N := some 17) (v := ?_) (a' := ?_) #[true, true, true, true, true, true, true, true, true, true, true, true, true, false, false, false, false, false, false, false, false, false] rfl rfl (by kernel_rfl) (fun _ _ _ h => h) (Or.inl ⟨by rfl, ?_⟩) hHeld ?_ ?_
    rotate_left
    · rintro w' ⟨s0, s1, s2⟩
      go_simp
      with_reducible rfl
    rotate_left
    · simp only [Act.put, List.setIfInBounds_toArray, List.set_cons_zero, List.set_cons_succ, i64_w, i32_w]
      rfl
    refine pure_ (i := 13) (N := some 18) (v := ?_) (a' := ?_) #[true, true, true, true, true, true, true, true, true, true, true, true, true, true, false, false, false, false, false, false, false, false] rfl rfl (by kernel_rfl) (fun _ _ _ h => h) (Or.inl ⟨by rfl, ?_⟩) ?_ ?_
    rotate_left
    · intro w'
      go_simp
      with_reducible rfl
    rotate_left
    · simp only [Act.put, List.setIfInBounds_toArray, List.set_cons_zero, List.set_cons_succ, i64_w, i32_w]
      rfl
    refine pure_ (i := 14) (N := some 19) (v := ?_) (a' := ?_) #[true, true, true, true, true, true, true, true, true, true, true, true, true, true, true, false, false, false, false, false, false, false] rfl rfl (by kernel_rfl) (fun _ _ _ h => h) (Or.inl ⟨by rfl, ?_⟩) ?_ ?_
    rotate_left
    · intro w'
      go_simp
      with_reducible rfl
    rotate_left
    · simp only [Act.put, List.setIfInBounds_toArray, List.set_cons_zero, List.set_cons_succ, i64_w, i32_w]
      rfl
    refine pure_ (i := 15) (N := some 20) (v := undef) (a' := ?_) #[true, true, true, true, true, true, true, true, true, true, true, true, true, true, true, true, false, false, false, false, false, false] rfl rfl (by kernel_rfl) (fun _ _ _ h => h) (Or.inr ⟨by rfl, rfl⟩) ?_ ?_
    rotate_left
    · simp only [Act.put, List.setIfInBounds_toArray, List.set_cons_zero, List.set_cons_succ, i64_w, i32_w]
      rfl
    refine pure_ (i := 16) (N := some 21) (v := undef) (a' := ?_) #[true, true, true, true, true, true, true, true, true, true, true, true, true, true, true, true, true, false, false, false, false, false] rfl rfl (by kernel_rfl) (fun _ _ _ h => h) (Or.inr ⟨by rfl, rfl⟩) ?_ ?_
    rotate_left
    · simp only [Act.put, List.setIfInBounds_toArray, List.set_cons_zero, List.set_cons_succ, i64_w, i32_w]
      rfl
    refine pure_ (i := 17) (N := some 22) (v := undef) (a' := ?_) #[true, true, true, true, true, true, true, true, true, true, true, true, true, true, true, true, true, true, false, false, false, false] rfl rfl (by kernel_rfl) (fun _ _ _ h => h) (Or.inr ⟨by rfl, rfl⟩) ?_ ?_
    rotate_left
    · simp only [Act.put, List.setIfInBounds_toArray, List.set_cons_zero, List.set_cons_succ, i64_w, i32_w]
      rfl
    refine pure_ (i := 18) (N := some 23) (v := undef) (a' := ?_) #[true, true, true, true, true, true, true, true, true, true, true, true, true, true, true, true, true, true, true, false, false, false] rfl rfl (by kernel_rfl) (fun _ _ _ h => h) (Or.inr ⟨by rfl, rfl⟩) ?_ ?_
    rotate_left
    · simp only [Act.put, List.setIfInBounds_toArray, List.set_cons_zero, List.set_cons_succ, i64_w, i32_w]
      rfl
    refine pure_ (i := 19) (N := some 24) (v := undef) (a' := ?_) #[true, true, true, true, true, true, true, true, true, true, true, true, true, true, true, true, true, true, true, true, false, false] rfl rfl (by kernel_rfl) (fun _ _ _ h => h) (Or.inr ⟨by rfl, rfl⟩) ?_ ?_
    rotate_left
    · simp only [Act.put, List.setIfInBounds_toArray, List.set_cons_zero, List.set_cons_succ, i64_w, i32_w]
      rfl
    refine pure_ (i := 20) (N := some 25) (v := ?_) (a' := ?_) #[true, true, true, true, true, true, true, true, true, true, true, true, true, true, true, true, true, true, true, true, true, false] rfl rfl (by kernel_rfl) (fun _ _ _ h => h) (Or.inl ⟨by rfl, ?_⟩) ?_ ?_
    rotate_left
    · intro w'
      go_simp
      with_reducible rfl
    rotate_left
    · simp only [Act.put, List.setIfInBounds_toArray, List.set_cons_zero, List.set_cons_succ, i64_w, i32_w]
      rfl
    refine pure_ (i := 21) (N := some 4) (v := ?_) (a' := ?_) #[true, true, true, true, true, true, true, true, true, true, true, true, true, true, true, true, true, true, true, true, true, true] rfl rfl (by kernel_rfl) (fun _ _ _ h => h) (Or.inl ⟨by rfl, ?_⟩) ?_ ?_
    rotate_left
    · intro w'
      go_simp
      with_reducible rfl
    rotate_left
    · simp only [Act.put, List.setIfInBounds_toArray, List.set_cons_zero, List.set_cons_succ, i64_w, i32_w]
      rfl
    refine done_ (by kernel_rfl) ?_
    
    go_wp2_with fail
    go_ret
    exact ⟨rfl, HB_13.out⟩
end Go.Proofs.Ytfnlghjkjmppdaa.PC
end
