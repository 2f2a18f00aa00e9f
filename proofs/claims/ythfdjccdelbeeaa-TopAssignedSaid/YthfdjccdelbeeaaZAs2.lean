/-
  The texts that the theorem in YthfdjccdelbeeaaZRowAs rests on, merged (part 3); only what it reaches.
-/
import Derived.Test.YthfdjccdelbeeaaProg
import Derived.Below
import Derived.Deep.Draws
import Derived.Deep.AppendLies
import Derived.Maps.AppendAt
import Derived.OwnWalk
import Derived.Laws.BytesArg
import Derived.Laws.MakeOwn
import Derived.Laws.OwnMore
import Derived.Deep.OwnRows
import Derived.Tactics
import Derived.Lib.ConvBytes
import Derived.Laws.Slices
import Derived.WalkKit
import Derived.KernelRfl
import Derived.RowKit3
import Derived.Deep.LoopGhost
import Derived.Deep.QuietTactic
import Derived.BigQuiet
import Derived.WideLaws
import Derived.Deep.DeepCutAuto
import Derived.Deep.CutBlock
import Derived.Deep.RegionHeld3
import Derived.Laws.Rows
import Derived.Lib.AppendStr
import Derived.ArgAppend
import Derived.Laws.IdiomCopy
import Derived.OrdersHeld
import Derived.Laws.BitsLemmas
import Derived.RowKit
import Derived.Laws.BitsAllLaws
import Derived.StillTailTactics
import Derived.Laws.EntriesVeiled
import Derived.Deep.Slices
import Derived.ProofKit
import Derived.WalkSmall
import Derived.Deep.MidRow
import Derived.Test.YthfdjccdelbeeaaZAs0
import Derived.Test.YthfdjccdelbeeaaZAs1
section
namespace Go.Proofs.Ythfdjccdelbeeaa.PT
open Go.RowKit Go.Proofs.YthfdjccdelbeeaaW.PrintWords Go.Proofs.YthfdjccdelbeeaaW.PrintLast Go.Proofs.YthfdjccdelbeeaaW.PrintMore
attribute [local go_sem] max2_int min2_int max_two min_two max_three min_three max_four min_four   -- for this text's walks alone
set_option linter.unusedVariables false
set_option linter.unusedSimpArgs false
def errW : Option Int → Value
  | none => .nilIface
  | some c => .iface 0 (.int .i64 c)
theorem errW_none : errW none = .nilIface := rfl
theorem errW_some (c : Int) : errW (some c) = .iface 0 (.int .i64 c) := rfl
theorem info3 : (Try.prog.info? 3).map (fun i => (i.zero, i.size, i.bytes)) = some (some (.int .i64 0), 1, 8) := by kernel_rfl
theorem info50 : (Try.prog.info? 50).map (fun i => (i.zero, i.size, i.bytes)) = some (some (.agg #[(.int .i64 0), (.int .i64 0), (.int .i64 0)]), 3, 24) := by kernel_rfl
structure S50 where
  f0 : Int
  f1 : Int
  f2 : Int
def z50 : S50 := ⟨(0 : Int), (0 : Int), (0 : Int)⟩
def k50 : Kd S50 := Kd.iso (Kd.pair (Kd.int .i64) (Kd.pair (Kd.int .i64) (Kd.int .i64))) (fun x : S50 => (x.f0, x.f1, x.f2))
theorem k50_open {w : World} {x : S50} {cs : List Value} (h : k50.K w x cs) : cs = [.int .i64 x.f0, .int .i64 x.f1, .int .i64 x.f2] := by
  obtain ⟨_, _, rfl, rfl, ⟨_, _, rfl, rfl, rfl⟩⟩ := h
  exact rfl
theorem k50_mkM (w : World) (base : Nat) (ok : Nat → Prop) (x : S50)  : k50.M w base ok x [.int .i64 x.f0, .int .i64 x.f1, .int .i64 x.f2] := ⟨[.int .i64 x.f0], [.int .i64 x.f1, .int .i64 x.f2], rfl, rfl, ⟨[.int .i64 x.f1], [.int .i64 x.f2], rfl, rfl, rfl⟩⟩
def rd_T50 (xs : List S50) (i : Int) : S50 := xs.getD i.toNat z50
theorem at_T50 {w : World} {A : Option Addr} {n : Nat} {xs : List S50} (h : Kd.C k50 w A n xs) (i : Int) (h0 : 0 ≤ i) (h1 : i < n) : ∃ ad , A = some ad ∧ w.cell? (ad.add (i.toNat * 3)) = some (.int .i64 (rd_T50 xs i).f0) ∧ w.cell? ⟨(ad.add (i.toNat * 3)).block, (ad.add (i.toNat * 3)).off + 1, none⟩ = some (.int .i64 (rd_T50 xs i).f1) ∧ w.cell? ⟨(ad.add (i.toNat * 3)).block, (ad.add (i.toNat * 3)).off + 2, none⟩ = some (.int .i64 (rd_T50 xs i).f2) := by
  obtain ⟨ad, c, e, _, hK, hc0⟩ := Kd.C_get h z50 i h0 h1
  have hc : ∀ j u, c[j]? = some u → w.cell? (ad.add (i.toNat * 3 + j)) = some u := hc0
  obtain rfl := k50_open hK
  exact ⟨ad, e, hc 0 _ rfl, by rw [← add_field _ _ 1 (by omega)]; exact hc 1 _ rfl, by rw [← add_field _ _ 2 (by omega)]; exact hc 2 _ rfl⟩
structure S80 where
  f0 : Int
  f1 : Int
  f2 : (List S50)
  f3 : Int
  f4 : Bool
def z80 : S80 := ⟨(0 : Int), (0 : Int), ([] : List S50), (0 : Int), false⟩
structure S103 where
  f0 : Int
  f1 : Int
def z103 : S103 := ⟨(0 : Int), (0 : Int)⟩
def k103 : Kd S103 := Kd.iso (Kd.pair (Kd.int .u8) (Kd.int .u8)) (fun x : S103 => (x.f0, x.f1))
theorem k103_open {w : World} {x : S103} {cs : List Value} (h : k103.K w x cs) : cs = [.int .u8 x.f0, .int .u8 x.f1] := by
  obtain ⟨_, _, rfl, rfl, rfl⟩ := h
  exact rfl
def rd_T103 (xs : List S103) (i : Int) : S103 := xs.getD i.toNat z103
theorem at_T103 {w : World} {A : Option Addr} {n : Nat} {xs : List S103} (h : Kd.C k103 w A n xs) (i : Int) (h0 : 0 ≤ i) (h1 : i < n) : ∃ ad , A = some ad ∧ w.cell? (ad.add (i.toNat * 2)) = some (.int .u8 (rd_T103 xs i).f0) ∧ w.cell? ⟨(ad.add (i.toNat * 2)).block, (ad.add (i.toNat * 2)).off + 1, none⟩ = some (.int .u8 (rd_T103 xs i).f1) := by
  obtain ⟨ad, c, e, _, hK, hc0⟩ := Kd.C_get h z103 i h0 h1
  have hc : ∀ j u, c[j]? = some u → w.cell? (ad.add (i.toNat * 2 + j)) = some u := hc0
  obtain rfl := k103_open hK
  exact ⟨ad, e, hc 0 _ rfl, by rw [← add_field _ _ 1 (by omega)]; exact hc 1 _ rfl⟩
end Go.Proofs.Ythfdjccdelbeeaa.PT
end
section
namespace Go.Proofs.Ythfdjccdelbeeaa.Opn
open Go.RowKit Go.Proofs.YthfdjccdelbeeaaW.PrintWords
/-- Whatever reads as data of type t is a value of kind d that meets ok. -/
def Opens (P : Program) (t : TypeId) {α : Type} (d : Kd α) (ok : α → Prop) : Prop :=
  ∀ (H : Type) (enc : TypeId × Value → H) (w : World) (base : Nat) (spare : Nat → Bool) (held : Bool) (fuel : Nat) (cs : List Value) (x : DataW H × List MemPlace),
    DataW.trod enc P w base spare held fuel t cs = some x → ∃ a, d.K w a cs ∧ ok a
theorem Opens.mono {P : Program} {t : TypeId} {α : Type} {d : Kd α} {ok ok' : α → Prop} (h : Opens P t d ok) (hm : ∀ a, ok a → ok' a) : Opens P t d ok' :=
  fun H enc w base spare held fuel cs x hx => let ⟨a, h1, h2⟩ := h H enc w base spare held fuel cs x hx; ⟨a, h1, hm a h2⟩
theorem opens_int {P : Program} {t : TypeId} {k : IntKind} (ht : P.underlying t = some (.int k)) : Opens P t (Kd.int k) (fun n => (Lit.int k n).wf = true) := by
  intro H enc w base spare held fuel cs x h
  obtain ⟨n, rfl, _, hw⟩ := DataW.trod_int ht h
  exact ⟨n, rfl, hw⟩
theorem opens_slice {P : Program} {t e : TypeId} {α : Type} [Inhabited α] {d : Kd α} {ok : α → Prop} (ht : P.underlying t = some (.slice e)) (hc : P.cellsOf e = d.sz) (he : Opens P e d ok) :
    Opens P t (Kd.slice e d) (fun l => l.length ≤ maxLen ∧ ∀ x ∈ l, ok x) := by
  intro H enc w base spare held fuel cs x h
  rcases Go.Deep.open_slice ht h with ⟨rfl, _⟩ | ⟨a, len, cap, m, n, D, Pl, rfl, hb, hl, hm, hmm, _, hx⟩
  · exact ⟨[], ⟨none, 0, rfl, Nat.le_refl _, rfl, by simp, fun h0 => absurd h0 (by simp)⟩, by simp, by simp⟩
  · have hlm : len ≤ m := by rw [hmm]; split <;> omega
    obtain ⟨f, hf⟩ := Go.Deep.choose_lt (α := α) (n := len) (p := fun i v => ∃ cs', w.cells? base (a.add (i * P.cellsOf e)) (P.cellsOf e) = some cs' ∧ d.K w v cs' ∧ ok v) (fun i hi => by
      obtain ⟨cs', h1, h2⟩ := hx i (by omega)
      obtain ⟨v, h3, h4⟩ := he H enc w base spare held n cs' _ h2
      exact ⟨v, cs', h1, h3, h4⟩)
    have hget : ∀ j p, ((List.range len).map f)[j]? = some p → j < len ∧ p = f j := by
      intro j p hj
      rw [List.getElem?_map, Option.map_eq_some_iff] at hj
      obtain ⟨i, hi, rfl⟩ := hj
      have := List.getElem?_eq_some_iff.1 hi
      obtain ⟨h1, h2⟩ := this
      simp at h1 h2
      exact ⟨h1, by rw [h2]⟩
    refine ⟨(List.range len).map f, ⟨some a, cap, by simp, by simpa using hl, rfl, by simp; unfold maxLen at hm; omega, fun _ => ⟨a, rfl, fun j p hj => ?_⟩⟩, by simp; omega, fun x hx => ?_⟩
    · obtain ⟨hj1, rfl⟩ := hget j p hj
      obtain ⟨cs', h1, h2, _⟩ := hf j hj1
      obtain ⟨_, hlen, hcell⟩ := World.cells?_some h1
      refine ⟨cs', d.K_len h2, h2, fun i u hu => ?_⟩
      have hi : i < P.cellsOf e := by rw [← hlen]; exact (List.getElem?_eq_some_iff.1 hu).1
      rw [← Go.Deep.add_add, ← hc]
      rw [hcell i hi]; exact hu
    · obtain ⟨i, hi, rfl⟩ := List.mem_map.1 hx
      obtain ⟨_, _, _, h3⟩ := hf i (by simpa using hi)
      exact h3
/-- The same of a struct's fields from offset o on. -/
def OpensFs (P : Program) (fs : List Field) (o : Nat) {α : Type} (d : Kd α) (ok : α → Prop) : Prop :=
  ∀ (H : Type) (enc : TypeId × Value → H) (w : World) (base : Nat) (spare : Nat → Bool) (held : Bool) (cs : List Value), cs.length = o + d.sz →
    (∀ f ∈ fs, ∃ fuel x, DataW.trod enc P w base spare held fuel f.type ((cs.drop f.offset).take (P.cellsOf f.type)) = some x) → ∃ a, d.K w a (cs.drop o) ∧ ok a
theorem opensFs_one {P : Program} {f : Field} {o : Nat} {α : Type} {d : Kd α} {ok : α → Prop} (h : Opens P f.type d ok) (ho : f.offset = o) (hc : P.cellsOf f.type = d.sz) : OpensFs P [f] o d ok := by
  intro H enc w base spare held cs hl hf
  obtain ⟨fuel, x, hx⟩ := hf f (by simp)
  rw [ho, hc, List.take_of_length_le (by simp; omega)] at hx
  exact h H enc w base spare held fuel _ x hx
theorem opensFs_cons {P : Program} {f : Field} {fs : List Field} {o : Nat} {α β : Type} {a : Kd α} {b : Kd β} {oka : α → Prop} {okb : β → Prop} (h : Opens P f.type a oka) (ho : f.offset = o) (hc : P.cellsOf f.type = a.sz) (hr : OpensFs P fs (o + a.sz) b okb) :
    OpensFs P (f :: fs) o (Kd.pair a b) (fun x => oka x.1 ∧ okb x.2) := by
  intro H enc w base spare held cs hl hf
  have hl' : cs.length = o + (a.sz + b.sz) := hl
  obtain ⟨fuel, x, hx⟩ := hf f (by simp)
  rw [ho, hc] at hx
  obtain ⟨u, hu1, hu2⟩ := h H enc w base spare held fuel _ x hx
  obtain ⟨v, hv1, hv2⟩ := hr H enc w base spare held cs (by omega) (fun g hg => hf g (List.mem_cons_of_mem _ hg))
  refine ⟨(u, v), ⟨_, _, ?_, hu1, hv1⟩, hu2, hv2⟩
  rw [← List.drop_drop, List.take_append_drop]
theorem opens_struct {P : Program} {t : TypeId} {fs : Array Field} {α β : Type} {d : Kd α} {ok : α → Prop} {f : β → α} (ht : P.underlying t = some (.struct fs)) (hc : P.cellsOf t = d.sz) (h : OpensFs P fs.toList 0 d ok) (g : α → β) (hg : ∀ a, f (g a) = a) :
    Opens P t (Kd.iso d f) (fun x => ok (f x)) := by
  intro H enc w base spare held fuel cs x hx
  obtain ⟨xs, n, rfl, rfl, hl, hsz, hfs⟩ := DataW.trod_struct ht hx
  obtain ⟨a, h1, h2⟩ := h H enc w base spare held cs (by omega) (fun fl hfl => by
    obtain ⟨i, hi, rfl⟩ := List.getElem_of_mem hfl
    have hi' : i < fs.size := by simpa using hi
    have := hfs i fs[i] (Array.getElem?_eq_getElem hi')
    rw [List.getElem?_eq_getElem (show i < xs.length by omega)] at this
    exact ⟨n, _, by simpa using this⟩)
  exact ⟨g a, by show d.K w (f (g a)) cs; rw [hg]; simpa using h1, by show ok (f (g a)); rw [hg]; exact h2⟩
end Go.Proofs.Ythfdjccdelbeeaa.Opn
end
section
namespace Go.Proofs.Ythfdjccdelbeeaa.PT
open Go.RowKit Go.Proofs.YthfdjccdelbeeaaW.PrintWords Go.Proofs.Ythfdjccdelbeeaa.Opn
instance : Inhabited S50 := ⟨z50⟩
instance : Inhabited S80 := ⟨z80⟩
instance : Inhabited S103 := ⟨z103⟩
def ok103 (x : S103) : Prop := (fun n => (Lit.int .u8 n).wf = true) x.f0 ∧ (fun n => (Lit.int .u8 n).wf = true) x.f1
theorem opens103 : Opens Try.prog 103 k103 ok103 := by
  refine Opens.mono (ok := fun x : S103 => (fun x : (Int) × (Int) => (fun n => (Lit.int .u8 n).wf = true) x.1 ∧ (fun n => (Lit.int .u8 n).wf = true) x.2) ((fun x : S103 => (x.f0, x.f1)) x)) (opens_struct (d := (Kd.pair (Kd.int .u8) (Kd.int .u8))) (ok := fun x : (Int) × (Int) => (fun n => (Lit.int .u8 n).wf = true) x.1 ∧ (fun n => (Lit.int .u8 n).wf = true) x.2) (f := fun x : S103 => (x.f0, x.f1)) Try.underlying103 (by kernel_rfl) ?_ (fun a => ⟨a.1, a.2⟩) (fun _ => rfl)) (fun x h => h)
  refine opensFs_cons (oka := (fun n => (Lit.int .u8 n).wf = true)) (okb := (fun y : (Int) => (fun n => (Lit.int .u8 n).wf = true) y)) ?_ ?_ ?_ ?_
  · exact (opens_int Try.underlying5)
  · rfl
  · kernel_rfl
  refine opensFs_one (ok := (fun n => (Lit.int .u8 n).wf = true)) ?_ ?_ ?_
  · exact (opens_int Try.underlying5)
  · rfl
  · kernel_rfl
end Go.Proofs.Ythfdjccdelbeeaa.PT
end
section
namespace Go.Proofs.Ythfdjccdelbeeaa.PT
open Go.RowKit Go.Proofs.YthfdjccdelbeeaaW.PrintWords Go.Proofs.Ythfdjccdelbeeaa.Opn
set_option linter.unusedVariables false in
def kimberlitetop_TopAssigned.ok (a0 : Int) (a1 : Int) (a2 : Int) (l3 : List (S103)) : Prop := (fun n => (Lit.int .u8 n).wf = true) a0 ∧ (fun n => (Lit.int .u8 n).wf = true) a1 ∧ (fun n => (Lit.int .u16 n).wf = true) a2 ∧ (fun l : List (S103) => l.length ≤ maxLen ∧ ∀ x ∈ l, ok103 x) l3 ∧ True
def kimberlitetop_TopAssigned.Pure2 : Prop := ∀ (a0 : Int) (a1 : Int) (a2 : Int) (l3 : List (S103)), (fun n => (Lit.int .u8 n).wf = true) a0 → (fun n => (Lit.int .u8 n).wf = true) a1 → (fun n => (Lit.int .u16 n).wf = true) a2 → (fun l : List (S103) => l.length ≤ maxLen ∧ ∀ x ∈ l, ok103 x) l3 → ∃ _k : Nat, kimberlitetop_TopAssigned.ok a0 a1 a2 l3
end Go.Proofs.Ythfdjccdelbeeaa.PT
end
section
namespace Go.Proofs.Ythfdjccdelbeeaa.Gm
set_option linter.unusedVariables false
def put {α : Type} (f : Nat → α) (j : Nat) (x : α) : Nat → α := fun i => if i = j then x else f i
theorem put_at {α : Type} (f : Nat → α) (j : Nat) (x : α) : put f j x j = x := if_pos rfl
theorem put_ne {α : Type} (f : Nat → α) {j i : Nat} (x : α) (h : i ≠ j) : put f j x i = f i := if_neg h
/-- How many below k. -/
def cnt (f : Nat → Bool) : Nat → Nat
  | 0 => 0
  | k + 1 => cnt f k + if f k = true then 1 else 0
theorem cnt_congr {f g : Nat → Bool} : ∀ {k : Nat}, (∀ i, i < k → f i = g i) → cnt f k = cnt g k
  | 0, _ => rfl
  | k + 1, h => by unfold cnt; rw [cnt_congr (fun i hi => h i (by omega)), h k (by omega)]
theorem cnt_less {f g : Nat → Bool} {j : Nat} (hf : f j = true) (hg : g j = false) : ∀ {k : Nat}, (∀ i, i < k → i ≠ j → f i = g i) → j < k → cnt f k = cnt g k + 1
  | 0, _, hk => by omega
  | k + 1, h, hk => by
    unfold cnt
    by_cases e : j = k
    · subst e
      rw [cnt_congr (fun i hi => h i (by omega) (by omega)), hf, hg, if_pos rfl, if_neg (by decide)]
    · rw [cnt_less hf hg (fun i hi => h i (by omega)) (show j < k by omega), h k (by omega) (fun q => e q.symm)]; omega
theorem cnt_mono {f g : Nat → Bool} : ∀ {k : Nat}, (∀ i, i < k → f i = true → g i = true) → cnt f k ≤ cnt g k
  | 0, _ => Nat.le_refl _
  | k + 1, h => by
    unfold cnt
    have ih := cnt_mono (k := k) (fun i hi => h i (by omega))
    by_cases c : f k = true
    · rw [if_pos c, if_pos (h k (by omega) c)]; omega
    · rw [if_neg c]; omega
theorem cnt_le (f : Nat → Bool) : ∀ k, cnt f k ≤ k
  | 0 => Nat.le_refl _
  | k + 1 => by unfold cnt; have := cnt_le f k; split <;> omega
theorem cnt_filter (f : Nat → Bool) : ∀ k, ((List.range k).filter f).length = cnt f k
  | 0 => rfl
  | k + 1 => by
    rw [List.range_succ, List.filter_append, List.length_append, cnt_filter f k]
    show _ = cnt f k + if f k = true then 1 else 0
    by_cases c : f k = true
    · rw [if_pos c]; simp [c]
    · rw [if_neg c]; simp [c]
/-- A graph of two sides: the first s of n are one side. -/
structure Bip (n s : Nat) (G : Nat → Nat → Bool) : Prop where
  sym : ∀ u v, G u v = true → G v u = true
  lt : ∀ u v, G u v = true → u < n
  side : ∀ u v, G u v = true → (u < s ↔ ¬ v < s)
/-- Mates: n is none. -/
structure Mat (n : Nat) (G : Nat → Nat → Bool) (m : Nat → Nat) : Prop where
  le : ∀ u, u < n → m u ≤ n
  ok : ∀ u, u < n → m u < n → G u (m u) = true ∧ m (m u) = u
def vis (n : Nat) (m : Nat → Nat) (p : Nat → Int) (root x : Nat) : Prop := x = root ∨ (x < n ∧ m x < n ∧ 0 ≤ p (m x))
/-- Parents. -/
structure Sea (n s : Nat) (G : Nat → Nat → Bool) (m : Nat → Nat) (p : Nat → Int) (root : Nat) (d : Nat → Nat) : Prop where
  par : ∀ y, y < n → 0 ≤ p y → ∃ x : Nat, p y = (x : Int) ∧ G x y = true ∧ (x = root ∨ (m x < n ∧ 0 ≤ p (m x) ∧ d (m x) < d y))
  sid : ∀ y, y < n → 0 ≤ p y → (y < s ↔ ¬ root < s)
section
variable {n s root : Nat} {G : Nat → Nat → Bool} {m : Nat → Nat} {p : Nat → Int} {d : Nat → Nat}
theorem Bip.lt2 (h : Bip n s G) {u v : Nat} (e : G u v = true) : v < n := h.lt _ _ (h.sym _ _ e)
theorem Bip.ne (h : Bip n s G) {u v : Nat} (e : G u v = true) : u ≠ v := fun q => by
  subst q
  have := h.side _ _ e
  by_cases c : u < s
  · exact this.1 c c
  · exact c (this.2 c)
theorem Sea.start (hp : ∀ y, y < n → p y = -1) : Sea n s G m p root d := ⟨fun y hy h => by rw [hp y hy] at h; omega, fun y hy h => by rw [hp y hy] at h; omega⟩
/-- What has been come to lies on the root's side. -/
theorem vis_side (hb : Bip n s G) (hm : Mat n G m) (h : Sea n s G m p root d) {x : Nat} (hx : vis n m p root x) : x < s ↔ root < s := by
  rcases hx with rfl | ⟨h1, h2, h3⟩
  · exact Iff.rfl
  · have a := h.sid _ h2 h3
    have b := hb.side _ _ (hm.ok x h1 h2).1
    omega
/-- No ring of odd length is closed. -/
theorem no_ring (hb : Bip n s G) (hm : Mat n G m) (h : Sea n s G m p root d) {v t : Nat} (hv : vis n m p root v) (hg : G v t = true) : t ≠ root ∧ ¬ (m t < n ∧ 0 ≤ p (m t)) := by
  have a := vis_side hb hm h hv
  have b := hb.side _ _ hg
  refine ⟨fun e => ?_, fun ⟨h1, h2⟩ => ?_⟩
  · subst e
    by_cases c : v < s <;> by_cases e : t < s <;> simp_all
  · have e := h.sid _ h1 h2
    have f := hb.side _ _ (hm.ok t (hb.lt2 hg) h1).1
    by_cases c1 : v < s <;> by_cases c2 : t < s <;> by_cases c3 : root < s <;> by_cases c4 : m t < s <;> simp_all
/-- One more parent. -/
theorem Sea.push (hb : Bip n s G) (hm : Mat n G m) (h : Sea n s G m p root d) {v t : Nat} (hv : vis n m p root v) (hg : G v t = true) (hp : p t < 0) : Sea n s G m (put p t (v : Int)) root (put d t (1 + d (m v))) := by
  refine ⟨fun y hy h0 => ?_, fun y hy h0 => ?_⟩
  · by_cases e : y = t
    · subst e
      rw [put_at]
      refine ⟨v, rfl, hg, ?_⟩
      rcases hv with q | ⟨q1, q2, q3⟩
      · exact Or.inl q
      · have hne : m v ≠ y := fun z => by rw [z] at q3; omega
        refine Or.inr ⟨q2, by rw [put_ne _ _ hne]; exact q3, ?_⟩
        rw [put_ne _ _ hne, put_at]; omega
    · rw [put_ne _ _ e] at h0 ⊢
      obtain ⟨x, e1, e2, e3⟩ := h.par y hy h0
      refine ⟨x, e1, e2, ?_⟩
      rcases e3 with q | ⟨q1, q2, q3⟩
      · exact Or.inl q
      · have hne : m x ≠ t := fun z => by rw [z] at q2; omega
        refine Or.inr ⟨q1, by rw [put_ne _ _ hne]; exact q2, ?_⟩
        rw [put_ne _ _ hne, put_ne _ _ e]; exact q3
  · by_cases e : y = t
    · subst e
      have a := vis_side hb hm h hv
      have b := hb.side _ _ hg
      by_cases c1 : v < s <;> by_cases c2 : y < s <;> by_cases c3 : root < s <;> simp_all
    · rw [put_ne _ _ e] at h0
      exact h.sid y hy h0
theorem vis_put {x t : Nat} {v : Int} (h : vis n m p root x) (hp : p t < 0) (hv : 0 ≤ v) : vis n m (put p t v) root x := by
  rcases h with q | ⟨h1, h2, h3⟩
  · exact Or.inl q
  · refine Or.inr ⟨h1, h2, ?_⟩
    unfold put
    split
    · exact hv
    · exact h3
theorem vis_back {x t : Nat} {v : Int} (h : vis n m (put p t v) root x) : vis n m p root x ∨ (x < n ∧ m x = t) := by
  rcases h with q | ⟨h1, h2, h3⟩
  · exact Or.inl (Or.inl q)
  · by_cases e : m x = t
    · exact Or.inr ⟨h1, e⟩
    · rw [put_ne _ _ e] at h3
      exact Or.inl (Or.inr ⟨h1, h2, h3⟩)
/-- The search within stone v's neighbours, those below j are looked at; q: what is still to be looked at. -/
structure Ii (n s : Nat) (G : Nat → Nat → Bool) (m : Nat → Nat) (p : Nat → Int) (root : Nat) (d : Nat → Nat) (q : List Nat) (v j : Nat) : Prop where
  sea : Sea n s G m p root d
  mat : ∀ y, y < n → 0 ≤ p y → m y < n
  que : ∀ x ∈ q, vis n m p root x
  cur : vis n m p root v
  old : ∀ x, vis n m p root x → x ∉ q → x ≠ v → ∀ y, G x y = true → 0 ≤ p y ∨ m x = y
  now : ∀ y, y < j → G v y = true → 0 ≤ p y ∨ m v = y
/-- The search between two stones. -/
structure Ou (n s : Nat) (G : Nat → Nat → Bool) (m : Nat → Nat) (p : Nat → Int) (root : Nat) (d : Nat → Nat) (q : List Nat) : Prop where
  sea : Sea n s G m p root d
  mat : ∀ y, y < n → 0 ≤ p y → m y < n
  que : ∀ x ∈ q, vis n m p root x
  old : ∀ x, vis n m p root x → x ∉ q → ∀ y, G x y = true → 0 ≤ p y ∨ m x = y
theorem Ou.start (hp : ∀ y, y < n → p y = -1) : Ou n s G m p root d [root] :=
  ⟨Sea.start hp, fun y hy h => by rw [hp y hy] at h; omega, fun x hx => Or.inl (by simpa using hx), fun x hx hn => by
    rcases hx with q | ⟨_, h1, h⟩
    · exact absurd (by simp [q]) hn
    · rw [hp _ h1] at h; omega⟩
theorem Ou.pop {q : List Nat} {v : Nat} (h : Ou n s G m p root d (v :: q)) : Ii n s G m p root d q v 0 :=
  ⟨h.sea, h.mat, fun x hx => h.que x (by simp [hx]), h.que v (by simp), fun x hx hn hne => h.old x hx (by simp [hne, hn]), fun y hy => by omega⟩
theorem Ii.done {q : List Nat} {v : Nat} (hb : Bip n s G) (h : Ii n s G m p root d q v n) : Ou n s G m p root d q :=
  ⟨h.sea, h.mat, h.que, fun x hx hn y hg => by
    by_cases e : x = v
    · subst e; exact h.now y (hb.lt2 hg) hg
    · exact h.old x hx hn e y hg⟩
theorem Ii.skip {q : List Nat} {v j : Nat} (h : Ii n s G m p root d q v j) (hj : G v j = true → 0 ≤ p j ∨ m v = j) : Ii n s G m p root d q v (j + 1) :=
  ⟨h.sea, h.mat, h.que, h.cur, h.old, fun y hy hg => by
    by_cases e : y = j
    · subst e; exact hj hg
    · exact h.now y (by omega) hg⟩
theorem Ii.push {q : List Nat} {v j : Nat} (hb : Bip n s G) (hm : Mat n G m) (h : Ii n s G m p root d q v j) (hg : G v j = true) (hp : p j < 0) (hj : m j < n) : Ii n s G m (put p j (v : Int)) root (put d j (1 + d (m v))) (q ++ [m j]) v (j + 1) := by
  have hjn := hb.lt2 hg
  have hv0 : (0 : Int) ≤ (v : Int) := by omega
  have up : ∀ y, 0 ≤ p y → 0 ≤ put p j (v : Int) y := fun y hy => by unfold put; split <;> omega
  refine ⟨h.sea.push hb hm h.cur hg hp, fun y hy h0 => ?_, fun x hx => ?_, vis_put h.cur hp hv0, fun x hx hn hne y hgy => ?_, fun y hy hgy => ?_⟩
  · by_cases e : y = j
    · subst e; exact hj
    · rw [put_ne _ _ e] at h0; exact h.mat y hy h0
  · rcases List.mem_append.1 hx with hx | hx
    · exact vis_put (h.que x hx) hp hv0
    · obtain rfl : x = m j := by simpa using hx
      have e := (hm.ok j hjn hj).2
      exact Or.inr ⟨hj, by rw [e]; exact hjn, by rw [e, put_at]; exact hv0⟩
  · simp only [List.mem_append, List.mem_singleton, not_or] at hn
    rcases vis_back hx with z | ⟨z1, z2⟩
    · exact (h.old x z hn.1 hne y hgy).imp (up y) id
    · refine absurd ?_ hn.2
      have := (hm.ok x z1 (by rw [z2]; exact hjn)).2
      rw [z2] at this
      exact this.symm
  · by_cases e : y = j
    · subst e; left; rw [put_at]; exact hv0
    · exact (h.now y (by omega) hgy).imp (up y) id
/-- What is found: a way from the root to a single stone t. -/
structure Wy (n s : Nat) (G : Nat → Nat → Bool) (m : Nat → Nat) (p : Nat → Int) (root : Nat) (d : Nat → Nat) (t : Nat) : Prop where
  sea : Sea n s G m p root d
  lt : t < n
  par : 0 ≤ p t
  single : m t = n
  mat : ∀ y, y < n → 0 ≤ p y → y ≠ t → m y < n
theorem Ii.found {q : List Nat} {v j : Nat} (hb : Bip n s G) (hm : Mat n G m) (h : Ii n s G m p root d q v j) (hg : G v j = true) (hp : p j < 0) (hj : m j = n) : Wy n s G m (put p j (v : Int)) root (put d j (1 + d (m v))) j :=
  ⟨h.sea.push hb hm h.cur hg hp, hb.lt2 hg, by rw [put_at]; omega, hj, fun y hy h0 hne => by rw [put_ne _ _ hne] at h0; exact h.mat y hy h0⟩
/-- The way is turned over: m0 the mates before, m those now; v is where one stands (none: done). -/
structure Tu (n : Nat) (G : Nat → Nat → Bool) (m0 : Nat → Nat) (p : Nat → Int) (root : Nat) (d : Nat → Nat) (t : Nat) (m : Nat → Nat) (v : Nat) : Prop where
  vn : v < n
  par : 0 ≤ p v
  le : ∀ u, u < n → m u ≤ n
  ok : ∀ u, u < n → u ≠ v → m u < n → G u (m u) = true ∧ m u ≠ v ∧ m (m u) = u
  has : ∀ u, u < n → u ≠ v → (m u < n ↔ m0 u < n ∨ u = t)
  end_ : v = t ∨ m0 v < n
  far : ∀ x, x < n → (x = root ∨ (m0 x < n ∧ 0 ≤ p (m0 x) ∧ d (m0 x) < d v)) → m x = m0 x
/-- The way is turned over whole. -/
structure Fi (n : Nat) (G : Nat → Nat → Bool) (m0 : Nat → Nat) (root t : Nat) (m : Nat → Nat) : Prop where
  mat : Mat n G m
  has : ∀ u, u < n → (m u < n ↔ m0 u < n ∨ u = t ∨ u = root)
theorem Wy.start {t : Nat} (hm : Mat n G m) (h : Wy n s G m p root d t) : Tu n G m p root d t m t :=
  ⟨h.lt, h.par, hm.le, fun u hu hne hl => by
    obtain ⟨a, b⟩ := hm.ok u hu hl
    refine ⟨a, fun e => ?_, b⟩
    rw [e, h.single] at b
    omega, fun u hu hne => ⟨fun q => Or.inl q, fun q => q.elim id (fun e => absurd e hne)⟩, Or.inl rfl, fun _ _ _ => rfl⟩
theorem Tu.step {m0 : Nat → Nat} {t v : Nat} (hb : Bip n s G) (hm : Mat n G m0) (hs : Sea n s G m0 p root d) (hr : m0 root = n) (h : Tu n G m0 p root d t m v) :
    ∃ x : Nat, p v = (x : Int) ∧ x < n ∧ x ≠ v ∧ ((m x = n ∧ Fi n G m0 root t (put (put m v x) x v)) ∨ (m x < n ∧ d (m x) < d v ∧ Tu n G m0 p root d t (put (put m v x) x v) (m x))) := by
  obtain ⟨x, e1, hg, e3⟩ := hs.par v h.vn h.par
  have hx : x < n := hb.lt _ _ hg
  have hxv : x ≠ v := hb.ne hg
  have hfx : m x = m0 x := h.far x hx (e3.imp id (fun q => q))
  have gv : put (put m v x) x v v = x := by rw [put_ne _ _ (fun q => hxv q.symm), put_at]
  have gx : put (put m v x) x v x = v := put_at _ _ _
  have go : ∀ u, u ≠ v → u ≠ x → put (put m v x) x v u = m u := fun u h1 h2 => by rw [put_ne _ _ h2, put_ne _ _ h1]
  have gle : ∀ u, u < n → put (put m v x) x v u ≤ n := fun u hu => by
    by_cases c1 : u = v
    · rw [c1, gv]; omega
    · by_cases c2 : u = x
      · rw [c2, gx]; have := h.vn; omega
      · rw [go u c1 c2]; exact h.le u hu
  refine ⟨x, e1, hx, hxv, ?_⟩
  by_cases c : x = root
  · left
    have hmx : m x = n := by rw [hfx, c, hr]
    refine ⟨hmx, ⟨⟨gle, fun u hu hl => ?_⟩, fun u hu => ?_⟩⟩
    · by_cases c1 : u = v
      · subst c1; rw [gv, gx]; exact ⟨hb.sym _ _ hg, rfl⟩
      · by_cases c2 : u = x
        · subst c2; rw [gx, gv]; exact ⟨hg, rfl⟩
        · rw [go u c1 c2] at hl ⊢
          obtain ⟨a1, a2, a3⟩ := h.ok u hu c1 hl
          refine ⟨a1, ?_⟩
          rw [go _ a2 (fun q => by rw [q, hmx] at a3; omega)]
          exact a3
    · by_cases c1 : u = v
      · subst c1; rw [gv]
        exact ⟨fun _ => h.end_.elim (fun q => Or.inr (Or.inl q)) Or.inl, fun _ => hx⟩
      · by_cases c2 : u = x
        · subst c2; rw [gx]
          exact ⟨fun _ => Or.inr (Or.inr c), fun _ => h.vn⟩
        · rw [go u c1 c2, h.has u hu c1]
          exact ⟨fun q => q.elim Or.inl (fun z => Or.inr (Or.inl z)), fun q => q.elim Or.inl (fun z => z.elim Or.inr (fun y => absurd (y.trans c.symm) c2))⟩
  · right
    obtain ⟨b1, b2, b3⟩ := e3.resolve_left c
    have hxg := (hm.ok x hx b1)
    have hyx : m (m0 x) = x := by
      have := (h.ok x hx hxv (by rw [hfx]; exact b1)).2.2
      rwa [hfx] at this
    have hvy : v ≠ m0 x := fun q => by rw [← q] at b3; omega
    have hxy : x ≠ m0 x := hb.ne hxg.1
    rw [hfx]
    refine ⟨b1, b3, ⟨b1, b2, gle, fun u hu hne hl => ?_, fun u hu hne => ?_, Or.inr (by rw [hxg.2]; exact hx), fun z hz hq => ?_⟩⟩
    · by_cases c1 : u = v
      · subst c1; rw [gv, gx]; exact ⟨hb.sym _ _ hg, hxy, rfl⟩
      · by_cases c2 : u = x
        · subst c2; rw [gx, gv]; exact ⟨hg, hvy, rfl⟩
        · rw [go u c1 c2] at hl ⊢
          obtain ⟨a1, a2, a3⟩ := h.ok u hu c1 hl
          refine ⟨a1, fun q => c2 (by rw [← a3, q, hyx]), ?_⟩
          rw [go _ a2 (fun q => hne (by rw [← a3, q, hfx]))]
          exact a3
    · by_cases c1 : u = v
      · subst c1; rw [gv]
        exact ⟨fun _ => h.end_.symm, fun _ => hx⟩
      · by_cases c2 : u = x
        · subst c2; rw [gx]
          exact ⟨fun _ => Or.inl b1, fun _ => h.vn⟩
        · rw [go u c1 c2]; exact h.has u hu c1
    · have hzx : z ≠ x := fun q => by
        rcases hq with q1 | ⟨q1, q2, q3⟩
        · exact c (q.symm.trans q1)
        · rw [q] at q3; omega
      have hzv : z ≠ v := fun q => by
        have hsd := hs.sid v h.vn h.par
        have : z < s ↔ root < s := vis_side hb hm hs (hq.imp id (fun w => ⟨hz, w.1, w.2.1⟩))
        rw [q] at this
        by_cases k1 : v < s <;> by_cases k2 : root < s <;> simp_all
      rw [go z hzv hzx]
      exact h.far z hz (hq.imp id (fun w => ⟨w.1, w.2.1, by omega⟩))
end
theorem nodup_len {α : Type} [DecidableEq α] : ∀ (l r : List α), l.Nodup → (∀ x ∈ l, x ∈ r) → l.length ≤ r.length
  | [], r, _, _ => Nat.zero_le _
  | a :: l, r, h, hs => by
    have ha : a ∈ r := hs a (by simp)
    have h' := List.nodup_cons.1 h
    have := nodup_len l (r.erase a) h'.2 (fun x hx => (List.mem_erase_of_ne (fun e => h'.1 (by rw [← e]; exact hx))).2 (hs x (by simp [hx])))
    rw [List.length_erase_of_mem ha] at this
    have hp : 0 < r.length := List.length_pos_of_mem ha
    simp only [List.length_cons]; omega
theorem less_one {α : Type} (f : α → Nat) (i : Nat) : ∀ l : List α, (l.map f).Nodup → l.length ≤ (l.filter (fun e => decide (f e ≠ i))).length + 1
  | [], _ => by simp
  | a :: l, h => by
    rw [List.map_cons, List.nodup_cons] at h
    by_cases c : f a = i
    · have : l.filter (fun e => decide (f e ≠ i)) = l := List.filter_eq_self.2 (fun e he => by
        have : f e ≠ i := fun q => h.1 (by rw [c, ← q]; exact List.mem_map_of_mem he)
        simpa using this)
      rw [List.filter_cons_of_neg (by simp [c]), this]; simp
    · have := less_one f i l h.2
      rw [List.filter_cons_of_pos (by simp [c])]
      simp only [List.length_cons]; omega
theorem nodup_fil {α : Type} {f : α → Nat} (g : α → Bool) {l : List α} (h : (l.map f).Nodup) : ((l.filter g).map f).Nodup := List.Sublist.nodup (List.Sublist.map _ List.filter_sublist) h
theorem fil_len {α : Type} (g : α → Bool) : ∀ l : List α, l.length = (l.filter g).length + (l.filter (fun e => !g e)).length
  | [] => rfl
  | a :: l => by
    have := fil_len g l
    cases c : g a
    · rw [List.filter_cons_of_neg (by simp [c]), List.filter_cons_of_pos (by simp [c])]; simp only [List.length_cons]; omega
    · rw [List.filter_cons_of_pos (by simp [c]), List.filter_cons_of_neg (by simp [c])]; simp only [List.length_cons]; omega
theorem nodup_map {α β : Type} {f : α → β} : ∀ {l : List α}, (∀ a ∈ l, ∀ b ∈ l, f a = f b → a = b) → l.Nodup → (l.map f).Nodup
  | [], _, _ => by simp
  | a :: l, h, hn => by
    have hn' := List.nodup_cons.1 hn
    rw [List.map_cons, List.nodup_cons]
    refine ⟨fun q => ?_, nodup_map (fun x hx y hy => h x (by simp [hx]) y (by simp [hy])) hn'.2⟩
    obtain ⟨b, hb, e⟩ := List.mem_map.1 q
    have := h b (by simp [hb]) a (by simp) e
    rw [this] at hb
    exact hn'.1 hb
theorem nodup_filter {α : Type} (g : α → Bool) {l : List α} (h : l.Nodup) : (l.filter g).Nodup := List.Sublist.nodup List.filter_sublist h
/-- Pairs that share no stone. -/
structure Prs (G : Nat → Nat → Bool) (i : Nat) (l : List (Nat × Nat)) : Prop where
  ok : ∀ e ∈ l, e.1 < i ∧ G e.1 e.2 = true
  n1 : (l.map Prod.fst).Nodup
  n2 : (l.map Prod.snd).Nodup
/-- There are never more than k pairs. -/
def Mx (G : Nat → Nat → Bool) (i k : Nat) : Prop := ∀ l : List (Nat × Nat), Prs G i l → l.length ≤ k
section
variable {n s root : Nat} {G : Nat → Nat → Bool} {m : Nat → Nat} {p : Nat → Int} {d : Nat → Nat}
theorem Mx.yes {i k : Nat} (h : Mx G i k) : Mx G (i + 1) (k + 1) := fun l hl => by
  have h1 := less_one Prod.fst i l hl.n1
  have h2 := h (l.filter (fun e => decide (e.1 ≠ i))) ⟨fun e he => by
    have h3 := hl.ok e ((List.mem_filter.1 he).1)
    have h4 : e.1 ≠ i := by simpa using (List.mem_filter.1 he).2
    exact ⟨by omega, h3.2⟩, nodup_fil _ hl.n1, nodup_fil _ hl.n2⟩
  omega
/-- A search that finds nothing: no more pairs with this root. -/
theorem Mx.no {k : Nat} (hb : Bip n s G) (hm : Mat n G m) (hrn : root < n) (hrs : root < s) (hr : m root = n) (hX : ∀ x, x < s → m x < n → x < root) (ho : Ou n s G m p root d []) (h : Mx G root k) : Mx G (root + 1) k := fun l hl => by
  have hN : ∀ y, y ∈ (List.range n).filter (fun y => decide (0 ≤ p y)) → y < n ∧ 0 ≤ p y := fun y hy => by simpa using hy
  have hmy : ∀ y, y < n → 0 ≤ p y → m y < root ∧ G (m y) y = true ∧ m (m y) = y := fun y hy h0 => by
    have h1 := ho.mat y hy h0
    obtain ⟨h2, h3⟩ := hm.ok y hy h1
    have h4 := ho.sea.sid y hy h0
    have h5 := hb.side _ _ h2
    have h6 : m y < s := by
      by_cases c1 : y < s <;> by_cases c2 : m y < s <;> simp_all
    exact ⟨hX _ h6 (by rw [h3]; exact hy), hb.sym _ _ h2, h3⟩
  have hcl : ∀ x, vis n m p root x → ∀ y, G x y = true → 0 ≤ p y := fun x hx y hg => by
    rcases ho.old x hx (by simp) y hg with q | q
    · exact q
    · rcases hx with e | ⟨_, h2, h3⟩
      · rw [e, hr] at q
        have := hb.lt2 hg
        omega
      · rw [← q]; exact h3
  have e := fil_len (fun e : Nat × Nat => decide (p e.2 < 0)) l
  have h2 : (l.filter (fun e => !decide (p e.2 < 0))).length ≤ ((List.range n).filter (fun y => decide (0 ≤ p y))).length := by
    rw [← List.length_map (f := Prod.snd)]
    refine nodup_len _ _ (nodup_fil _ hl.n2) (fun y hy => ?_)
    obtain ⟨e, he, rfl⟩ := List.mem_map.1 hy
    obtain ⟨he1, he2⟩ := List.mem_filter.1 he
    have hyn := hb.lt2 (hl.ok e he1).2
    simp at he2 ⊢
    exact ⟨hyn, he2⟩
  have h1 := h (l.filter (fun e => decide (p e.2 < 0)) ++ ((List.range n).filter (fun y => decide (0 ≤ p y))).map (fun y => (m y, y))) ⟨fun e he => ?_, ?_, ?_⟩
  · rw [List.length_append, List.length_map] at h1
    omega
  · rcases List.mem_append.1 he with he | he
    · obtain ⟨he1, he2⟩ := List.mem_filter.1 he
      have h3 := hl.ok e he1
      simp at he2
      refine ⟨?_, h3.2⟩
      by_cases c : e.1 = root
      · have := hcl root (Or.inl rfl) e.2 (by rw [← c]; exact h3.2)
        omega
      · omega
    · obtain ⟨y, hy, rfl⟩ := List.mem_map.1 he
      obtain ⟨hy1, hy2⟩ := hN y hy
      exact ⟨(hmy y hy1 hy2).1, (hmy y hy1 hy2).2.1⟩
  · rw [List.map_append, List.map_map]
    refine List.nodup_append.2 ⟨nodup_fil _ hl.n1, ?_, ?_⟩
    · refine nodup_map ?_ (nodup_filter _ List.nodup_range)
      intro a ha b hb' hab
      obtain ⟨a1, a2⟩ := hN a ha
      obtain ⟨b1, b2⟩ := hN b hb'
      have q : m a = m b := hab
      rw [← (hmy a a1 a2).2.2, ← (hmy b b1 b2).2.2, q]
    · intro a ha b hb' hab
      obtain ⟨e, he, rfl⟩ := List.mem_map.1 ha
      obtain ⟨he1, he2⟩ := List.mem_filter.1 he
      obtain ⟨y, hy, rfl⟩ := List.mem_map.1 hb'
      obtain ⟨hy1, hy2⟩ := hN y hy
      have q : e.1 = m y := hab
      simp at he2
      have hv : vis n m p root e.1 := Or.inr ⟨by rw [q]; exact ho.mat y hy1 hy2, by rw [q, (hmy y hy1 hy2).2.2]; exact hy1, by rw [q, (hmy y hy1 hy2).2.2]; exact hy2⟩
      have := hcl e.1 hv e.2 (hl.ok e he1).2
      omega
  · rw [List.map_append, List.map_map]
    refine List.nodup_append.2 ⟨nodup_fil _ hl.n2, ?_, ?_⟩
    · have : (Prod.snd ∘ fun y => (m y, y)) = (id : Nat → Nat) := rfl
      rw [this, List.map_id]
      exact nodup_filter _ List.nodup_range
    · intro a ha b hb' hab
      obtain ⟨e, he, rfl⟩ := List.mem_map.1 ha
      obtain ⟨he1, he2⟩ := List.mem_filter.1 he
      obtain ⟨y, hy, rfl⟩ := List.mem_map.1 hb'
      obtain ⟨hy1, hy2⟩ := hN y hy
      have q : e.2 = y := hab
      simp at he2
      rw [q] at he2
      omega
/-- The pairs of mates. -/
def prs (n s : Nat) (m : Nat → Nat) : List (Nat × Nat) := ((List.range s).filter (fun x => decide (m x < n))).map (fun x => (x, m x))
def nprs (n s : Nat) (m : Nat → Nat) : Nat := cnt (fun x => decide (m x < n)) s
theorem prs_len (n s : Nat) (m : Nat → Nat) : (prs n s m).length = nprs n s m := by unfold prs nprs; rw [List.length_map, cnt_filter]
theorem prs_ok (hs : s ≤ n) (hm : Mat n G m) : Prs G s (prs n s m) := by
  have hx : ∀ x, x ∈ (List.range s).filter (fun x => decide (m x < n)) → x < s ∧ m x < n := fun x h => by simpa using h
  refine ⟨fun e he => ?_, ?_, ?_⟩
  · obtain ⟨x, hx', rfl⟩ := List.mem_map.1 he
    obtain ⟨h1, h2⟩ := hx x hx'
    exact ⟨h1, (hm.ok x (by omega) h2).1⟩
  · unfold prs
    rw [List.map_map]
    have : (Prod.fst ∘ fun x => (x, m x)) = (id : Nat → Nat) := rfl
    rw [this, List.map_id]
    exact nodup_filter _ List.nodup_range
  · unfold prs
    rw [List.map_map]
    refine nodup_map ?_ (nodup_filter _ List.nodup_range)
    intro a ha b hb hab
    obtain ⟨a1, a2⟩ := hx a ha
    obtain ⟨b1, b2⟩ := hx b hb
    have q : m a = m b := hab
    rw [← (hm.ok a (by omega) a2).2, ← (hm.ok b (by omega) b2).2, q]
/-- The mates that have been made out of the roots below i: there are none greater. -/
structure Gre (n s : Nat) (G : Nat → Nat → Bool) (i : Nat) (m : Nat → Nat) : Prop where
  mat : Mat n G m
  low : ∀ x, x < s → m x < n → x < i
  mx : Mx G (min i s) (nprs n s m)
theorem Gre.zero (hm : ∀ u, m u = n) : Gre n s G 0 m :=
  ⟨⟨fun u _ => by rw [hm]; exact Nat.le_refl _, fun u _ h => by rw [hm] at h; omega⟩, fun x _ h => by rw [hm] at h; omega, fun l hl => by
    match l, hl with
    | [], _ => exact Nat.zero_le _
    | e :: l, hl =>
      have := (hl.ok e (by simp)).1
      omega⟩
theorem Gre.skip {i : Nat} (h : Gre n s G i m) (hi : m i < n) : Gre n s G (i + 1) m := by
  refine ⟨h.mat, fun x h1 h2 => by have := h.low x h1 h2; omega, ?_⟩
  have : ¬ i < s := fun q => by have := h.low i q hi; omega
  rw [show min (i + 1) s = min i s by omega]
  exact h.mx
theorem Gre.no {i : Nat} (hb : Bip n s G) (h : Gre n s G i m) (hin : i < n) (hi : m i = n) (ho : Ou n s G m p i d []) : Gre n s G (i + 1) m := by
  refine ⟨h.mat, fun x h1 h2 => by have := h.low x h1 h2; omega, ?_⟩
  by_cases c : i < s
  · have := h.mx
    rw [show min i s = i by omega] at this
    rw [show min (i + 1) s = i + 1 by omega]
    exact this.no hb h.mat hin c hi h.low ho
  · rw [show min (i + 1) s = min i s by omega]
    exact h.mx
theorem Gre.yes {i t : Nat} {m' : Nat → Nat} (hb : Bip n s G) (hsn : s ≤ n) (h : Gre n s G i m) (hin : i < n) (hi : m i = n) (hw : Wy n s G m p i d t) (hf : Fi n G m i t m') : Gre n s G (i + 1) m' := by
  have hts := hw.sea.sid t hw.lt hw.par
  refine ⟨hf.mat, fun x h1 h2 => ?_, ?_⟩
  · rcases (hf.has x (by omega)).1 h2 with q | q | q
    · have := h.low x h1 q; omega
    · subst q
      by_cases c : i < s
      · exact absurd c (hts.1 h1)
      · omega
    · omega
  · by_cases c : i < s
    · have h1 := h.mx
      rw [show min i s = i by omega] at h1
      rw [show min (i + 1) s = i + 1 by omega]
      have e : nprs n s m' = nprs n s m + 1 := by
        unfold nprs
        refine cnt_less (j := i) ?_ ?_ (fun x hxs hx => ?_) c
        · simpa using (hf.has i hin).2 (Or.inr (Or.inr rfl))
        · simp; omega
        · have := hf.has x (by omega)
          have e : x ≠ t := fun q => by subst q; exact hts.1 hxs c
          by_cases k : m x < n
          · simp [k, this]
          · simp [k, this, e, hx]
      rw [e]
      exact h1.yes
    · rw [show min (i + 1) s = min i s by omega]
      intro l hl
      have h1 := h.mx l hl
      have h2 : nprs n s m ≤ nprs n s m' := cnt_mono (fun x hx q => by
        have := (hf.has x (by omega)).2 (Or.inl (by simpa using q))
        simpa using this)
      omega
theorem Gre.great (hsn : s ≤ n) (h : Gre n s G n m) : Mat n G m ∧ Mx G s (nprs n s m) := ⟨h.mat, by have := h.mx; rwa [show min n s = s by omega] at this⟩
end
/-- The edges as a graph. -/
def Ged (es : List (Nat × Nat)) (i j : Nat) : Bool := es.any (fun e => (e.1 == i && e.2 == j) || (e.1 == j && e.2 == i))
theorem ged_iff {es : List (Nat × Nat)} {i j : Nat} : Ged es i j = true ↔ (i, j) ∈ es ∨ (j, i) ∈ es := by
  unfold Ged
  rw [List.any_eq_true]
  constructor
  · rintro ⟨e, he, h⟩
    simp only [Bool.or_eq_true, Bool.and_eq_true, beq_iff_eq] at h
    rcases h with ⟨h1, h2⟩ | ⟨h1, h2⟩
    · left; rw [← h1, ← h2]; exact he
    · right; rw [← h1, ← h2]; exact he
  · rintro (h | h)
    · exact ⟨_, h, by simp⟩
    · exact ⟨_, h, by simp⟩
end Go.Proofs.Ythfdjccdelbeeaa.Gm
end
section
namespace Go.Proofs.Ythfdjccdelbeeaa.Gm
open Go.RowKit
set_option linter.unusedVariables false
def lsq (n m : Nat) : Array Bool := ((List.range n).map m.testBit).toArray
def put2 (G : Nat → Nat → Bool) (i j : Nat) (b : Bool) : Nat → Nat → Bool := fun a c => if a = i ∧ c = j then b else G a c
def rng (f : Nat → Value) (k : Nat) : List Value := (List.range k).map f
theorem rng_len (f : Nat → Value) (k : Nat) : (rng f k).length = k := by unfold rng; rw [List.length_map, List.length_range]
theorem rng_get (f : Nat → Value) {k i : Nat} (h : i < k) : (rng f k)[i]? = some (f i) := by unfold rng; rw [List.getElem?_map, List.getElem?_range h]; rfl
theorem rng_set (f : Nat → Value) {k i : Nat} (x : Value) (g : Nat → Value) (hi : i < k) (h1 : g i = x) (h2 : ∀ j, j < k → j ≠ i → g j = f j) : (rng f k).set i x = rng g k := by
  refine List.ext_getElem? fun j => ?_
  by_cases hj : j < k
  · by_cases e : i = j
    · subst e; rw [List.getElem?_set_self (by rw [rng_len]; exact hj), rng_get g hj, h1]
    · rw [List.getElem?_set_ne e, rng_get f hj, rng_get g hj, h2 j hj (fun q => e q.symm)]
  · rw [List.getElem?_eq_none (by rw [List.length_set, rng_len]; omega), List.getElem?_eq_none (by rw [rng_len]; omega)]
def gcs (n : Nat) (G : Nat → Nat → Bool) : Array Value := (Value.int .i64 (n : Int) :: rng (fun k => .bool (G (k / 24) (k % 24))) 576).toArray
theorem gcs_n (n : Nat) (G : Nat → Nat → Bool) : (gcs n G)[0]? = some (.int .i64 (n : Int)) := rfl
theorem gcs_size (n : Nat) (G : Nat → Nat → Bool) : (gcs n G).size = 577 := by unfold gcs; simp [rng_len]
theorem gcs_get (n : Nat) (G : Nat → Nat → Bool) {i j : Nat} (hi : i < 24) (hj : j < 24) : (gcs n G)[1 + i * 24 + j]? = some (.bool (G i j)) := by
  unfold gcs
  rw [List.getElem?_toArray, show 1 + i * 24 + j = (i * 24 + j) + 1 by omega, List.getElem?_cons_succ, rng_get _ (by omega), show (i * 24 + j) / 24 = i by omega, show (i * 24 + j) % 24 = j by omega]
theorem gcs_set (n : Nat) (G : Nat → Nat → Bool) {i j : Nat} (hi : i < 24) (hj : j < 24) (b : Bool) : (gcs n G).setIfInBounds (1 + i * 24 + j) (.bool b) = gcs n (put2 G i j b) := by
  unfold gcs
  rw [List.setIfInBounds_toArray, show 1 + i * 24 + j = (i * 24 + j) + 1 by omega, List.set_cons_succ, rng_set _ (.bool b) (fun k => .bool (put2 G i j b (k / 24) (k % 24))) (by omega) ?_ ?_]
  · show Value.bool (put2 G i j b ((i * 24 + j) / 24) ((i * 24 + j) % 24)) = _
    rw [show (i * 24 + j) / 24 = i by omega, show (i * 24 + j) % 24 = j by omega]
    unfold put2; rw [if_pos ⟨rfl, rfl⟩]
  · intro k hk hne
    show Value.bool (put2 G i j b (k / 24) (k % 24)) = _
    unfold put2; rw [if_neg (by omega)]
def fcs (g : Nat) (vm vq : Value) (p b : Nat → Int) (u : Nat → Bool) : Array Value :=
  (Value.pointer (some ⟨g, 0, none⟩) :: vm :: (rng (fun k => .int .i64 (p k)) 24 ++ (rng (fun k => .int .i64 (b k)) 24 ++ (rng (fun k => .bool (u k)) 24 ++ [vq])))).toArray
section
variable (g : Nat) (vm vq : Value) (p b : Nat → Int) (u : Nat → Bool)
theorem fcs_g : (fcs g vm vq p b u)[0]? = some (.pointer (some ⟨g, 0, none⟩)) := rfl
theorem fcs_m : (fcs g vm vq p b u)[1]? = some vm := rfl
theorem fcs_p {i : Nat} (h : i < 24) : (fcs g vm vq p b u)[2 + i]? = some (.int .i64 (p i)) := by
  unfold fcs
  rw [List.getElem?_toArray, show 2 + i = i + 1 + 1 by omega, List.getElem?_cons_succ, List.getElem?_cons_succ, List.getElem?_append_left (by rw [rng_len]; omega), rng_get _ h]
theorem fcs_b {i : Nat} (h : i < 24) : (fcs g vm vq p b u)[26 + i]? = some (.int .i64 (b i)) := by
  unfold fcs
  rw [List.getElem?_toArray, show 26 + i = (24 + i) + 1 + 1 by omega, List.getElem?_cons_succ, List.getElem?_cons_succ, List.getElem?_append_right (by rw [rng_len]; omega), rng_len, show 24 + i - 24 = i by omega, List.getElem?_append_left (by rw [rng_len]; omega), rng_get _ h]
theorem fcs_u {i : Nat} (h : i < 24) : (fcs g vm vq p b u)[50 + i]? = some (.bool (u i)) := by
  unfold fcs
  rw [List.getElem?_toArray, show 50 + i = (48 + i) + 1 + 1 by omega, List.getElem?_cons_succ, List.getElem?_cons_succ, List.getElem?_append_right (by rw [rng_len]; omega), rng_len, List.getElem?_append_right (by rw [rng_len]; omega), rng_len, show 48 + i - 24 - 24 = i by omega, List.getElem?_append_left (by rw [rng_len]; omega), rng_get _ h]
theorem fcs_q : (fcs g vm vq p b u)[74]? = some vq := by
  unfold fcs
  rw [List.getElem?_toArray, show 74 = 72 + 1 + 1 by omega, List.getElem?_cons_succ, List.getElem?_cons_succ, List.getElem?_append_right (by rw [rng_len]; omega), rng_len, List.getElem?_append_right (by rw [rng_len]; omega), rng_len, List.getElem?_append_right (by rw [rng_len]; omega), rng_len]; rfl
theorem fcs_sp {i : Nat} (h : i < 24) (x : Int) : (fcs g vm vq p b u).setIfInBounds (2 + i) (.int .i64 x) = fcs g vm vq (put p i x) b u := by
  unfold fcs
  rw [List.setIfInBounds_toArray, show 2 + i = i + 1 + 1 by omega, List.set_cons_succ, List.set_cons_succ, List.set_append_left _ _ (by rw [rng_len]; omega), rng_set _ _ (fun k => .int .i64 (put p i x k)) h (by rw [put_at]) (fun j _ hj => by rw [put_ne _ _ hj])]
theorem fcs_sb {i : Nat} (h : i < 24) (x : Int) : (fcs g vm vq p b u).setIfInBounds (26 + i) (.int .i64 x) = fcs g vm vq p (put b i x) u := by
  unfold fcs
  rw [List.setIfInBounds_toArray, show 26 + i = (24 + i) + 1 + 1 by omega, List.set_cons_succ, List.set_cons_succ, List.set_append_right _ _ (by rw [rng_len]; omega), rng_len, show 24 + i - 24 = i by omega, List.set_append_left _ _ (by rw [rng_len]; omega), rng_set _ _ (fun k => .int .i64 (put b i x k)) h (by rw [put_at]) (fun j _ hj => by rw [put_ne _ _ hj])]
theorem fcs_su {i : Nat} (h : i < 24) (x : Bool) : (fcs g vm vq p b u).setIfInBounds (50 + i) (.bool x) = fcs g vm vq p b (put u i x) := by
  unfold fcs
  rw [List.setIfInBounds_toArray, show 50 + i = (48 + i) + 1 + 1 by omega, List.set_cons_succ, List.set_cons_succ, List.set_append_right _ _ (by rw [rng_len]; omega), rng_len, List.set_append_right _ _ (by rw [rng_len]; omega), rng_len, show 48 + i - 24 - 24 = i by omega, List.set_append_left _ _ (by rw [rng_len]; omega), rng_set _ _ (fun k => .bool (put u i x k)) h (by rw [put_at]) (fun j _ hj => by rw [put_ne _ _ hj])]
theorem fcs_sq (x : Value) : (fcs g vm vq p b u).setIfInBounds 74 x = fcs g vm x p b u := by
  unfold fcs
  rw [List.setIfInBounds_toArray, show 74 = 72 + 1 + 1 by omega, List.set_cons_succ, List.set_cons_succ, List.set_append_right _ _ (by rw [rng_len]; omega), rng_len, List.set_append_right _ _ (by rw [rng_len]; omega), rng_len, List.set_append_right _ _ (by rw [rng_len]; omega), rng_len]; rfl
end
def qi (q : List Nat) : List Int := q.map (fun x : Nat => (x : Int))
theorem qi_len (q : List Nat) : (qi q).length = q.length := List.length_map _
def qln (v : Option Value) : Nat := match v with | some (.slice _ k _) => k | _ => 0
def ngv (v : Option Value) : Bool := match v with | some (.int _ x) => decide (x < 0) | _ => false
/-- What is left of a search. -/
def mes (n fb : Nat) (w : World) : Nat := match w.heap[fb]? with | some (.cells cs _ _) => qln cs[74]? + cnt (fun i => ngv cs[2 + i]?) n | _ => 0
theorem mes_is {n fb gb k c ty : Nat} {w : World} {vm : Value} {A : Option Addr} {p b : Nat → Int} {u : Nat → Bool} (h : w.heap[fb]? = some (.cells (fcs gb vm (.slice A k c) p b u) ty)) (hn : n ≤ 24) : mes n fb w = k + cnt (fun i => decide (p i < 0)) n := by
  unfold mes
  rw [h]
  simp only []
  rw [fcs_q]
  show k + _ = _
  congr 1
  refine cnt_congr fun i hi => ?_
  rw [fcs_p _ _ _ _ _ _ (by omega)]; rfl
/-- The mates as the numbers of a slice. -/
def ml (n : Nat) (m : Nat → Nat) : List Int := (List.range n).map (fun u => (m u : Int))
theorem ml_len (n : Nat) (m : Nat → Nat) : (ml n m).length = n := by unfold ml; rw [List.length_map, List.length_range]
theorem ml_get {n : Nat} (m : Nat → Nat) {i : Nat} (h : i < n) : (ml n m)[i]? = some (m i : Int) := by unfold ml; rw [List.getElem?_map, List.getElem?_range h]; rfl
theorem ml_set {n : Nat} (m : Nat → Nat) {i : Nat} (h : i < n) (x : Nat) : (ml n m).set i (x : Int) = ml n (put m i x) := by
  refine List.ext_getElem? fun j => ?_
  by_cases hj : j < n
  · by_cases e : i = j
    · subst e; rw [List.getElem?_set_self (by rw [ml_len]; exact hj), ml_get _ hj, put_at]
    · rw [List.getElem?_set_ne e, ml_get _ hj, ml_get _ hj, put_ne _ _ (fun q => e q.symm)]
  · rw [List.getElem?_eq_none (by rw [List.length_set, ml_len]; omega), List.getElem?_eq_none (by rw [ml_len]; omega)]
end Go.Proofs.Ythfdjccdelbeeaa.Gm
end
section
namespace Go.Proofs.Ythfdjccdelbeeaa.PT
open Go.RowKit Go.Proofs.YthfdjccdelbeeaaW.PrintWords Go.Proofs.YthfdjccdelbeeaaW.PrintLast Go.Proofs.YthfdjccdelbeeaaW.PrintMore
set_option linter.unusedVariables false
set_option linter.unusedSimpArgs false
theorem lhid {p : Prop} (h : p) : Hid p := h
/-- What a call changes: blocks of F; what is new is no change. -/
structure Chg (F : Nat → Prop) (w W : World) : Prop where
  os : W.os = w.os
  tape : W.tape = w.tape
  output : W.output = w.output
  size : w.heap.size ≤ W.heap.size
  block : ∀ k, k < w.heap.size → ¬ F k → W.heap[k]? = w.heap[k]?
theorem Chg.of_below {F : Nat → Prop} {w W : World} (h : Below w.heap.size w W) : Chg F w W := ⟨h.os, h.tape, h.output, h.size, fun k hk _ => h.block k hk⟩
theorem Chg.refl (F : Nat → Prop) (w : World) : Chg F w w := Chg.of_below (Below.refl _ _)
theorem Chg.below {F : Nat → Prop} {w W : World} {B : Nat} (h : Chg F w W) (hB : B ≤ w.heap.size) (hF : ∀ k, F k → B ≤ k) : Below B w W :=
  ⟨h.os, h.tape, h.output, h.size, fun k hk => h.block k (by omega) (fun q => by have := hF k q; omega)⟩
theorem Chg.trans {F F' : Nat → Prop} {a b c : World} (h : Chg F a b) (k : Chg F' b c) (hF : ∀ i, i < a.heap.size → F' i → F i) : Chg F a c :=
  ⟨k.os.trans h.os, k.tape.trans h.tape, k.output.trans h.output, Nat.le_trans h.size k.size, fun i hi hn => by
    rw [k.block i (Nat.lt_of_lt_of_le hi h.size) (fun q => hn (hF i hi q))]; exact h.block i hi hn⟩
theorem Chg.next {F : Nat → Prop} {a b c : World} (h : Chg F a b) (k : Below b.heap.size b c) : Chg F a c := h.trans (Chg.of_below (F := fun _ => False) k) (fun _ _ q => q.elim)
theorem Chg.mono {F F' : Nat → Prop} {a b : World} (h : Chg F a b) (hF : ∀ i, i < a.heap.size → F i → F' i) : Chg F' a b :=
  ⟨h.os, h.tape, h.output, h.size, fun i hi hn => h.block i hi (fun q => hn (hF i hi q))⟩
theorem Chg.set {F : Nat → Prop} {w W : World} (h : Chg F w W) {p : Addr} (hp : w.heap.size ≤ p.block ∨ F p.block) (u : Value) : Chg F w (W.setCell p u) :=
  ⟨h.os, h.tape, h.output, by simpa using h.size, fun k hk hn => by
    rw [Below.heap_setCell _ _ _ _ (fun e => by rcases hp with q | q; omega; exact hn (by rw [e]; exact q))]; exact h.block k hk hn⟩
/-- What a buyer handed in; v: the value of the slice of offers. -/
structure Hd where
  sl : Bool
  sh : Bool
  key : Int
  v : Value
  off : List S50
def hcl (h : Hd) : List Value := [.bool h.sl, .bool h.sh, .int .u64 h.key, h.v]
def hcs : List Hd → List Value
  | [] => []
  | h :: H => hcl h ++ hcs H
def tcs (lots st : Int) (H : List Hd) : Array Value := (Value.int .i64 lots :: Value.int .i64 st :: hcs H).toArray
/-- A tender in block t; F: blocks in which shown offers may lie. -/
structure TN (base : Nat) (F : Nat → Prop) (w : World) (t : Nat) (lots st : Int) (H : List Hd) : Prop where
  blk : w.heap[t]? = some (.cells (tcs lots st H) 85 (0, 0))
  len : H.length = 8
  rows : ∀ h ∈ H, Kd.R k50 50 w base F h.v h.off
  nF : ¬ F t
section
variable {base t : Nat} {F : Nat → Prop} {w W : World} {lots st : Int} {H : List Hd}
end
end Go.Proofs.Ythfdjccdelbeeaa.PT
end
section
namespace Go.Proofs.Ythfdjccdelbeeaa.PT
open Go.RowKit Go.Proofs.YthfdjccdelbeeaaW.PrintWords Go.Proofs.YthfdjccdelbeeaaW.PrintLast Go.Proofs.YthfdjccdelbeeaaW.PrintMore Go.Proofs.Ythfdjccdelbeeaa.Gm
set_option linter.unusedVariables false
set_option linter.unusedSimpArgs false
def mateI (n : Nat) (m : Nat → Nat) (v : Nat) : Int := if m v = n then -1 else (m v : Int)
theorem ml_rd {n v : Nat} (m : Nat → Nat) (h : v < n) : rd (ml n m) (v : Int) = (m v : Int) := by unfold rd; rw [Int.toNat_natCast, List.getD_eq_getElem?_getD, ml_get m h]; rfl
theorem ml_at {w : World} {A : Option Addr} {n v : Nat} {m : Nat → Nat} (hM : Kd.C (Kd.int .i64) w A n (ml n m)) (h : v < n) : ∃ ad, A = some ad ∧ w.cell? (ad.add v) = some (.int .i64 (m v : Int)) := by
  obtain ⟨ad, eA, y⟩ := Kd.at_int hM (v : Int) (by omega) (by omega)
  rw [ml_rd m h, Int.toNat_natCast] at y
  exact ⟨ad, eA, y⟩
theorem ml_C {w : World} {base n c : Nat} {ok : Nat → Prop} {A : Option Addr} {m : Nat → Nat} (h : Kd.R (Kd.int .i64) 3 w base ok (.slice A n c) (ml n m)) : Kd.C (Kd.int .i64) w A n (ml n m) := by
  have := (Kd.R_reads' h).2.2
  rwa [ml_len] at this
set_option maxHeartbeats 12800000 in
set_option maxRecDepth 100000 in
theorem mate_c (w : World) (fb gb n v : Nat) (vq : Value) (p b : Nat → Int) (u : Nat → Bool) (G : Nat → Nat → Bool) (m : Nat → Nat) (A : Option Addr) (c : Nat) (hF : w.heap[fb]? = some (.cells (fcs gb (.slice A n c) vq p b u) 141)) (hG : w.heap[gb]? = some (.cells (gcs n G) 128)) (hM : Kd.C (Kd.int .i64) w A n (ml n m)) (hn : v < n) : Calls Try.prog 75 #[.pointer (some ⟨fb, 0, none⟩), .int .i64 (v : Int)] w fun e w' => e = .returned (.int .i64 (mateI n m v)) ∧ Below w.heap.size w w' := by
  have hu141 := Try.underlying141
  have hu128 := Try.underlying128
  have hu26 := Try.underlying26
  have hu126 := Try.underlying126
  have hu125 := Try.underlying125
  have hu139 := Try.underlying139
  have HF := lhid hF
  have HG := lhid hG
  have HM := lhid hM
  have HN := lhid hn
  clear hF hG hM
  go_enter Try.func75, Try.ntmps75
  have f0 := (blk_cell HF.out 0).trans (fcs_g ..)
  have f1 := (blk_cell HF.out 1).trans (fcs_m ..)
  have g0 := (blk_cell HG.out 0).trans (gcs_n ..)
  have hvi : (v : Int) < (n : Int) := by omega
  have hv0 : (0 : Int) ≤ (v : Int) := by omega
  obtain ⟨ad, eA, y⟩ := ml_at HM.out HN.out
  subst eA
  by_cases e : m v = n
  · have d : ((m v : Int) == (n : Int)) = true := beq_iff_eq.2 (by omega)
    have HE := lhid e
    clear e
    go_wp2_with fail
    go_quiet (fail)
    go_wp2_with fail
    go_ret
    exact ⟨by unfold mateI; rw [if_pos HE.out]; rfl, pw_below_drewN (Below.refl _ _) _⟩
  · have d : ((m v : Int) == (n : Int)) = false := beq_eq_false_iff_ne.2 (by omega)
    have HE := lhid e
    clear e
    go_wp2_with fail
    go_quiet (fail)
    go_wp2_with fail
    go_ret
    exact ⟨by unfold mateI; rw [if_neg HE.out]; rfl, pw_below_drewN (Below.refl _ _) _⟩
theorem mate_n (w : World) (fb gb n v : Nat) (vq : Value) (p b : Nat → Int) (u : Nat → Bool) (G : Nat → Nat → Bool) (m : Nat → Nat) (A : Option Addr) (c : Nat) (hF : w.heap[fb]? = some (.cells (fcs gb (.slice A n c) vq p b u) 141)) (hG : w.heap[gb]? = some (.cells (gcs n G) 128)) (hM : Kd.C (Kd.int .i64) w A n (ml n m)) (hn : v < n) (h : m v = n) : Calls Try.prog 75 #[.pointer (some ⟨fb, 0, none⟩), .int .i64 (v : Int)] w fun e w' => e = .returned (.int .i64 (-1)) ∧ Below w.heap.size w w' := by
  have := mate_c w fb gb n v vq p b u G m A c hF hG hM hn
  rwa [show mateI n m v = -1 by unfold mateI; rw [if_pos h]] at this
theorem mate_v (w : World) (fb gb n v : Nat) (vq : Value) (p b : Nat → Int) (u : Nat → Bool) (G : Nat → Nat → Bool) (m : Nat → Nat) (A : Option Addr) (c : Nat) (hF : w.heap[fb]? = some (.cells (fcs gb (.slice A n c) vq p b u) 141)) (hG : w.heap[gb]? = some (.cells (gcs n G) 128)) (hM : Kd.C (Kd.int .i64) w A n (ml n m)) (hn : v < n) (h : m v < n) : Calls Try.prog 75 #[.pointer (some ⟨fb, 0, none⟩), .int .i64 (v : Int)] w fun e w' => e = .returned (.int .i64 (m v : Int)) ∧ Below w.heap.size w w' := by
  have := mate_c w fb gb n v vq p b u G m A c hF hG hM hn
  rwa [show mateI n m v = (m v : Int) by unfold mateI; rw [if_neg (by omega)]] at this
/-- Pairs that are counted: i and its mate behind it. -/
def prC (n : Nat) (m : Nat → Nat) (k : Nat) : Nat := cnt (fun i => decide (i < m i ∧ m i < n)) k
theorem prC_le (n : Nat) (m : Nat → Nat) (k : Nat) : prC n m k ≤ k := cnt_le _ _
theorem prC_yes {n : Nat} {m : Nat → Nat} {k : Nat} (h : k < m k ∧ m k < n) : prC n m (k + 1) = prC n m k + 1 := by
  show cnt _ k + _ = _
  rw [if_pos (decide_eq_true h)]; rfl
theorem prC_no {n : Nat} {m : Nat → Nat} {k : Nat} (h : ¬ (k < m k ∧ m k < n)) : prC n m (k + 1) = prC n m k := by
  show cnt _ k + _ = _
  rw [if_neg (by simpa using h)]; rfl
set_option maxHeartbeats 12800000 in
set_option maxRecDepth 100000 in
theorem pairs_c (w : World) (n : Nat) (m : Nat → Nat) (A : Option Addr) (c : Nat) (hM : Kd.C (Kd.int .i64) w A n (ml n m)) (hc : n ≤ c) (hn : n ≤ 1000) : Calls Try.prog 65 #[.slice A n c] w fun e w' => e = .returned (.int .i64 (prC n m n)) ∧ w = w' := by
  have hu141 := Try.underlying141
  have hu128 := Try.underlying128
  have hu26 := Try.underlying26
  have hu126 := Try.underlying126
  have hu125 := Try.underlying125
  have hu139 := Try.underlying139
  have HM := lhid hM
  have HN := lhid hn
  have HC := lhid hc
  clear hM hn hc
  go_enter Try.func65, Try.ntmps65
  go_upto_region 3 with (fail)
  go_loop [3, 8] (fun r i => ∃ k : Nat, k ≤ n ∧ i = .int .i64 k ∧ r = .int .i64 (prC n m k)) (fun _ i => n - (intOf i).toNat)
  case atStart => exact ⟨0, Nat.zero_le _, rfl, rfl⟩
  case round =>
    obtain ⟨k, hk, rfl, rfl⟩ := hrel
    by_cases hlt : k < n
    · have h24 : n ≤ 1000 := HN.out
      have hki : (k : Int) < (n : Int) := by omega
      have hk0 : (0 : Int) ≤ (k : Int) := by omega
      obtain ⟨ad, eA, y⟩ := ml_at HM.out hlt
      subst eA
      have hcb := prC_le n m k
      by_cases d : k < m k ∧ m k < n
      · have d1 : (k : Int) < (m k : Int) := by omega
        have d2 : (m k : Int) < (n : Int) := by omega
        have HD := lhid d
        clear d
        go_wp2_with fail
        go_round
        case rel => exact ⟨k + 1, by omega, by simp, by rw [prC_yes HD.out]; (first | done | simp)⟩
        case measure => simp [intOf]; omega
      · have HD := lhid d
        by_cases d1 : k < m k
        · have d2 : (k : Int) < (m k : Int) := by omega
          have d3 : ¬ (m k : Int) < (n : Int) := by omega
          clear d
          go_wp2_with fail
          go_round
          case rel => exact ⟨k + 1, by omega, by simp, by rw [prC_no HD.out]; (first | done | simp)⟩
          case measure => simp [intOf]; omega
        · have d2 : ¬ (k : Int) < (m k : Int) := by omega
          clear d
          go_wp2_with fail
          go_round
          case rel => exact ⟨k + 1, by omega, by simp, by rw [prC_no HD.out]; (first | done | simp)⟩
          case measure => simp [intOf]; omega
    have hne : k = n := by omega
    subst hne
    go_wp2_with fail
    go_ret
    exact ⟨rfl, rfl⟩
theorem nil_eqI (a : Option Addr) (n c : Nat) (w : World) : (binOp .eql 26 (.slice a n c) (.slice none 0 0)).run Try.prog w = .ok (.bool a.isNone) w := by
  have h : ∀ d : Nat, (Op.equalIn (d + 1) 26 (.slice a n c) (.slice none 0 0)).run Try.prog w = .ok a.isNone w := fun d => by
    cases a <;> simp [Op.equalIn, run_underlying Try.underlying26]
  simp only [binOp]
  simp [Op.equal, Op.maxDepth, h 9999]
set_option maxHeartbeats 12800000 in
set_option maxRecDepth 100000 in
theorem cloneI_calls (w : World) (A : Option Addr) (c : Nat) (xs : List Int) (hC : Kd.C (Kd.int .i64) w A xs.length xs) (hc : xs.length ≤ c) (hl : xs.length ≤ 1000000) :
    Calls Try.prog 73 #[.slice A xs.length c] w fun e w' => ∃ v, e = .returned v ∧ Kd.R (Kd.int .i64) 3 w' w.heap.size (fun _ => True) v xs ∧ Below w.heap.size w w' := by
  have HC := lhid hC
  have HB := Aside0.mk (Below.refl w.heap.size w)
  clear hC
  cases A with
  | none =>
    have hx : xs = [] := by
      cases xs with
      | nil => rfl
      | cons x xs => obtain ⟨ad, e, _⟩ := HC.out.2.2 (by simp); cases e
    subst hx
    have hnil := nil_eqI none 0 c
    go_enter Try.func73, Try.ntmps73
    go_wp2_with fail
    go_ret
    exact ⟨_, rfl, Kd.R_nil _ _ _ _ _, HB.out⟩
  | some ad =>
    have hnil := nil_eqI (some ad) xs.length c
    go_enter Try.func73, Try.ntmps73
    go_wp2_with (first | ((with_reducible refine gate_dst (N := 5) rfl ?_); refine Kd.R_lit (Kd.int .i64) _ 3 ?hg (N := 5) ?hd (xs := ([] : List Int)) (inner := []) (ok := fun _ => True) (okp := fun _ => True) ?hr ?hp (fun _ hk => hk) trivial (Below.refl _ _) (Nat.le_refl _) (by simp) ?_; (case hd => rfl); (case hg => rfl); (case hr => first | (go_simp; done) | (go_simp; rfl)); (case hp => exact Reps.none _ _); intro v1 w1 ho8 hb hg_ hnew_; clear hg_ hnew_; have HO1 := Aside0.mk ho8; have HB1 := Aside0.mk hb; clear ho8 hb) | ((with_reducible refine gate_builtin (b := .append) (xs := #[.tmp 5, .tmp 6]) rfl ?_); at_builtin; refine Kd.R_append_rows (Kd.int .i64) (w0 := w) w.heap.size rfl (.tmp 5) (.tmp 6) 26 3 (.int .i64 0) 8 rfl Try.underlying26 info3 rfl (by decide) (by omega) v1 [] xs _ _ _ (fun _ => True) (fun _ => False) rfl rfl ?aO ?aR (fun _ _ h => h) (fun _ h => h.elim) ?aF ?aB ?aS ?aL ?_; (case aR => exact (Kd.C_below HC.out HB1.out)); (case aB => exact HB1.out); (case aF => exact (fun _ _ => trivial)); (case aO => exact HO1.out); (case aS => exact (below_size HB1.out)); (case aL => simp; omega); intro v2 w2 ho hb hg hat; have HO2 := Aside0.mk ho; have HB2 := Aside0.mk hb; clear ho hb hg hat))
    go_ret
    exact ⟨_, rfl, HO2.out, HB2.out⟩
end Go.Proofs.Ythfdjccdelbeeaa.PT
end
