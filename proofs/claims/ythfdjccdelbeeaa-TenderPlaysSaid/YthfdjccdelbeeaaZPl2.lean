/-
  The texts that the theorem in YthfdjccdelbeeaaZRowPl rests on, merged (part 3); only what it reaches.
-/
import Derived.Test.YthfdjccdelbeeaaProg
import Derived.Below
import Derived.Deep.Draws
import Derived.Deep.AppendLies
import Derived.Maps.AppendAt
import Derived.OwnWalk
import Derived.Laws.BytesArg
import Derived.Laws.MakeOwn
import Derived.Laws.OwnMore
import Derived.Deep.OwnRows
import Derived.Tactics
import Derived.Lib.ConvBytes
import Derived.Laws.Slices
import Derived.WalkKit
import Derived.KernelRfl
import Derived.RowKit3
import Derived.Deep.LoopGhost
import Derived.Deep.QuietTactic
import Derived.BigQuiet
import Derived.WideLaws
import Derived.Deep.DeepCutAuto
import Derived.Deep.CutBlock
import Derived.Deep.RegionHeld3
import Derived.Laws.Rows
import Derived.Lib.AppendStr
import Derived.ArgAppend
import Derived.Laws.IdiomCopy
import Derived.OrdersHeld
import Derived.Laws.BitsLemmas
import Derived.RowKit
import Derived.Laws.BitsAllLaws
import Derived.StillTailTactics
import Derived.Laws.EntriesVeiled
import Derived.Deep.Slices
import Derived.ProofKit
import Derived.WalkSmall
import Derived.Deep.MidRow
import Derived.Deep.WholeRow
import Derived.Test.YthfdjccdelbeeaaZPl0
import Derived.Test.YthfdjccdelbeeaaZPl1
section
namespace Go.Proofs.Ythfdjccdelbeeaa.PT
open Go.RowKit Go.Proofs.YthfdjccdelbeeaaW.PrintWords Go.Proofs.YthfdjccdelbeeaaW.PrintLast Go.Proofs.YthfdjccdelbeeaaW.PrintMore
attribute [local go_sem] max2_int min2_int max_two min_two max_three min_three max_four min_four   -- for this text's walks alone
set_option linter.unusedVariables false
set_option linter.unusedSimpArgs false
def errW : Option Int → Value
  | none => .nilIface
  | some c => .iface 0 (.int .i64 c)
theorem errW_none : errW none = .nilIface := rfl
theorem errW_some (c : Int) : errW (some c) = .iface 0 (.int .i64 c) := rfl
theorem info3 : (Try.prog.info? 3).map (fun i => (i.zero, i.size, i.bytes)) = some (some (.int .i64 0), 1, 8) := by kernel_rfl
theorem info4 : (Try.prog.info? 4).map (fun i => (i.zero, i.size, i.bytes)) = some (some (.bool false), 1, 1) := by kernel_rfl
theorem info22 : (Try.prog.info? 22).map (fun i => (i.zero, i.size, i.bytes)) = some (some (.slice none 0 0), 1, 24) := by kernel_rfl
theorem info36 : (Try.prog.info? 36).map (fun i => (i.zero, i.size, i.bytes)) = some (some (.int .u64 0), 1, 8) := by kernel_rfl
theorem info50 : (Try.prog.info? 50).map (fun i => (i.zero, i.size, i.bytes)) = some (some (.agg #[(.int .i64 0), (.int .i64 0), (.int .i64 0)]), 3, 24) := by kernel_rfl
structure S50 where
  f0 : Int
  f1 : Int
  f2 : Int
def z50 : S50 := ⟨(0 : Int), (0 : Int), (0 : Int)⟩
def k50 : Kd S50 := Kd.iso (Kd.pair (Kd.int .i64) (Kd.pair (Kd.int .i64) (Kd.int .i64))) (fun x : S50 => (x.f0, x.f1, x.f2))
theorem k50_open {w : World} {x : S50} {cs : List Value} (h : k50.K w x cs) : cs = [.int .i64 x.f0, .int .i64 x.f1, .int .i64 x.f2] := by
  obtain ⟨_, _, rfl, rfl, ⟨_, _, rfl, rfl, rfl⟩⟩ := h
  exact rfl
theorem k50_openM {w : World} {base : Nat} {ok : Nat → Prop} {x : S50} {cs : List Value} (h : k50.M w base ok x cs) : cs = [.int .i64 x.f0, .int .i64 x.f1, .int .i64 x.f2] := by
  obtain ⟨_, _, rfl, rfl, ⟨_, _, rfl, rfl, rfl⟩⟩ := h
  exact rfl
theorem k50_mkM (w : World) (base : Nat) (ok : Nat → Prop) (x : S50)  : k50.M w base ok x [.int .i64 x.f0, .int .i64 x.f1, .int .i64 x.f2] := ⟨[.int .i64 x.f0], [.int .i64 x.f1, .int .i64 x.f2], rfl, rfl, ⟨[.int .i64 x.f1], [.int .i64 x.f2], rfl, rfl, rfl⟩⟩
def rd_T50 (xs : List S50) (i : Int) : S50 := xs.getD i.toNat z50
theorem at_T50 {w : World} {A : Option Addr} {n : Nat} {xs : List S50} (h : Kd.C k50 w A n xs) (i : Int) (h0 : 0 ≤ i) (h1 : i < n) : ∃ ad , A = some ad ∧ w.cell? (ad.add (i.toNat * 3)) = some (.int .i64 (rd_T50 xs i).f0) ∧ w.cell? ⟨(ad.add (i.toNat * 3)).block, (ad.add (i.toNat * 3)).off + 1, none⟩ = some (.int .i64 (rd_T50 xs i).f1) ∧ w.cell? ⟨(ad.add (i.toNat * 3)).block, (ad.add (i.toNat * 3)).off + 2, none⟩ = some (.int .i64 (rd_T50 xs i).f2) := by
  obtain ⟨ad, c, e, _, hK, hc0⟩ := Kd.C_get h z50 i h0 h1
  have hc : ∀ j u, c[j]? = some u → w.cell? (ad.add (i.toNat * 3 + j)) = some u := hc0
  obtain rfl := k50_open hK
  exact ⟨ad, e, hc 0 _ rfl, by rw [← add_field _ _ 1 (by omega)]; exact hc 1 _ rfl, by rw [← add_field _ _ 2 (by omega)]; exact hc 2 _ rfl⟩
def rd_L3 (xs : List (List S50)) (i : Int) : (List S50) := xs.getD i.toNat ([] : List S50)
theorem at_L3 {w : World} {A : Option Addr} {n : Nat} {xs : List (List S50)} (h : Kd.C (Kd.slice 50 k50) w A n xs) (i : Int) (h0 : 0 ≤ i) (h1 : i < n) : ∃ ad A0 c0, A = some ad ∧ w.cell? (ad.add i.toNat) = some (.slice A0 (rd_L3 xs i).length c0) ∧ (rd_L3 xs i).length ≤ c0 ∧ k50.C w A0 (rd_L3 xs i).length (rd_L3 xs i) := by
  obtain ⟨ad, c, e, _, hK, hc0⟩ := Kd.C_get h ([] : List S50) i h0 h1
  have hc : ∀ j u, c[j]? = some u → w.cell? (ad.add (i.toNat * 1 + j)) = some u := hc0
  obtain ⟨A0, c0, rfl, l0, g0⟩ := hK
  exact ⟨ad, A0, c0, e, by have hq := hc 0 _ rfl; rwa [Nat.mul_one, Nat.add_zero] at hq, l0, g0⟩
structure S80 where
  f0 : Int
  f1 : Int
  f2 : (List S50)
  f3 : Int
  f4 : Bool
def z80 : S80 := ⟨(0 : Int), (0 : Int), ([] : List S50), (0 : Int), false⟩
def k80 : Kd S80 := Kd.iso (Kd.pair (Kd.int .u8) (Kd.pair (Kd.int .i64) (Kd.pair (Kd.slice 50 k50) (Kd.pair (Kd.int .u64) Kd.bool)))) (fun x : S80 => (x.f0, x.f1, x.f2, x.f3, x.f4))
theorem k80_open {w : World} {x : S80} {cs : List Value} (h : k80.K w x cs) : ∃ A2 c2, cs = [.int .u8 x.f0, .int .i64 x.f1, .slice A2 x.f2.length c2, .int .u64 x.f3, .bool x.f4] ∧ x.f2.length ≤ c2 ∧ k50.C w A2 x.f2.length x.f2 := by
  obtain ⟨_, _, rfl, rfl, ⟨_, _, rfl, rfl, ⟨_, _, rfl, ⟨A2, c2, rfl, l2, g2⟩, ⟨_, _, rfl, rfl, rfl⟩⟩⟩⟩ := h
  exact ⟨A2, c2, rfl, l2, g2⟩
def rd_T80 (xs : List S80) (i : Int) : S80 := xs.getD i.toNat z80
theorem at_T80 {w : World} {A : Option Addr} {n : Nat} {xs : List S80} (h : Kd.C k80 w A n xs) (i : Int) (h0 : 0 ≤ i) (h1 : i < n) : ∃ ad A2 c2, A = some ad ∧ w.cell? (ad.add (i.toNat * 5)) = some (.int .u8 (rd_T80 xs i).f0) ∧ w.cell? ⟨(ad.add (i.toNat * 5)).block, (ad.add (i.toNat * 5)).off + 1, none⟩ = some (.int .i64 (rd_T80 xs i).f1) ∧ w.cell? ⟨(ad.add (i.toNat * 5)).block, (ad.add (i.toNat * 5)).off + 2, none⟩ = some (.slice A2 (rd_T80 xs i).f2.length c2) ∧ w.cell? ⟨(ad.add (i.toNat * 5)).block, (ad.add (i.toNat * 5)).off + 3, none⟩ = some (.int .u64 (rd_T80 xs i).f3) ∧ w.cell? ⟨(ad.add (i.toNat * 5)).block, (ad.add (i.toNat * 5)).off + 4, none⟩ = some (.bool (rd_T80 xs i).f4) ∧ (rd_T80 xs i).f2.length ≤ c2 ∧ k50.C w A2 (rd_T80 xs i).f2.length (rd_T80 xs i).f2 := by
  obtain ⟨ad, c, e, _, hK, hc0⟩ := Kd.C_get h z80 i h0 h1
  have hc : ∀ j u, c[j]? = some u → w.cell? (ad.add (i.toNat * 5 + j)) = some u := hc0
  obtain ⟨A2, c2, rfl, l2, g2⟩ := k80_open hK
  exact ⟨ad, A2, c2, e, hc 0 _ rfl, by rw [← add_field _ _ 1 (by omega)]; exact hc 1 _ rfl, by rw [← add_field _ _ 2 (by omega)]; exact hc 2 _ rfl, by rw [← add_field _ _ 3 (by omega)]; exact hc 3 _ rfl, by rw [← add_field _ _ 4 (by omega)]; exact hc 4 _ rfl, l2, g2⟩
end Go.Proofs.Ythfdjccdelbeeaa.PT

namespace Go.Proofs.Ythfdjccdelbeeaa.PT
open Go.RowKit Go.Proofs.YthfdjccdelbeeaaW.PrintWords Go.Proofs.YthfdjccdelbeeaaW.PrintLast Go.Proofs.YthfdjccdelbeeaaW.PrintMore
theorem pSq : (∀ (l : List Value) (i : Nat) (v : Value), l.toArray.setIfInBounds i v = (l.set i v).toArray) ∧ (∀ (a b : Value) (l : List Value), (a :: l).set 0 b = b :: l) ∧ (∀ (a b : Value) (l : List Value) (n : Nat), (a :: l).set (n + 1) b = a :: l.set n b) ∧ (∀ n : Int, IntKind.i64.wrap n = Go.RowKit.wrap64 n) ∧ (∀ n : Int, IntKind.i32.wrap n = Go.RowKit.wrap32 n) := ⟨fun _ _ _ => by simp, fun _ _ _ => rfl, fun _ _ _ _ => rfl, i64_w, i32_w⟩
section
variable {α : Type} {d : Kd α} {e : Nat} {w : World} {base : Nat} {ok : Nat → Prop} {v : Value} {xs : List α} {g : Nat} {o : Obj} {w0 : World}
theorem Zra (h : d.R e w base ok v xs) (o : Obj) : d.R e (w.alloc o) base ok v xs := Kd.R_alloc h o
theorem Zrn (h : d.R e w base ok v xs) (m : Nat) : d.R e (w.drewN m) base ok v xs := Kd.R_drewN h m
theorem Zrd (h : d.R e w base ok v xs) : d.R e w.drew base ok v xs := Kd.R_drew h
theorem Zsa (h : Kd.S d e w base ok v xs) (o : Obj) : Kd.S d e (w.alloc o) base ok v xs := Kd.S_alloc h o
theorem Zsn (h : Kd.S d e w base ok v xs) (m : Nat) : Kd.S d e (w.drewN m) base ok v xs := Kd.S_drewN h m
theorem Zsd (h : Kd.S d e w base ok v xs) : Kd.S d e w.drew base ok v xs := Kd.S_drew h
theorem Zka (h : w.heap[g]? = some o) (o' : Obj) : (w.alloc o').heap[g]? = some o := blk_alloc h o'
theorem Zkn (h : w.heap[g]? = some o) (n : Nat) : (w.drewN n).heap[g]? = some o := blk_drewN h n
theorem Zkd (h : w.heap[g]? = some o) : w.drew.heap[g]? = some o := blk_drew h
theorem Zba (h : Below w0.heap.size w0 w) (o : Obj) : Below w0.heap.size w0 (w.alloc o) := below_alloc h o
theorem Zbn {B : Nat} {w W : World} (h : Below B w W) (n : Nat) : Below B w (W.drewN n) := pw_below_drewN h n
theorem Zbd {base : Nat} {w W : World} (h : Below base w W) : Below base w W.drew := below_drew1 h
end
end Go.Proofs.Ythfdjccdelbeeaa.PT
end
section
namespace Go.Proofs.Ythfdjccdelbeeaa.Opn
open Go.RowKit Go.Proofs.YthfdjccdelbeeaaW.PrintWords
def Opens (P : Program) (t : TypeId) {α : Type} (d : Kd α) (ok : α → Prop) : Prop :=
  ∀ (H : Type) (enc : TypeId × Value → H) (w : World) (base : Nat) (spare : Nat → Bool) (held : Bool) (fuel : Nat) (cs : List Value) (x : DataW H × List MemPlace),
    DataW.trod enc P w base spare held fuel t cs = some x → ∃ a, d.K w a cs ∧ ok a
theorem Opens.mono {P : Program} {t : TypeId} {α : Type} {d : Kd α} {ok ok' : α → Prop} (h : Opens P t d ok) (hm : ∀ a, ok a → ok' a) : Opens P t d ok' :=
  fun H enc w base spare held fuel cs x hx => let ⟨a, h1, h2⟩ := h H enc w base spare held fuel cs x hx; ⟨a, h1, hm a h2⟩
theorem opens_int {P : Program} {t : TypeId} {k : IntKind} (ht : P.underlying t = some (.int k)) : Opens P t (Kd.int k) (fun n => (Lit.int k n).wf = true) := by
  intro H enc w base spare held fuel cs x h
  obtain ⟨n, rfl, _, hw⟩ := DataW.trod_int ht h
  exact ⟨n, rfl, hw⟩
theorem opens_bool {P : Program} {t : TypeId} (ht : P.underlying t = some .bool) : Opens P t Kd.bool (fun _ => True) := by
  intro H enc w base spare held fuel cs x h
  obtain ⟨n, rfl, _⟩ := DataW.trod_bool ht h
  exact ⟨n, rfl, trivial⟩
theorem opens_slice {P : Program} {t e : TypeId} {α : Type} [Inhabited α] {d : Kd α} {ok : α → Prop} (ht : P.underlying t = some (.slice e)) (hc : P.cellsOf e = d.sz) (he : Opens P e d ok) :
    Opens P t (Kd.slice e d) (fun l => l.length ≤ maxLen ∧ ∀ x ∈ l, ok x) := by
  intro H enc w base spare held fuel cs x h
  rcases Go.Deep.open_slice ht h with ⟨rfl, _⟩ | ⟨a, len, cap, m, n, D, Pl, rfl, hb, hl, hm, hmm, _, hx⟩
  · exact ⟨[], ⟨none, 0, rfl, Nat.le_refl _, rfl, by simp, fun h0 => absurd h0 (by simp)⟩, by simp, by simp⟩
  · have hlm : len ≤ m := by rw [hmm]; split <;> omega
    obtain ⟨f, hf⟩ := Go.Deep.choose_lt (α := α) (n := len) (p := fun i v => ∃ cs', w.cells? base (a.add (i * P.cellsOf e)) (P.cellsOf e) = some cs' ∧ d.K w v cs' ∧ ok v) (fun i hi => by
      obtain ⟨cs', h1, h2⟩ := hx i (by omega)
      obtain ⟨v, h3, h4⟩ := he H enc w base spare held n cs' _ h2
      exact ⟨v, cs', h1, h3, h4⟩)
    have hget : ∀ j p, ((List.range len).map f)[j]? = some p → j < len ∧ p = f j := by
      intro j p hj
      rw [List.getElem?_map, Option.map_eq_some_iff] at hj
      obtain ⟨i, hi, rfl⟩ := hj
      have := List.getElem?_eq_some_iff.1 hi
      obtain ⟨h1, h2⟩ := this
      simp at h1 h2
      exact ⟨h1, by rw [h2]⟩
    refine ⟨(List.range len).map f, ⟨some a, cap, by simp, by simpa using hl, rfl, by simp; unfold maxLen at hm; omega, fun _ => ⟨a, rfl, fun j p hj => ?_⟩⟩, by simp; omega, fun x hx => ?_⟩
    · obtain ⟨hj1, rfl⟩ := hget j p hj
      obtain ⟨cs', h1, h2, _⟩ := hf j hj1
      obtain ⟨_, hlen, hcell⟩ := World.cells?_some h1
      refine ⟨cs', d.K_len h2, h2, fun i u hu => ?_⟩
      have hi : i < P.cellsOf e := by rw [← hlen]; exact (List.getElem?_eq_some_iff.1 hu).1
      rw [← Go.Deep.add_add, ← hc]
      rw [hcell i hi]; exact hu
    · obtain ⟨i, hi, rfl⟩ := List.mem_map.1 hx
      obtain ⟨_, _, _, h3⟩ := hf i (by simpa using hi)
      exact h3
def OpensFs (P : Program) (fs : List Field) (o : Nat) {α : Type} (d : Kd α) (ok : α → Prop) : Prop :=
  ∀ (H : Type) (enc : TypeId × Value → H) (w : World) (base : Nat) (spare : Nat → Bool) (held : Bool) (cs : List Value), cs.length = o + d.sz →
    (∀ f ∈ fs, ∃ fuel x, DataW.trod enc P w base spare held fuel f.type ((cs.drop f.offset).take (P.cellsOf f.type)) = some x) → ∃ a, d.K w a (cs.drop o) ∧ ok a
theorem opensFs_one {P : Program} {f : Field} {o : Nat} {α : Type} {d : Kd α} {ok : α → Prop} (h : Opens P f.type d ok) (ho : f.offset = o) (hc : P.cellsOf f.type = d.sz) : OpensFs P [f] o d ok := by
  intro H enc w base spare held cs hl hf
  obtain ⟨fuel, x, hx⟩ := hf f (by simp)
  rw [ho, hc, List.take_of_length_le (by simp; omega)] at hx
  exact h H enc w base spare held fuel _ x hx
theorem opensFs_cons {P : Program} {f : Field} {fs : List Field} {o : Nat} {α β : Type} {a : Kd α} {b : Kd β} {oka : α → Prop} {okb : β → Prop} (h : Opens P f.type a oka) (ho : f.offset = o) (hc : P.cellsOf f.type = a.sz) (hr : OpensFs P fs (o + a.sz) b okb) :
    OpensFs P (f :: fs) o (Kd.pair a b) (fun x => oka x.1 ∧ okb x.2) := by
  intro H enc w base spare held cs hl hf
  have hl' : cs.length = o + (a.sz + b.sz) := hl
  obtain ⟨fuel, x, hx⟩ := hf f (by simp)
  rw [ho, hc] at hx
  obtain ⟨u, hu1, hu2⟩ := h H enc w base spare held fuel _ x hx
  obtain ⟨v, hv1, hv2⟩ := hr H enc w base spare held cs (by omega) (fun g hg => hf g (List.mem_cons_of_mem _ hg))
  refine ⟨(u, v), ⟨_, _, ?_, hu1, hv1⟩, hu2, hv2⟩
  rw [← List.drop_drop, List.take_append_drop]
theorem opens_struct {P : Program} {t : TypeId} {fs : Array Field} {α β : Type} {d : Kd α} {ok : α → Prop} {f : β → α} (ht : P.underlying t = some (.struct fs)) (hc : P.cellsOf t = d.sz) (h : OpensFs P fs.toList 0 d ok) (g : α → β) (hg : ∀ a, f (g a) = a) :
    Opens P t (Kd.iso d f) (fun x => ok (f x)) := by
  intro H enc w base spare held fuel cs x hx
  obtain ⟨xs, n, rfl, rfl, hl, hsz, hfs⟩ := DataW.trod_struct ht hx
  obtain ⟨a, h1, h2⟩ := h H enc w base spare held cs (by omega) (fun fl hfl => by
    obtain ⟨i, hi, rfl⟩ := List.getElem_of_mem hfl
    have hi' : i < fs.size := by simpa using hi
    have := hfs i fs[i] (Array.getElem?_eq_getElem hi')
    rw [List.getElem?_eq_getElem (show i < xs.length by omega)] at this
    exact ⟨n, _, by simpa using this⟩)
  exact ⟨g a, by show d.K w (f (g a)) cs; rw [hg]; simpa using h1, by show ok (f (g a)); rw [hg]; exact h2⟩
end Go.Proofs.Ythfdjccdelbeeaa.Opn
end
section
namespace Go.Proofs.Ythfdjccdelbeeaa.PT
open Go.RowKit Go.Proofs.YthfdjccdelbeeaaW.PrintWords Go.Proofs.Ythfdjccdelbeeaa.Opn
instance : Inhabited S50 := ⟨z50⟩
def ok50 (x : S50) : Prop := (fun n => (Lit.int .i64 n).wf = true) x.f0 ∧ (fun n => (Lit.int .i64 n).wf = true) x.f1 ∧ (fun n => (Lit.int .i64 n).wf = true) x.f2
theorem opens50 : Opens Try.prog 50 k50 ok50 := by
 refine Opens.mono (ok := fun x : S50 => (fun x : (Int) × (Int) × (Int) => (fun n => (Lit.int .i64 n).wf = true) x.1 ∧ (fun n => (Lit.int .i64 n).wf = true) x.2.1 ∧ (fun n => (Lit.int .i64 n).wf = true) x.2.2) ((fun x : S50 => (x.f0, x.f1, x.f2)) x)) (opens_struct (d := (Kd.pair (Kd.int .i64) (Kd.pair (Kd.int .i64) (Kd.int .i64)))) (ok := fun x : (Int) × (Int) × (Int) => (fun n => (Lit.int .i64 n).wf = true) x.1 ∧ (fun n => (Lit.int .i64 n).wf = true) x.2.1 ∧ (fun n => (Lit.int .i64 n).wf = true) x.2.2) (f := fun x : S50 => (x.f0, x.f1, x.f2)) Try.underlying50 (by kernel_rfl) ?_ (fun a => ⟨a.1, a.2.1, a.2.2⟩) (fun _ => rfl)) (fun x h => h)
 refine opensFs_cons (oka := (fun n => (Lit.int .i64 n).wf = true)) (okb := (fun y : (Int) × (Int) => (fun n => (Lit.int .i64 n).wf = true) y.1 ∧ (fun n => (Lit.int .i64 n).wf = true) y.2)) ?_ ?_ ?_ ?_
 ·
  exact (opens_int Try.underlying3)
 ·
  rfl
 ·
  kernel_rfl
 refine opensFs_cons (oka := (fun n => (Lit.int .i64 n).wf = true)) (okb := (fun y : (Int) => (fun n => (Lit.int .i64 n).wf = true) y)) ?_ ?_ ?_ ?_
 ·
  exact (opens_int Try.underlying3)
 ·
  rfl
 ·
  kernel_rfl
 refine opensFs_one (ok := (fun n => (Lit.int .i64 n).wf = true)) ?_ ?_ ?_
 ·
  exact (opens_int Try.underlying3)
 ·
  rfl
 ·
  kernel_rfl
instance : Inhabited S80 := ⟨z80⟩
def ok80 (x : S80) : Prop := (fun n => (Lit.int .u8 n).wf = true) x.f0 ∧ (fun n => (Lit.int .i64 n).wf = true) x.f1 ∧ (fun l : List (S50) => l.length ≤ maxLen ∧ ∀ x ∈ l, ok50 x) x.f2 ∧ (fun n => (Lit.int .u64 n).wf = true) x.f3 ∧ (fun _ => True) x.f4
theorem opens80 : Opens Try.prog 80 k80 ok80 := by
 refine Opens.mono (ok := fun x : S80 => (fun x : (Int) × (Int) × (List (S50)) × (Int) × (Bool) => (fun n => (Lit.int .u8 n).wf = true) x.1 ∧ (fun n => (Lit.int .i64 n).wf = true) x.2.1 ∧ (fun l : List (S50) => l.length ≤ maxLen ∧ ∀ x ∈ l, ok50 x) x.2.2.1 ∧ (fun n => (Lit.int .u64 n).wf = true) x.2.2.2.1 ∧ (fun _ => True) x.2.2.2.2) ((fun x : S80 => (x.f0, x.f1, x.f2, x.f3, x.f4)) x)) (opens_struct (d := (Kd.pair (Kd.int .u8) (Kd.pair (Kd.int .i64) (Kd.pair (Kd.slice 50 k50) (Kd.pair (Kd.int .u64) Kd.bool))))) (ok := fun x : (Int) × (Int) × (List (S50)) × (Int) × (Bool) => (fun n => (Lit.int .u8 n).wf = true) x.1 ∧ (fun n => (Lit.int .i64 n).wf = true) x.2.1 ∧ (fun l : List (S50) => l.length ≤ maxLen ∧ ∀ x ∈ l, ok50 x) x.2.2.1 ∧ (fun n => (Lit.int .u64 n).wf = true) x.2.2.2.1 ∧ (fun _ => True) x.2.2.2.2) (f := fun x : S80 => (x.f0, x.f1, x.f2, x.f3, x.f4)) Try.underlying80 (by kernel_rfl) ?_ (fun a => ⟨a.1, a.2.1, a.2.2.1, a.2.2.2.1, a.2.2.2.2⟩) (fun _ => rfl)) (fun x h => h)
 refine opensFs_cons (oka := (fun n => (Lit.int .u8 n).wf = true)) (okb := (fun y : (Int) × (List (S50)) × (Int) × (Bool) => (fun n => (Lit.int .i64 n).wf = true) y.1 ∧ (fun l : List (S50) => l.length ≤ maxLen ∧ ∀ x ∈ l, ok50 x) y.2.1 ∧ (fun n => (Lit.int .u64 n).wf = true) y.2.2.1 ∧ (fun _ => True) y.2.2.2)) ?_ ?_ ?_ ?_
 ·
  exact (opens_int Try.underlying5)
 ·
  rfl
 ·
  kernel_rfl
 refine opensFs_cons (oka := (fun n => (Lit.int .i64 n).wf = true)) (okb := (fun y : (List (S50)) × (Int) × (Bool) => (fun l : List (S50) => l.length ≤ maxLen ∧ ∀ x ∈ l, ok50 x) y.1 ∧ (fun n => (Lit.int .u64 n).wf = true) y.2.1 ∧ (fun _ => True) y.2.2)) ?_ ?_ ?_ ?_
 ·
  exact (opens_int Try.underlying3)
 ·
  rfl
 ·
  kernel_rfl
 refine opensFs_cons (oka := (fun l : List (S50) => l.length ≤ maxLen ∧ ∀ x ∈ l, ok50 x)) (okb := (fun y : (Int) × (Bool) => (fun n => (Lit.int .u64 n).wf = true) y.1 ∧ (fun _ => True) y.2)) ?_ ?_ ?_ ?_
 ·
  exact (opens_slice Try.underlying22 (by kernel_rfl) opens50)
 ·
  rfl
 ·
  kernel_rfl
 refine opensFs_cons (oka := (fun n => (Lit.int .u64 n).wf = true)) (okb := (fun y : (Bool) => (fun _ => True) y)) ?_ ?_ ?_ ?_
 ·
  exact (opens_int Try.underlying36)
 ·
  rfl
 ·
  kernel_rfl
 refine opensFs_one (ok := (fun _ => True)) ?_ ?_ ?_
 ·
  exact (opens_bool Try.underlying4)
 ·
  rfl
 ·
  kernel_rfl
end Go.Proofs.Ythfdjccdelbeeaa.PT
end
section
namespace Go.Proofs.Ythfdjccdelbeeaa.PT
open Go.RowKit Go.Proofs.YthfdjccdelbeeaaW.PrintWords Go.Proofs.Ythfdjccdelbeeaa.Opn
set_option linter.unusedVariables false in
def kimberlitelaw05_TenderPlays.ok (a0 : Int) (l1 : List (S80)) (l2 : List (S80)) : Prop := (fun n => (Lit.int .i64 n).wf = true) a0 ∧ (fun l : List (S80) => l.length ≤ maxLen ∧ ∀ x ∈ l, ok80 x) l1 ∧ (fun l : List (S80) => l.length ≤ maxLen ∧ ∀ x ∈ l, ok80 x) l2 ∧ True
def kimberlitelaw05_TenderPlays.Pure2 : Prop := ∀ (a0 : Int) (l1 : List (S80)) (l2 : List (S80)), (fun n => (Lit.int .i64 n).wf = true) a0 → (fun l : List (S80) => l.length ≤ maxLen ∧ ∀ x ∈ l, ok80 x) l1 → (fun l : List (S80) => l.length ≤ maxLen ∧ ∀ x ∈ l, ok80 x) l2 → ∃ _k : Nat, kimberlitelaw05_TenderPlays.ok a0 l1 l2
end Go.Proofs.Ythfdjccdelbeeaa.PT
end
section
namespace Go.Proofs.Ythfdjccdelbeeaa.PT
open Go.RowKit Go.Proofs.YthfdjccdelbeeaaW.PrintWords Go.Proofs.YthfdjccdelbeeaaW.PrintLast Go.Proofs.YthfdjccdelbeeaaW.PrintMore
attribute [local go_sem] max2_int min2_int max_two min_two max_three min_three max_four min_four   -- for this text's walks alone
set_option linter.unusedVariables false
set_option linter.unusedSimpArgs false
def tender_buyer.f (a0 : Int) : Option (Bool) := if a0 ≥ 0 then (some (decide (a0 ≤ 7))) else (some false)
set_option maxHeartbeats 8000000 in
set_option maxRecDepth 100000 in
theorem tender_buyer.calls (a0 : Int) (r : Bool) (w : World) (h : tender_buyer.f a0 = some r) :
  Calls Try.prog 54 #[.int .i64 a0] w fun e w' => e = .returned (.bool r) ∧ Drawn0 w w' := by
 have H : (if a0 ≥ 0 then (some (decide (a0 ≤ 7))) else (some false)) = some r := h
 clear h
 by_cases c2 : a0 ≥ 0
 ·
  rw [if_pos c2] at H
  have c2b0 : decide (0 ≤ a0) = true := decide_eq_true c2
  clear c2
  obtain rfl := Option.some.inj H
  go_enter Try.func54, Try.ntmps54
  go_wp2
  go_ret
  exact ⟨by first | rfl | (simp; done) | (simp [*]; done), by repeat (first | exact Drawn0.refl _ | apply Drawn0.step)⟩
 ·
  rw [if_neg c2] at H
  have c2b0 : decide (0 ≤ a0) = false := decide_eq_false c2
  clear c2
  obtain rfl := Option.some.inj H
  go_enter Try.func54, Try.ntmps54
  go_wp2
  go_ret
  exact ⟨by first | rfl | (simp; done) | (simp [*]; done), by repeat (first | exact Drawn0.refl _ | apply Drawn0.step)⟩
mutual
def kimberlitelaw05_short.l0 : Nat → List (S80) → Int → Int → Option (Bool)
 | 0, _, _, _ => none
 | k + 1, x0, x3, x4 => if x4 < (x0.length : Int) then (if x4 ≥ 40 then (kimberlitelaw05_short.j1 k x0 x3 x4 true) else (if 0 ≤ x4 then (kimberlitelaw05_short.j1 k x0 x3 x4 (decide ((((rd_T80 x0 x4).f2).length : Int) > 20))) else (none))) else (some (decide (x3 ≤ 11)))
def kimberlitelaw05_short.j1 : Nat → List (S80) → Int → Int → Bool → Option (Bool)
 | 0, _, _, _, _ => none
 | k + 1, x0, x3, x4, x21 => if x21 = true then (some false) else (if 0 ≤ x4 then (if x4 < (x0.length : Int) then (if (Int.tmod ((rd_T80 x0 x4).f0) 6) = 3 then (kimberlitelaw05_short.l0 k x0 (wrap64 (x3 + (((rd_T80 x0 x4).f2).length : Int))) (wrap64 (x4 + 1))) else (if (Int.tmod ((rd_T80 x0 x4).f0) 6) = 4 then (kimberlitelaw05_short.l0 k x0 (wrap64 (x3 + (((rd_T80 x0 x4).f2).length : Int))) (wrap64 (x4 + 1))) else (kimberlitelaw05_short.l0 k x0 x3 (wrap64 (x4 + 1))))) else (none)) else (none))
end
def kimberlitelaw05_short.f (k : Nat) (l0 : List (S80)) : Option (Bool) := kimberlitelaw05_short.l0 k l0 0 0
theorem kimberlitelaw05_short.mono_l : ∀ k, (∀ y0 y1 y2, LeO (kimberlitelaw05_short.l0 k y0 y1 y2) (kimberlitelaw05_short.l0 (k + 1) y0 y1 y2)) ∧ (∀ y0 y1 y2 y3, LeO (kimberlitelaw05_short.j1 k y0 y1 y2 y3) (kimberlitelaw05_short.j1 (k + 1) y0 y1 y2 y3))
 | 0 => ⟨fun _ _ _ r h => by simp [kimberlitelaw05_short.l0] at h, fun _ _ _ _ r h => by simp [kimberlitelaw05_short.j1] at h⟩
 | k + 1 => by
  obtain ⟨ih0, ih1⟩ := kimberlitelaw05_short.mono_l k
  refine ⟨?_, ?_⟩
  ·
   intro y0 y1 y2
   unfold kimberlitelaw05_short.l0
   repeat' first
   | (with_reducible exact ih0 _ _ _)
   | (with_reducible exact ih1 _ _ _ _)
   | (with_reducible exact LeO.refl _)
   | (with_reducible exact LeO.none _)
   | (with_reducible refine LeO.ite ?_ ?_)
   | (with_reducible refine LeO.bind ?_ (fun _ => ?_))
   | exact ih0 _ _ _
   | exact ih1 _ _ _ _
   | exact LeO.none _
   | refine LeO.ite ?_ ?_
   | refine LeO.bind ?_ (fun _ => ?_)
  ·
   intro y0 y1 y2 y3
   unfold kimberlitelaw05_short.j1
   repeat' first
   | (with_reducible exact ih0 _ _ _)
   | (with_reducible exact ih1 _ _ _ _)
   | (with_reducible exact LeO.refl _)
   | (with_reducible exact LeO.none _)
   | (with_reducible refine LeO.ite ?_ ?_)
   | (with_reducible refine LeO.bind ?_ (fun _ => ?_))
   | exact ih0 _ _ _
   | exact ih1 _ _ _ _
   | exact LeO.none _
   | refine LeO.ite ?_ ?_
   | refine LeO.bind ?_ (fun _ => ?_)
theorem kimberlitelaw05_short.mono : ∀ a0 k, LeO (kimberlitelaw05_short.f k a0) (kimberlitelaw05_short.f (k + 1) a0) := by
 intro a0 k
 obtain ⟨ih0, ih1⟩ := kimberlitelaw05_short.mono_l k
 unfold kimberlitelaw05_short.f
 repeat' first
   | (with_reducible exact ih0 _ _ _)
   | (with_reducible exact ih1 _ _ _ _)
   | (with_reducible exact LeO.refl _)
   | (with_reducible exact LeO.none _)
   | (with_reducible refine LeO.ite ?_ ?_)
   | (with_reducible refine LeO.bind ?_ (fun _ => ?_))
   | exact ih0 _ _ _
   | exact ih1 _ _ _ _
   | exact LeO.none _
   | refine LeO.ite ?_ ?_
   | refine LeO.bind ?_ (fun _ => ?_)
set_option maxHeartbeats 8000000 in
set_option maxRecDepth 100000 in
theorem kimberlitelaw05_short.calls (k : Nat) (A0 : Option Addr) (c0 : Nat) (l0 : List (S80)) (r : Bool) (w : World) (hr0 : Kd.C k80 w A0 l0.length l0) (hc0 : l0.length ≤ c0) (h : kimberlitelaw05_short.f k l0 = some r) :
  Calls Try.prog 42 #[.slice A0 l0.length c0] w fun e w' => e = .returned (.bool r) ∧ Drawn0 w w' := by
 have HR0 := Aside0.mk hr0
 have HC0 := Aside0.mk hc0
 clear hr0 hc0
 have H : (kimberlitelaw05_short.l0 k l0 0 0) = some r := h
 clear h
 have H' := Aside0.mk H
 clear H
 go_enter Try.func42, Try.ntmps42
 go_wp2
 go_loopg [3, 4] k (fun kq v3 v4 w' => ∃ (x3_1 : Int) (x4_1 : Int), v3 = .int .i64 x3_1 ∧ v4 = .int .i64 x4_1 ∧ Aside0 (kimberlitelaw05_short.l0 kq l0 x3_1 x4_1 = some r) ∧ Aside0 (kq ≤ k) ∧ Drawn0 w w')
 case atStart => exact ⟨(0), (0), (by first | rfl | (simp; done) | (simp [*]; done)), (by first | rfl | (simp; done) | (simp [*]; done)), H', ⟨Nat.le_refl _⟩, by repeat (first | exact Drawn0.refl _ | apply Drawn0.step)⟩
 case round =>
  clear H'
  obtain ⟨x3_1, x4_1, rfl, rfl, HA, HK1, ⟨m1, rfl⟩⟩ := hrel
  cases gk with
  | zero => exact absurd HA.out (by simp [kimberlitelaw05_short.l0])
  | succ k1 =>
   have H := HA.out
   clear HA
   simp only [kimberlitelaw05_short.l0] at H
   by_cases c2 : x4_1 < (l0.length : Int)
   ·
    rw [if_pos c2] at H
    have c2b0 : decide (x4_1 < (l0.length : Int)) = true := decide_eq_true c2
    clear c2
    have HC3 := Aside0.mk H
    clear H
    go_upto_region 5 with (fail)
    go_cut [21] (fun v21 wc => ∃ (kq : Nat) (x21_2 : Bool), v21 = .bool x21_2 ∧ Aside0 (kimberlitelaw05_short.j1 kq l0 x3_1 x4_1 x21_2 = some r) ∧ Aside0 (kq ≤ k1) ∧ Drawn0 w wc)
    case first =>
     have H := HC3.out
     clear HC3
     by_cases c4 : x4_1 ≥ 40
     ·
      rw [if_pos c4] at H
      have c4b0 : decide (40 ≤ x4_1) = true := decide_eq_true c4
      clear c4
      (first | rw [c4b0] | (simp only [i64_w, i32_w]; rw [c4b0]) | skip)
      have H' := Aside0.mk H
      clear H
      go_wp2
      go_meet
      case rel => exact ⟨_, (true), (by first | rfl | (simp; done) | (simp [*]; done)), H', ⟨by have := HK1.out; first | omega | exact Nat.le_refl _⟩, by repeat (first | exact Drawn0.refl _ | apply Drawn0.step)⟩
     ·
      rw [if_neg c4] at H
      have c4b0 : decide (40 ≤ x4_1) = false := decide_eq_false c4
      clear c4
      (first | rw [c4b0] | (simp only [i64_w, i32_w]; rw [c4b0]) | skip)
      by_cases c5 : 0 ≤ x4_1
      ·
       rw [if_pos c5] at H
       have c5b0 : decide (0 ≤ x4_1) = true := decide_eq_true c5
       clear c5
       have H' := Aside0.mk H
       clear H
       have p426 : 0 ≤ (x4_1 : Int) := of_decide_eq_true (by first | (with_reducible assumption) | assumption)
       have q426 : x4_1 < (l0.length : Int) := of_decide_eq_true (by first | (with_reducible assumption) | assumption)
       obtain ⟨ad426, A426_2, c426_2, e426, hx426_0, hx426_1, hx426_2, hx426_3, hx426_4, hl426_2, hi426_2⟩ := at_T80 HR0.out x4_1 p426 q426
       cases e426
       have HR426_2 := Aside0.mk hi426_2
       have HC426_2 := Aside0.mk hl426_2
       clear hi426_2 hl426_2
       replace p426 := eq_true p426
       replace q426 := eq_true q426
       go_wp2
       go_meet
       case rel => exact ⟨_, (decide ((((rd_T80 l0 x4_1).f2).length : Int) > 20)), (by first | rfl | (simp; done) | (simp [*]; done)), H', ⟨by have := HK1.out; first | omega | exact Nat.le_refl _⟩, by repeat (first | exact Drawn0.refl _ | apply Drawn0.step)⟩
      ·
       rw [if_neg c5] at H
       exact absurd H (by simp)
    case rest =>
     clear HC3
     try clear c2
     try clear c2b0
     try clear p2
     try clear c4
     try clear c4b0
     try clear p4
     try clear q4
     try clear hx4
     try clear c5
     try clear c5b0
     try clear hx426_0
     try clear hx426_1
     try clear hx426_2
     try clear hx426_3
     try clear hx426_4
     try clear p426
     try clear q426
     obtain ⟨kq, x21_2, rfl, HA, HJ2, ⟨mc2, rfl⟩⟩ := hcut
     cases kq with
     | zero => exact absurd HA.out (by simp [kimberlitelaw05_short.j1])
     | succ kj2 =>
      have H := HA.out
      clear HA
      simp only [kimberlitelaw05_short.j1] at H
      by_cases c6 : x21_2 = true
      ·
       subst c6
       have H1 : (some false) = some r := by rw [if_pos rfl] at H; exact H
       clear H
       have H := H1
       clear H1
       obtain rfl := Option.some.inj H
       go_wp2
       go_ret
       exact ⟨by first | rfl | (simp; done) | (simp [*]; done), by repeat (first | exact Drawn0.refl _ | apply Drawn0.step)⟩
      ·
       replace c6 := Bool.eq_false_iff.mpr c6
       subst c6
       have H1 : (if 0 ≤ x4_1 then (if x4_1 < (l0.length : Int) then (if (Int.tmod ((rd_T80 l0 x4_1).f0) 6) = 3 then (kimberlitelaw05_short.l0 kj2 l0 (wrap64 (x3_1 + (((rd_T80 l0 x4_1).f2).length : Int))) (wrap64 (x4_1 + 1))) else (if (Int.tmod ((rd_T80 l0 x4_1).f0) 6) = 4 then (kimberlitelaw05_short.l0 kj2 l0 (wrap64 (x3_1 + (((rd_T80 l0 x4_1).f2).length : Int))) (wrap64 (x4_1 + 1))) else (kimberlitelaw05_short.l0 kj2 l0 x3_1 (wrap64 (x4_1 + 1))))) else (none)) else (none)) = some r := by rw [if_neg (show ¬ (false = true) by decide)] at H; exact H
       clear H
       have H := H1
       clear H1
       by_cases c7 : 0 ≤ x4_1
       ·
        rw [if_pos c7] at H
        have c7b0 : decide (0 ≤ x4_1) = true := decide_eq_true c7
        clear c7
        by_cases c8 : x4_1 < (l0.length : Int)
        ·
         rw [if_pos c8] at H
         have c8b0 : decide (x4_1 < (l0.length : Int)) = true := decide_eq_true c8
         clear c8
         by_cases c9 : (Int.tmod ((rd_T80 l0 x4_1).f0) 6) = 3
         ·
          rw [if_pos c9] at H
          have c9b0 : ((Int.tmod ((rd_T80 l0 x4_1).f0) 6) == 3) = true := beq_iff_eq.mpr c9
          have c9b1 : ((Int.tmod ((rd_T80 l0 x4_1).f0) 6) != 3) = false := bne_eq_false_iff_eq.mpr c9
          clear c9
          have H' := Aside0.mk H
          clear H
          have p427 : 0 ≤ (x4_1 : Int) := of_decide_eq_true (by first | (with_reducible assumption) | assumption)
          have q427 : x4_1 < (l0.length : Int) := of_decide_eq_true (by first | (with_reducible assumption) | assumption)
          obtain ⟨ad427, A427_2, c427_2, e427, hx427_0, hx427_1, hx427_2, hx427_3, hx427_4, hl427_2, hi427_2⟩ := at_T80 HR0.out x4_1 p427 q427
          cases e427
          have HR427_2 := Aside0.mk hi427_2
          have HC427_2 := Aside0.mk hl427_2
          clear hi427_2 hl427_2
          replace p427 := eq_true p427
          replace q427 := eq_true q427
          have p428 : 0 ≤ (x4_1 : Int) := of_decide_eq_true (by first | (with_reducible assumption) | assumption)
          have q428 : x4_1 < (l0.length : Int) := of_decide_eq_true (by first | (with_reducible assumption) | assumption)
          obtain ⟨ad428, A428_2, c428_2, e428, hx428_0, hx428_1, hx428_2, hx428_3, hx428_4, hl428_2, hi428_2⟩ := at_T80 HR0.out x4_1 p428 q428
          obtain rfl : ad427 = ad428 := (by injection e428)
          have HR428_2 := Aside0.mk hi428_2
          have HC428_2 := Aside0.mk hl428_2
          clear hi428_2 hl428_2
          replace p428 := eq_true p428
          replace q428 := eq_true q428
          have ea_ := Option.some.inj (hx427_2.symm.trans hx428_2)
          injection ea_ with ea_ en_ ec_
          subst ea_
          subst ec_
          clear en_
          go_wp2
          go_roundg kj2
          case measure => have := HK1.out; have := HJ2.out; omega
          case rel => exact ⟨(wrap64 (x3_1 + (((rd_T80 l0 x4_1).f2).length : Int))), (wrap64 (x4_1 + 1)), (by first | rfl | (simp; done) | (simp [*]; done)), (by first | rfl | (simp; done) | (simp [*]; done)), H', ⟨by have := HK1.out; have := HJ2.out; omega⟩, by repeat (first | exact Drawn0.refl _ | apply Drawn0.step)⟩
         ·
          rw [if_neg c9] at H
          have c9b0 : ((Int.tmod ((rd_T80 l0 x4_1).f0) 6) == 3) = false := beq_eq_false_iff_ne.mpr c9
          have c9b1 : ((Int.tmod ((rd_T80 l0 x4_1).f0) 6) != 3) = true := bne_iff_ne.mpr c9
          by_cases c10 : (Int.tmod ((rd_T80 l0 x4_1).f0) 6) = 4
          ·
           rw [if_pos c10] at H
           have c10b0 : ((Int.tmod ((rd_T80 l0 x4_1).f0) 6) == 4) = true := beq_iff_eq.mpr c10
           have c10b1 : ((Int.tmod ((rd_T80 l0 x4_1).f0) 6) != 4) = false := bne_eq_false_iff_eq.mpr c10
           clear c10
           have H' := Aside0.mk H
           clear H
           have p427 : 0 ≤ (x4_1 : Int) := of_decide_eq_true (by first | (with_reducible assumption) | assumption)
           have q427 : x4_1 < (l0.length : Int) := of_decide_eq_true (by first | (with_reducible assumption) | assumption)
           obtain ⟨ad427, A427_2, c427_2, e427, hx427_0, hx427_1, hx427_2, hx427_3, hx427_4, hl427_2, hi427_2⟩ := at_T80 HR0.out x4_1 p427 q427
           cases e427
           have HR427_2 := Aside0.mk hi427_2
           have HC427_2 := Aside0.mk hl427_2
           clear hi427_2 hl427_2
           replace p427 := eq_true p427
           replace q427 := eq_true q427
           have p429 : 0 ≤ (x4_1 : Int) := of_decide_eq_true (by first | (with_reducible assumption) | assumption)
           have q429 : x4_1 < (l0.length : Int) := of_decide_eq_true (by first | (with_reducible assumption) | assumption)
           obtain ⟨ad429, A429_2, c429_2, e429, hx429_0, hx429_1, hx429_2, hx429_3, hx429_4, hl429_2, hi429_2⟩ := at_T80 HR0.out x4_1 p429 q429
           obtain rfl : ad427 = ad429 := (by injection e429)
           have HR429_2 := Aside0.mk hi429_2
           have HC429_2 := Aside0.mk hl429_2
           clear hi429_2 hl429_2
           replace p429 := eq_true p429
           replace q429 := eq_true q429
           have ea_ := Option.some.inj (hx427_2.symm.trans hx429_2)
           injection ea_ with ea_ en_ ec_
           subst ea_
           subst ec_
           clear en_
           have p430 : 0 ≤ (x4_1 : Int) := of_decide_eq_true (by first | (with_reducible assumption) | assumption)
           have q430 : x4_1 < (l0.length : Int) := of_decide_eq_true (by first | (with_reducible assumption) | assumption)
           obtain ⟨ad430, A430_2, c430_2, e430, hx430_0, hx430_1, hx430_2, hx430_3, hx430_4, hl430_2, hi430_2⟩ := at_T80 HR0.out x4_1 p430 q430
           obtain rfl : ad427 = ad430 := (by injection e430)
           have HR430_2 := Aside0.mk hi430_2
           have HC430_2 := Aside0.mk hl430_2
           clear hi430_2 hl430_2
           replace p430 := eq_true p430
           replace q430 := eq_true q430
           have ea_ := Option.some.inj (hx427_2.symm.trans hx430_2)
           injection ea_ with ea_ en_ ec_
           subst ea_
           subst ec_
           clear en_
           go_wp2
           go_roundg kj2
           case measure => have := HK1.out; have := HJ2.out; omega
           case rel => exact ⟨(wrap64 (x3_1 + (((rd_T80 l0 x4_1).f2).length : Int))), (wrap64 (x4_1 + 1)), (by first | rfl | (simp; done) | (simp [*]; done)), (by first | rfl | (simp; done) | (simp [*]; done)), H', ⟨by have := HK1.out; have := HJ2.out; omega⟩, by repeat (first | exact Drawn0.refl _ | apply Drawn0.step)⟩
          ·
           rw [if_neg c10] at H
           have c10b0 : ((Int.tmod ((rd_T80 l0 x4_1).f0) 6) == 4) = false := beq_eq_false_iff_ne.mpr c10
           have c10b1 : ((Int.tmod ((rd_T80 l0 x4_1).f0) 6) != 4) = true := bne_iff_ne.mpr c10
           have H' := Aside0.mk H
           clear H
           have p427 : 0 ≤ (x4_1 : Int) := of_decide_eq_true (by first | (with_reducible assumption) | assumption)
           have q427 : x4_1 < (l0.length : Int) := of_decide_eq_true (by first | (with_reducible assumption) | assumption)
           obtain ⟨ad427, A427_2, c427_2, e427, hx427_0, hx427_1, hx427_2, hx427_3, hx427_4, hl427_2, hi427_2⟩ := at_T80 HR0.out x4_1 p427 q427
           cases e427
           have HR427_2 := Aside0.mk hi427_2
           have HC427_2 := Aside0.mk hl427_2
           clear hi427_2 hl427_2
           replace p427 := eq_true p427
           replace q427 := eq_true q427
           have p429 : 0 ≤ (x4_1 : Int) := of_decide_eq_true (by first | (with_reducible assumption) | assumption)
           have q429 : x4_1 < (l0.length : Int) := of_decide_eq_true (by first | (with_reducible assumption) | assumption)
           obtain ⟨ad429, A429_2, c429_2, e429, hx429_0, hx429_1, hx429_2, hx429_3, hx429_4, hl429_2, hi429_2⟩ := at_T80 HR0.out x4_1 p429 q429
           obtain rfl : ad427 = ad429 := (by injection e429)
           have HR429_2 := Aside0.mk hi429_2
           have HC429_2 := Aside0.mk hl429_2
           clear hi429_2 hl429_2
           replace p429 := eq_true p429
           replace q429 := eq_true q429
           have ea_ := Option.some.inj (hx427_2.symm.trans hx429_2)
           injection ea_ with ea_ en_ ec_
           subst ea_
           subst ec_
           clear en_
           go_wp2
           go_roundg kj2
           case measure => have := HK1.out; have := HJ2.out; omega
           case rel => exact ⟨(x3_1), (wrap64 (x4_1 + 1)), (by first | rfl | (simp; done) | (simp [*]; done)), (by first | rfl | (simp; done) | (simp [*]; done)), H', ⟨by have := HK1.out; have := HJ2.out; omega⟩, by repeat (first | exact Drawn0.refl _ | apply Drawn0.step)⟩
        ·
         rw [if_neg c8] at H
         exact absurd H (by simp)
       ·
        rw [if_neg c7] at H
        exact absurd H (by simp)
   ·
    rw [if_neg c2] at H
    have c2b0 : decide (x4_1 < (l0.length : Int)) = false := decide_eq_false c2
    clear c2
    obtain rfl := Option.some.inj H
    go_wp2
    go_ret
    exact ⟨by first | rfl | (simp; done) | (simp [*]; done), by repeat (first | exact Drawn0.refl _ | apply Drawn0.step)⟩
end Go.Proofs.Ythfdjccdelbeeaa.PT
end
section
namespace Go.Proofs.Ythfdjccdelbeeaa.PT
open Go.RowKit Go.Proofs.YthfdjccdelbeeaaW.PrintWords Go.Proofs.YthfdjccdelbeeaaW.PrintLast Go.Proofs.YthfdjccdelbeeaaW.PrintMore
set_option linter.unusedVariables false
set_option linter.unusedSimpArgs false
theorem lhid {p : Prop} (h : p) : Hid p := h
structure Chg (F : Nat → Prop) (w W : World) : Prop where
 os : W.os = w.os
 tape : W.tape = w.tape
 output : W.output = w.output
 size : w.heap.size ≤ W.heap.size
 block : ∀ k, k < w.heap.size → ¬ F k → W.heap[k]? = w.heap[k]?
theorem Chg.of_below {F : Nat → Prop} {w W : World} (h : Below w.heap.size w W) : Chg F w W := ⟨h.os, h.tape, h.output, h.size, fun k hk _ => h.block k hk⟩
theorem Chg.refl (F : Nat → Prop) (w : World) : Chg F w w := Chg.of_below (Below.refl _ _)
theorem Chg.below {F : Nat → Prop} {w W : World} {B : Nat} (h : Chg F w W) (hB : B ≤ w.heap.size) (hF : ∀ k, F k → B ≤ k) : Below B w W :=
 ⟨h.os, h.tape, h.output, h.size, fun k hk => h.block k (by omega) (fun q => by have := hF k q; omega)⟩
theorem Chg.trans {F F' : Nat → Prop} {a b c : World} (h : Chg F a b) (k : Chg F' b c) (hF : ∀ i, i < a.heap.size → F' i → F i) : Chg F a c :=
 ⟨k.os.trans h.os, k.tape.trans h.tape, k.output.trans h.output, Nat.le_trans h.size k.size, fun i hi hn => by
  rw [k.block i (Nat.lt_of_lt_of_le hi h.size) (fun q => hn (hF i hi q))]; exact h.block i hi hn⟩
theorem Chg.next {F : Nat → Prop} {a b c : World} (h : Chg F a b) (k : Below b.heap.size b c) : Chg F a c := h.trans (Chg.of_below (F := fun _ => False) k) (fun _ _ q => q.elim)
theorem Chg.mono {F F' : Nat → Prop} {a b : World} (h : Chg F a b) (hF : ∀ i, i < a.heap.size → F i → F' i) : Chg F' a b :=
 ⟨h.os, h.tape, h.output, h.size, fun i hi hn => h.block i hi (fun q => hn (hF i hi q))⟩
theorem Chg.blk {F : Nat → Prop} {a b : World} {g : Nat} {o : Obj} (h : Chg F a b) (hb : a.heap[g]? = some o) (hn : ¬ F g) : b.heap[g]? = some o := by
 rw [h.block g (blk_lt hb) hn]; exact hb
theorem Chg.set {F : Nat → Prop} {w W : World} (h : Chg F w W) {p : Addr} (hp : w.heap.size ≤ p.block ∨ F p.block) (u : Value) : Chg F w (W.setCell p u) :=
 ⟨h.os, h.tape, h.output, by simpa using h.size, fun k hk hn => by
  rw [Below.heap_setCell _ _ _ _ (fun e => by rcases hp with q | q; omega; exact hn (by rw [e]; exact q))]; exact h.block k hk hn⟩
structure Hd where
 sl : Bool
 sh : Bool
 key : Int
 v : Value
 off : List S50
def hd0 : Hd := ⟨false, false, 0, .slice none 0 0, []⟩
def hcl (h : Hd) : List Value := [.bool h.sl, .bool h.sh, .int .u64 h.key, h.v]
def hcs : List Hd → List Value
 | [] => []
 | h :: H => hcl h ++ hcs H
def tcs (lots st : Int) (H : List Hd) : Array Value := (Value.int .i64 lots :: Value.int .i64 st :: hcs H).toArray
theorem hcs_len : ∀ H : List Hd, (hcs H).length = 4 * H.length
 | [] => rfl
 | h :: H => by unfold hcs; rw [List.length_append, hcs_len H]; simp [hcl]; omega
theorem hcs_get : ∀ (H : List Hd) (i j : Nat), i < H.length → j < 4 → (hcs H)[i * 4 + j]? = (hcl (H.getD i hd0))[j]?
 | [], i, j, h, _ => by simp at h
 | h :: H, 0, j, _, hj => by
  unfold hcs
  rw [List.getElem?_append_left (by simp [hcl]; omega)]; simp
 | h :: H, i + 1, j, hi, hj => by
  unfold hcs
  rw [List.getElem?_append_right (by simp [hcl]; omega), show (i + 1) * 4 + j - (hcl h).length = i * 4 + j by simp [hcl]; omega, hcs_get H i j (by simpa using hi) hj]; simp
theorem hcs_set : ∀ (H : List Hd) (i j : Nat) (u : Value) (h' : Hd), i < H.length → (hcl (H.getD i hd0)).set j u = hcl h' → j < 4 → (hcs H).set (i * 4 + j) u = hcs (H.set i h')
 | [], i, j, u, h', h, _, _ => by simp at h
 | h :: H, 0, j, u, h', _, he, hj => by
  unfold hcs
  rw [List.set_append_left _ _ (by simp [hcl]; omega)]
  simp only [List.getD_cons_zero, Nat.zero_mul, Nat.zero_add] at he ⊢
  rw [he]; rfl
 | h :: H, i + 1, j, u, h', hi, he, hj => by
  unfold hcs
  rw [List.set_append_right _ _ (by simp [hcl]; omega), show (i + 1) * 4 + j - (hcl h).length = i * 4 + j by simp [hcl]; omega, hcs_set H i j u h' (by simpa using hi) (by simpa using he) hj]; rfl
theorem tcs_get (lots st : Int) (H : List Hd) (i j : Nat) (hi : i < H.length) (hj : j < 4) : (tcs lots st H)[2 + i * 4 + j]? = (hcl (H.getD i hd0))[j]? := by
 rw [← hcs_get H i j hi hj]
 unfold tcs
 rw [List.getElem?_toArray, show 2 + i * 4 + j = i * 4 + j + 1 + 1 by omega, List.getElem?_cons_succ, List.getElem?_cons_succ]
theorem tcs_set (lots st : Int) (H : List Hd) (i j : Nat) (u : Value) (h' : Hd) (hi : i < H.length) (he : (hcl (H.getD i hd0)).set j u = hcl h') (hj : j < 4) : (tcs lots st H).setIfInBounds (2 + i * 4 + j) u = tcs lots st (H.set i h') := by
 unfold tcs
 rw [List.setIfInBounds_toArray, show 2 + i * 4 + j = i * 4 + j + 1 + 1 by omega, List.set_cons_succ, List.set_cons_succ, hcs_set H i j u h' hi he hj]
structure TN (base : Nat) (F : Nat → Prop) (w : World) (t : Nat) (lots st : Int) (H : List Hd) : Prop where
 blk : w.heap[t]? = some (.cells (tcs lots st H) 85 (0, 0))
 len : H.length = 8
 rows : ∀ h ∈ H, Kd.R k50 50 w base F h.v h.off
 nF : ¬ F t
section
variable {base t : Nat} {F : Nat → Prop} {w W : World} {lots st : Int} {H : List Hd}
theorem TN.lt (h : TN base F w t lots st H) : t < w.heap.size := blk_lt h.blk
theorem TN.next (h : TN base F w t lots st H) (hb : Below w.heap.size w W) : TN base F W t lots st H := ⟨blk_below h.blk hb, h.len, fun x hx => Kd.R_below (h.rows x hx) hb, h.nF⟩
theorem TN.c0 (h : TN base F w t lots st H) : w.cell? ⟨t, 0, none⟩ = some (.int .i64 lots) := by rw [blk_cell h.blk]; rfl
theorem TN.c1 (h : TN base F w t lots st H) : w.cell? ⟨t, 1, none⟩ = some (.int .i64 st) := by rw [blk_cell h.blk]; rfl
theorem TN.ch (h : TN base F w t lots st H) (i : Nat) (hi : i < 8) : w.cell? ⟨t, 2 + i * 4, none⟩ = some (.bool (H.getD i hd0).sl) ∧ w.cell? ⟨t, 2 + i * 4 + 1, none⟩ = some (.bool (H.getD i hd0).sh) ∧ w.cell? ⟨t, 2 + i * 4 + 2, none⟩ = some (.int .u64 (H.getD i hd0).key) ∧ w.cell? ⟨t, 2 + i * 4 + 3, none⟩ = some (H.getD i hd0).v := by
 have hl : i < H.length := by rw [h.len]; exact hi
 refine ⟨?_, ?_, ?_, ?_⟩
 ·
  rw [blk_cell h.blk]; exact tcs_get lots st H i 0 hl (by omega)
 ·
  rw [blk_cell h.blk]; exact tcs_get lots st H i 1 hl (by omega)
 ·
  rw [blk_cell h.blk]; exact tcs_get lots st H i 2 hl (by omega)
 ·
  rw [blk_cell h.blk]; exact tcs_get lots st H i 3 hl (by omega)
theorem TN.getR (h : TN base F w t lots st H) {i : Nat} (hi : i < 8) : Kd.R k50 50 w base F (H.getD i hd0).v (H.getD i hd0).off := by
 have hl : i < H.length := by rw [h.len]; exact hi
 rw [List.getD_eq_getElem?_getD, List.getElem?_eq_getElem hl]
 exact h.rows _ (List.getElem_mem hl)
theorem TN.far (h : TN base F w t lots st H) {G : Nat → Prop} (hc : Chg G w W) (h1 : ¬ G t) (h2 : ∀ k, F k → ¬ G k) : TN base F W t lots st H :=
 ⟨hc.blk h.blk h1, h.len, fun x hx => Kd.R_step (h.rows x hx) (fun k q hk => hc.block k hk (h2 k q)), h.nF⟩
theorem TN.state (h : TN base F w t lots st H) (s : Int) : TN base F (w.setCell ⟨t, 1, none⟩ (.int .i64 s)) t lots s H :=
 ⟨blk_put h.blk 1 _ (by unfold tcs; simp), h.len, fun x hx => Kd.R_far (p := ⟨t, 1, none⟩) (h.rows x hx) (fun k q e => h.nF (by have e' : k = t := e; rw [e'] at q; exact q)) _, h.nF⟩
theorem TN.hand (h : TN base F w t lots st H) {i j : Nat} {u : Value} {h' : Hd} (hi : i < 8) (he : (hcl (H.getD i hd0)).set j u = hcl h') (hj : j < 4) (hr : Kd.R k50 50 w base F h'.v h'.off) : TN base F (w.setCell ⟨t, 2 + i * 4 + j, none⟩ u) t lots st (H.set i h') := by
 have hl : i < H.length := by rw [h.len]; exact hi
 have far : ∀ {v : Value} {xs : List S50}, Kd.R k50 50 w base F v xs → Kd.R k50 50 (w.setCell ⟨t, 2 + i * 4 + j, none⟩ u) base F v xs := fun hx => Kd.R_far (p := ⟨t, 2 + i * 4 + j, none⟩) hx (fun k q e => h.nF (by have e' : k = t := e; rw [e'] at q; exact q)) _
 refine ⟨blk_put h.blk _ _ (tcs_set lots st H i j u h' hl he hj), by rw [List.length_set]; exact h.len, fun x hx => ?_, h.nF⟩
 rcases List.mem_or_eq_of_mem_set hx with q | q
 ·
  exact far (h.rows x q)
 ·
  rw [q]; exact far hr
theorem getD_set' {i : Nat} {x : Hd} (hi : i < H.length) : (H.set i x).getD i hd0 = x := by
 rw [List.getD_eq_getElem?_getD, List.getElem?_set_self hi]; rfl
theorem TN.put4 (h : TN base F w t lots st H) {i : Nat} (hi : i < 8) (x : Hd) (hr : Kd.R k50 50 w base F x.v x.off) :
  TN base F (World.setCell (World.setCell (World.setCell (World.setCell w ⟨t, 2 + i * 4, none⟩ (.bool x.sl)) ⟨t, 2 + i * 4 + 1, none⟩ (.bool x.sh)) ⟨t, 2 + i * 4 + 2, none⟩ (.int .u64 x.key)) ⟨t, 2 + i * 4 + 3, none⟩ x.v) t lots st (H.set i x) := by
 have hl : i < H.length := by rw [h.len]; exact hi
 have far : ∀ {W : World} {v : Value} {xs : List S50} (j : Nat) (u : Value), Kd.R k50 50 W base F v xs → Kd.R k50 50 (W.setCell ⟨t, 2 + i * 4 + j, none⟩ u) base F v xs := fun j u hx => Kd.R_far (p := ⟨t, 2 + i * 4 + j, none⟩) hx (fun k q e => h.nF (by have e' : k = t := e; rw [e'] at q; exact q)) _
 have e1 := h.hand (i := i) (j := 0) (u := .bool x.sl) (h' := { H.getD i hd0 with sl := x.sl }) hi rfl (by omega) (h.getR hi)
 obtain ⟨y1, hy1⟩ : ∃ y, y = { H.getD i hd0 with sl := x.sl } := ⟨_, rfl⟩
 rw [← hy1] at e1
 have g1 := getD_set' (x := y1) hl
 have r1 := e1.getR hi
 rw [g1] at r1
 have e2 := e1.hand (i := i) (j := 1) (u := .bool x.sh) (h' := { y1 with sh := x.sh }) hi (by rw [g1]; rfl) (by omega) r1
 rw [List.set_set] at e2
 obtain ⟨y2, hy2⟩ : ∃ y, y = { y1 with sh := x.sh } := ⟨_, rfl⟩
 rw [← hy2] at e2
 have g2 := getD_set' (x := y2) hl
 have r2 := e2.getR hi
 rw [g2] at r2
 have e3 := e2.hand (i := i) (j := 2) (u := .int .u64 x.key) (h' := { y2 with key := x.key }) hi (by rw [g2]; rfl) (by omega) r2
 rw [List.set_set] at e3
 obtain ⟨y3, hy3⟩ : ∃ y, y = { y2 with key := x.key } := ⟨_, rfl⟩
 rw [← hy3] at e3
 have g3 := getD_set' (x := y3) hl
 have e4 := e3.hand (i := i) (j := 3) (u := x.v) (h' := x) hi (by rw [g3, hy3, hy2, hy1]; rfl) (by omega) (far 2 _ (far 1 _ (far 0 _ hr)))
 rw [List.set_set] at e4
 exact e4
end
def inC (lots st s : Int) : Int := if lots = 0 then 1 else if st ≠ s then 9 else 0
def buyB (n : Int) : Bool := decide (0 ≤ n) && decide (n ≤ 7)
def stS (lots st : Int) : Int := if lots = 0 then 2 else st
def shutS (lots st : Int) : Int := if inC lots st 0 = 0 then 1 else st
def subC (lots st who : Int) : Int := if inC lots st 0 ≠ 0 then inC lots st 0 else if buyB who = true then 0 else 2
def subH (lots st : Int) (H : List Hd) (who ky : Int) : List Hd := if subC lots st who = 0 then H.set who.toNat ⟨true, false, ky, .slice none 0 0, []⟩ else H
theorem buy_f (n : Int) : tender_buyer.f n = some (buyB n) := by
 unfold tender_buyer.f buyB
 by_cases h : 0 ≤ n
 ·
  rw [if_pos h, decide_eq_true h, Bool.true_and]
 ·
  rw [if_neg h, decide_eq_false h, Bool.false_and]
set_option maxHeartbeats 12800000 in
set_option maxRecDepth 100000 in
theorem in_t (base t : Nat) (F : Nat → Prop) (w : World) (lots st : Int) (H : List Hd) (s : Int) (h : TN base F w t lots st H) : Calls Try.prog 53 #[.pointer (some ⟨t, 0, none⟩), .int .i64 s] w fun e w' => e = .returned (.int .i64 (inC lots st s)) ∧ w = w' := by
 have hu85 := Try.underlying85
 have hu82 := Try.underlying82
 have hu83 := Try.underlying83
 go_enter Try.func53, Try.ntmps53
 have h0 := h.c0
 have h1 := h.c1
 clear h
 by_cases a : lots = 0
 ·
  have d : (lots == 0) = true := beq_iff_eq.2 a
  go_wp2_with fail
  go_ret
  exact ⟨by unfold inC; rw [if_pos a]; rfl, rfl⟩
 ·
  have d : (lots == 0) = false := beq_eq_false_iff_ne.2 a
  by_cases b : st = s
  ·
   have e : (st != s) = false := bne_eq_false_iff_eq.2 b
   go_wp2_with fail
   go_ret
   exact ⟨by unfold inC; rw [if_neg a, if_neg (fun q => q b)]; rfl, rfl⟩
  ·
   have e : (st != s) = true := bne_iff_ne.2 b
   go_wp2_with fail
   go_ret
   exact ⟨by unfold inC; rw [if_neg a, if_pos b]; rfl, rfl⟩
set_option maxHeartbeats 12800000 in
set_option maxRecDepth 100000 in
theorem State_t (base t : Nat) (F : Nat → Prop) (w : World) (lots st : Int) (H : List Hd) (h : TN base F w t lots st H) : Calls Try.prog 40 #[.pointer (some ⟨t, 0, none⟩)] w fun e w' => e = .returned (.int .i64 (stS lots st)) ∧ w = w' := by
 have hu85 := Try.underlying85
 have hu82 := Try.underlying82
 have hu83 := Try.underlying83
 go_enter Try.func40, Try.ntmps40
 have h0 := h.c0
 have h1 := h.c1
 clear h
 by_cases a : lots = 0
 ·
  have d : (lots == 0) = true := beq_iff_eq.2 a
  go_wp2_with fail
  go_ret
  exact ⟨by unfold stS; rw [if_pos a]; rfl, rfl⟩
 ·
  have d : (lots == 0) = false := beq_eq_false_iff_ne.2 a
  go_wp2_with fail
  go_ret
  exact ⟨by unfold stS; rw [if_neg a]; rfl, rfl⟩
set_option maxHeartbeats 12800000 in
set_option maxRecDepth 100000 in
theorem Shut_t (base t : Nat) (F : Nat → Prop) (w : World) (lots st : Int) (H : List Hd) (h : TN base F w t lots st H) : Calls Try.prog 36 #[.pointer (some ⟨t, 0, none⟩)] w fun e w' => e = .returned (.int .i64 (inC lots st 0)) ∧ TN base F w' t lots (shutS lots st) H ∧ Chg (fun k => k = t) w w' := by
 have hu85 := Try.underlying85
 have hu82 := Try.underlying82
 have hu83 := Try.underlying83
 go_enter Try.func36, Try.ntmps36
 have HT := lhid h
 clear h
 go_wp2_with fail
 with_reducible refine (in_t base t F w lots st H 0 HT.out).mono ?_
 rintro e w' ⟨rfl, rfl⟩
 by_cases a : inC lots st 0 = 0
 ·
  have d : (inC lots st 0 == 0) = true := beq_iff_eq.2 a
  have h1 := HT.out.c1
  have hfz : ∀ o, w.frozen? ⟨t, o, none⟩ = false := fun o => blk_frozen HT.out.blk o
  go_wp2_with fail
  try any_goals (exfalso; omega)
  go_ret
  exact ⟨by first | rfl | (rw [a]; rfl), by unfold shutS; rw [if_pos a]; exact HT.out.state 1, (Chg.refl (fun k => k = t) _).set (p := ⟨t, 1, none⟩) (Or.inr rfl) _⟩
 ·
  have d : (inC lots st 0 == 0) = false := beq_eq_false_iff_ne.2 a
  go_wp2_with fail
  try any_goals (exfalso; omega)
  go_ret
  exact ⟨rfl, by unfold shutS; rw [if_neg a]; exact HT.out, Chg.refl _ _⟩
set_option maxHeartbeats 12800000 in
set_option maxRecDepth 100000 in
theorem Submit_t (base t : Nat) (F : Nat → Prop) (w : World) (lots st : Int) (H : List Hd) (who ky : Int) (h : TN base F w t lots st H) : Calls Try.prog 35 #[.pointer (some ⟨t, 0, none⟩), .int .i64 who, .int .u64 ky] w fun e w' => e = .returned (.int .i64 (subC lots st who)) ∧ TN base F w' t lots st (subH lots st H who ky) ∧ Chg (fun k => k = t) w w' := by
 have hu85 := Try.underlying85
 have hu82 := Try.underlying82
 have hu83 := Try.underlying83
 go_enter Try.func35, Try.ntmps35
 have HT := lhid h
 clear h
 go_wp2_with fail
 with_reducible refine (in_t base t F w lots st H 0 HT.out).mono ?_
 rintro e w' ⟨rfl, rfl⟩
 by_cases a : inC lots st 0 = 0
 ·
  have d : (inC lots st 0 != 0) = false := bne_eq_false_iff_eq.2 a
  cases b : buyB who
  ·
   have HC := lhid (Chg.refl (fun k => k = t) w)
   go_wp2_with fail
   with_reducible refine (tender_buyer.calls who false w (by rw [buy_f, b])).mono ?_
   rintro e w1 ⟨rfl, nd, hq⟩
   have hb := Zbn (Below.refl w.heap.size w) nd
   rw [← hq] at hb
   clear hq
   have HT_1 := lhid (HT.out.next hb)
   have HC_2 := lhid (HC.out.next hb)
   clear HT HC hb
   have hs : subC lots st who = 2 := by unfold subC; rw [if_neg (fun q => q a), b]; rfl
   go_wp2_with fail
   try any_goals (exfalso; omega)
   go_ret
   exact ⟨by rw [hs]; rfl, by unfold subH; rw [if_neg (by rw [hs]; decide)]; exact HT_1.out, HC_2.out⟩
  ·
   have HC := lhid (Chg.refl (fun k => k = t) w)
   go_wp2_with fail
   with_reducible refine (tender_buyer.calls who true w (by rw [buy_f, b])).mono ?_
   rintro e w1 ⟨rfl, nd, hq⟩
   have hb := Zbn (Below.refl w.heap.size w) nd
   rw [← hq] at hb
   clear hq
   have HT_3 := lhid (HT.out.next hb)
   have HC_4 := lhid (HC.out.next hb)
   clear HT HC hb
   obtain ⟨q, rfl⟩ : ∃ q : Nat, who = (q : Int) := ⟨who.toNat, by unfold buyB at b; simp at b; omega⟩
   have hq : q < 8 := by unfold buyB at b; simp at b; omega
   obtain ⟨c0, c1, c2, c3⟩ := HT_3.out.ch q hq
   have hfz : ∀ o, w1.frozen? ⟨t, o, none⟩ = false := fun o => blk_frozen HT_3.out.blk o
   have hq8 : (q : Int) < 8 := by omega
   have hq0 : (0 : Int) ≤ (q : Int) := by omega
   have hs : subC lots st (q : Int) = 0 := by unfold subC; rw [if_neg (fun q => q a), b]; rfl
   go_wp2_with fail
   try any_goals (exfalso; omega)
   go_ret
   refine ⟨by rw [hs]; rfl, ?_, ?_⟩
   ·
    unfold subH; rw [if_pos hs, Int.toNat_natCast]; exact HT_3.out.put4 hq ⟨true, false, ky, .slice none 0 0, []⟩ (Kd.R_nil _ _ _ _ _)
   ·
    exact (((HC_4.out.set (p := ⟨t, 2 + q * 4, none⟩) (Or.inr rfl) _).set (p := ⟨t, 2 + q * 4 + 1, none⟩) (Or.inr rfl) _).set (p := ⟨t, 2 + q * 4 + 2, none⟩) (Or.inr rfl) _).set (p := ⟨t, 2 + q * 4 + 3, none⟩) (Or.inr rfl) _
 ·
  have d : (inC lots st 0 != 0) = true := bne_iff_ne.2 a
  go_wp2_with fail
  try any_goals (exfalso; omega)
  go_ret
  have hs : subC lots st who = inC lots st 0 := by unfold subC; rw [if_pos a]
  exact ⟨by rw [hs]; rfl, by unfold subH; rw [if_neg (by rw [hs]; exact a)]; exact HT.out, Chg.refl _ _⟩
end Go.Proofs.Ythfdjccdelbeeaa.PT
end
section
namespace Go.Proofs.Ythfdjccdelbeeaa.PT
open Go.RowKit Go.Proofs.YthfdjccdelbeeaaW.PrintWords Go.Proofs.YthfdjccdelbeeaaW.PrintLast Go.Proofs.YthfdjccdelbeeaaW.PrintMore
set_option linter.unusedVariables false
set_option linter.unusedSimpArgs false
theorem wpList_store_new {P : Program} {ops : Array Oper} {rest : List Oper} {op : Oper} {a : Act} {w : World} {Q : Exit → Act → World → Prop} (hgd : op.guard = none) (ty : TypeId) (x y : Operand) (ho : op.op = .store ty x y) (W : World) (c c' : Array Value)
  (hw : w = W.alloc (.cells c ty)) (hx : a.eval x = .pointer (some ⟨W.heap.size, 0, none⟩)) (hy : a.eval y = .agg c') (hi : (P.info? ty).map (·.size) = some c'.size) (hs : c.size = c'.size) (h1 : c'.all (·.oneCell') = true)
  (h : wpList P ops Q rest (a.put op.dst undef) (W.alloc (.cells c' ty))) : wpList P ops Q (op :: rest) a w := by
 subst hw
 refine wpList_plain hgd fun K hK => ?_
 unfold Oper.wp execOp
 simp only [ho, hx, hy, Instr.storeAt, Instr.sureAddr, Sem.run_bind, Sem.run_pure, Result.andThen_ok, run_storeVar_new W ty c c' hi hs h1]
 exact hK _ _ h
theorem one_hcs {w : World} {base : Nat} {F : Nat → Prop} : ∀ (H : List Hd), (∀ h ∈ H, Kd.R k50 50 w base F h.v h.off) → ∀ v ∈ hcs H, v.oneCell' = true
 | [], _, v, hv => by simp [hcs] at hv
 | h :: H, hr, v, hv => by
  unfold hcs at hv
  rcases List.mem_append.1 hv with q | q
  ·
   obtain ⟨A, c, hs⟩ := Kd.R_slice (hr h (by simp))
   simp only [hcl, List.mem_cons, List.not_mem_nil, or_false] at q
   rcases q with q | q | q | q
   ·
    rw [q]; rfl
   ·
    rw [q]; rfl
   ·
    rw [q]; rfl
   ·
    rw [q, hs]; rfl
  ·
   exact one_hcs H (fun x hx => hr x (by simp [hx])) v q
section
variable {base t : Nat} {F : Nat → Prop} {w W : World} {lots st : Int} {H : List Hd}
theorem TN.one (h : TN base F w t lots st H) : (tcs lots st H).all (·.oneCell') = true := all_oneCell_toArray (fun v hv => by
 simp only [List.mem_cons] at hv
 rcases hv with q | q | q
 ·
  rw [q]; rfl
 ·
  rw [q]; rfl
 ·
  exact one_hcs H h.rows v q)
theorem TN.tsz (h : TN base F w t lots st H) : (tcs lots st H).size = 34 := by unfold tcs; simp [hcs_len, h.len]
theorem TN.rng (h : TN base F w t lots st H) : w.rangeAt t 0 (tcs lots st H).toList := fun j v hv => by
 rw [Nat.zero_add, blk_cell h.blk]; simpa using hv
end
theorem info85s : (Try.prog.info? 85).map (·.size) = some 34 := by kernel_rfl
set_option maxHeartbeats 12800000 in
set_option maxRecDepth 100000 in
theorem Copy_t (base t : Nat) (F : Nat → Prop) (w : World) (lots st : Int) (H : List Hd) (h : TN base F w t lots st H) (a : lots ≠ 0) (hF : ¬ F w.heap.size) : Calls Try.prog 41 #[.pointer (some ⟨t, 0, none⟩)] w fun e w' => ∃ c, e = .returned (.pointer (some ⟨c, 0, none⟩)) ∧ w.heap.size ≤ c ∧ TN base F w' t lots st H ∧ TN base F w' c lots st H ∧ Below w.heap.size w w' := by
 have hu85 := Try.underlying85
 have hu82 := Try.underlying82
 have hu83 := Try.underlying83
 go_enter Try.func41, Try.ntmps41
 have HT := lhid h
 have HFL := lhid hF
 clear h
 have h0 := HT.out.c0
 have d : (lots == 0) = false := beq_eq_false_iff_ne.2 a
 clear hu82 hu83
 have HB0 := lhid (Zba (Below.refl w.heap.size w) (.cells (tcs lots st H) 85))
 have HN0 := lhid (blk_new w (.cells (tcs lots st H) 85))
 go_upto_region 4 with (first | ((with_reducible refine gate_dst (N := 15) rfl ?_); refine wpList_load_mid rfl 85 (.tmp 14) rfl t 0 rfl (tcs lots st H).toList _ HT.out.rng Try.underlying85 rfl (by rw [info85s, Array.length_toList, HT.out.tsz]) ?_; simp only [Array.toArray_toList]) | ((with_reducible refine gate_store (t := 85) (p := 3) (v := .tmp 15) rfl ?_); refine wpList_store_new rfl 85 (.tmp 3) (.tmp 15) rfl w _ (tcs lots st H) rfl rfl rfl (by rw [info85s, HT.out.tsz]) (by rw [HT.out.tsz]; rfl) HT.out.one ?_))
 generalize World.alloc w (.cells (tcs lots st H) 85) = w1 at HB0 HN0 ⊢
 go_wp2_with fail
 go_ret
 exact ⟨w.heap.size, rfl, Nat.le_refl _, HT.out.next HB0.out, ⟨HN0.out, HT.out.len, fun x hx => Kd.R_below (HT.out.rows x hx) HB0.out, fun q => HFL.out q⟩, HB0.out⟩
end Go.Proofs.Ythfdjccdelbeeaa.PT
end
section
namespace Go.Proofs.Ythfdjccdelbeeaa.PT
open Go.RowKit Go.Proofs.YthfdjccdelbeeaaW.PrintWords Go.Proofs.YthfdjccdelbeeaaW.PrintLast Go.Proofs.YthfdjccdelbeeaaW.PrintMore
set_option linter.unusedVariables false
set_option linter.unusedSimpArgs false
theorem nil_eq50 (a : Option Addr) (n c : Nat) (w : World) : (binOp .eql 22 (.slice a n c) (.slice none 0 0)).run Try.prog w = .ok (.bool a.isNone) w := by
 have h : ∀ d : Nat, (Op.equalIn (d + 1) 22 (.slice a n c) (.slice none 0 0)).run Try.prog w = .ok a.isNone w := fun d => by
  cases a <;> simp [Op.equalIn, run_underlying Try.underlying22]
 simp only [binOp]
 simp [Op.equal, Op.maxDepth, h 9999]
set_option maxHeartbeats 12800000 in
set_option maxRecDepth 100000 in
theorem clone50_calls (w : World) (A : Option Addr) (c : Nat) (xs : List S50) (hC : Kd.C k50 w A xs.length xs) (hc : xs.length ≤ c) (hl : xs.length ≤ 100000) :
  Calls Try.prog 59 #[.slice A xs.length c] w fun e w' => ∃ v, e = .returned v ∧ Kd.R k50 50 w' w.heap.size (fun _ => True) v xs ∧ Below w.heap.size w w' := by
 have HC := lhid hC
 have HB := Aside0.mk (Below.refl w.heap.size w)
 clear hC
 cases A with
 | none =>
  have hx : xs = [] := by
   cases xs with
   | nil => rfl
   | cons x xs => obtain ⟨ad, e, _⟩ := HC.out.2.2 (by simp); cases e
  subst hx
  have hnil := nil_eq50 none 0 c
  go_enter Try.func59, Try.ntmps59
  go_wp2_with fail
  go_ret
  exact ⟨_, rfl, Kd.R_nil _ _ _ _ _, HB.out⟩
 | some ad =>
  have hnil := nil_eq50 (some ad) xs.length c
  go_enter Try.func59, Try.ntmps59
  go_wp2_with (first | ((with_reducible refine gate_dst (N := 5) rfl ?_); refine Kd.R_lit k50 _ 50 ?hg (N := 5) ?hd (xs := ([] : List S50)) (inner := []) (ok := fun _ => True) (okp := fun _ => True) ?hr ?hp (fun _ hk => hk) trivial (Below.refl _ _) (Nat.le_refl _) (by simp) ?_; (case hd => rfl); (case hg => rfl); (case hr => first | (go_simp; done) | (go_simp; rfl)); (case hp => exact Reps.none _ _); intro v1 w1 ho8 hb hg_ hnew_; clear hg_ hnew_; have HO1 := Aside0.mk ho8; have HB1 := Aside0.mk hb; clear ho8 hb) | ((with_reducible refine gate_builtin (b := .append) (xs := #[.tmp 5, .tmp 6]) rfl ?_); at_builtin; refine Kd.R_append_rows k50 (w0 := w) w.heap.size rfl (.tmp 5) (.tmp 6) 22 50 (.agg #[(.int .i64 0), (.int .i64 0), (.int .i64 0)]) 24 rfl Try.underlying22 info50 rfl (by decide) (by omega) v1 [] xs _ _ _ (fun _ => True) (fun _ => False) rfl rfl ?aO (Kd.C_below HC.out HB1.out) (fun x cs h => by obtain rfl := k50_open h; exact k50_mkM _ _ _ x) (fun _ h => h.elim) ?aF ?aB ?aS ?aL ?_; (case aB => exact HB1.out); (case aF => exact (fun _ _ => trivial)); (case aO => exact HO1.out); (case aS => exact (below_size HB1.out)); (case aL => simp; omega); intro v2 w2 ho hb hg hat; have HO2 := Aside0.mk ho; have HB2 := Aside0.mk hb; clear ho hb hg hat))
  go_ret
  exact ⟨_, rfl, HO2.out, HB2.out⟩
theorem info82s : (Try.prog.info? 82).map (·.size) = some 4 := by kernel_rfl
theorem info83s : (Try.prog.info? 83).map (·.size) = some 32 := by kernel_rfl
set_option maxRecDepth 100000 in
theorem hand_ix {H : List Hd} (hl : H.length = 8) (i : Nat) (hi : i < 8) (W : World) : (Instr.index 83 (.agg (hcs H).toArray) (.int .i64 (i : Int))).run Try.prog W = .ok (.agg #[.bool (H.getD i hd0).sl, .bool (H.getD i hd0).sh, .int .u64 (H.getD i hd0).key, (H.getD i hd0).v]) W := by
 have hu := Try.underlying83
 obtain ⟨z, hz, hz2⟩ : ∃ z, Try.prog.info? 82 = some z ∧ z.size = 4 := by
  cases h : Try.prog.info? 82 with
  | none => have := info82s; rw [h] at this; cases this
  | some z => have := info82s; rw [h] at this; exact ⟨z, rfl, by simpa using this⟩
 have hex : (hcs H).toArray.extract (i * 4) (i * 4 + 4) = #[.bool (H.getD i hd0).sl, .bool (H.getD i hd0).sh, .int .u64 (H.getD i hd0).key, (H.getD i hd0).v] := by
  have hlen : (hcs H).length = 32 := by rw [hcs_len, hl]
  apply Array.ext_getElem?
  intro j
  rw [Array.getElem?_extract]
  by_cases hj : j < 4
  ·
   have g := hcs_get H i j (by omega) hj
   have : j = 0 ∨ j = 1 ∨ j = 2 ∨ j = 3 := by omega
   rcases this with rfl | rfl | rfl | rfl <;> simp_all [hcl] <;> omega
  ·
   rw [if_neg (by simp only [List.size_toArray, hlen]; omega)]
   symm
   apply Array.getElem?_eq_none
   show 4 ≤ j
   omega
 simp [Instr.index, run_underlying hu, asIntOf, go_sem, sizeOf, typeInfo, hz, hz2, Result.andThen]
 rw [if_pos hi]
 congr 2
 simpa using hex
theorem R_C {w : World} {base : Nat} {F : Nat → Prop} {A : Option Addr} {n c : Nat} {xs : List S50} (h : Kd.R k50 50 w base F (.slice A n c) xs) : Kd.C k50 w A xs.length xs := (Kd.R_reads' h).2.2
theorem rng_h {base t : Nat} {F : Nat → Prop} {w : World} {lots st : Int} {H : List Hd} (h : TN base F w t lots st H) : w.rangeAt t 2 (hcs H) := fun j v hv => by
 rw [blk_cell h.blk]
 unfold tcs
 rw [List.getElem?_toArray, show 2 + j = j + 1 + 1 by omega, List.getElem?_cons_succ, List.getElem?_cons_succ]
 exact hv
theorem flat_step {H : List Hd} {i : Nat} (hi : i < H.length) : (H.take (i + 1)).flatMap (·.off) = (H.take i).flatMap (·.off) ++ (H.getD i hd0).off := by
 rw [List.take_succ_eq_append_getElem hi, List.flatMap_append, List.getD_eq_getElem?_getD, List.getElem?_eq_getElem hi]; simp
def Few (H : List Hd) : Prop := ∀ h ∈ H, h.off.length ≤ 4
theorem few_at {H : List Hd} (hf : Few H) {i : Nat} (hi : i < H.length) : (H.getD i hd0).off.length ≤ 4 := by
 rw [List.getD_eq_getElem?_getD, List.getElem?_eq_getElem hi]; exact hf _ (List.getElem_mem hi)
theorem few_len {H : List Hd} (hf : Few H) : ∀ i, i ≤ H.length → ((H.take i).flatMap (·.off)).length ≤ 4 * i
 | 0, _ => by simp
 | i + 1, h => by
  rw [flat_step (by omega), List.length_append]
  have := few_len hf i (by omega)
  have := few_at hf (i := i) (by omega)
  omega
set_option maxHeartbeats 12800000 in
set_option maxRecDepth 100000 in
theorem shown_t (base t : Nat) (F : Nat → Prop) (w : World) (lots st : Int) (H : List Hd) (h : TN base F w t lots st H) (hf : Few H) : Calls Try.prog 58 #[.pointer (some ⟨t, 0, none⟩)] w fun e w' => ∃ v, e = .returned v ∧ Kd.R k50 50 w' w.heap.size (fun _ => True) v (H.flatMap (·.off)) ∧ Below w.heap.size w w' := by
 have hu85 := Try.underlying85
 have hu82 := Try.underlying82
 have hu83 := Try.underlying83
 go_enter Try.func58, Try.ntmps58
 have HT := lhid h
 have HF := lhid hf
 have hlen := h.len
 clear h hf hu82 hu83
 have HB := lhid (Below.refl w.heap.size w)
 go_upto_region 3 with (first | ((with_reducible refine gate_dst (N := 9) rfl ?_); refine wpList_load_mid rfl 83 (.tmp 8) rfl t 2 rfl (hcs H) _ (rng_h HT.out) Try.underlying83 rfl (by rw [info83s, hcs_len, hlen]) ?_))
 go_loopw [3, 10] (fun o v wr => ∃ i : Nat, i ≤ 8 ∧ v = .int .i64 i ∧ Hid (Kd.R k50 50 wr w.heap.size (fun _ => True) o ((H.take i).flatMap (·.off))) ∧ Hid (Below w.heap.size w wr)) (fun _ v _ => 8 - (intOf v).toNat)
 case atStart => exact ⟨0, by omega, rfl, lhid (Kd.R_nil _ _ _ _ _), HB⟩
 case round =>
  obtain ⟨i, hi, rfl, HO, HB2⟩ := hrel
  clear HB
  by_cases hlt : i < 8
  ·
   have hlt2 : (i : Int) < 8 := by omega
   have hix := hand_ix hlen i hlt
   obtain ⟨x, hx⟩ : ∃ x, x = H.getD i hd0 := ⟨_, rfl⟩
   have HX := lhid hx
   have hxr := HT.out.getR hlt
   have hxf := few_at HF.out (i := i) (by rw [hlen]; exact hlt)
   have hol := few_len HF.out i (by rw [hlen]; omega)
   rw [← hx] at hix hxr hxf
   obtain ⟨Ax, cx, hv⟩ := Kd.R_slice hxr
   rw [hv] at hix hxr
   have HXC0 := lhid (R_C hxr)
   have HXC := lhid (Kd.C_below HXC0.out HB2.out)
   clear hx hxr
   obtain ⟨Ao, co, rfl⟩ := Kd.R_slice HO.out
   go_upto_region 5 with (fail)
   have hb := Zba (Below.refl wr.heap.size wr) (.cells #[.bool x.sl, .bool x.sh, .int .u64 x.key, .slice Ax x.off.length cx] 82)
   have hn := blk_new wr (.cells #[.bool x.sl, .bool x.sh, .int .u64 x.key, .slice Ax x.off.length cx] 82)
   have HZ21 := lhid (show (World.alloc wr (.cells #[.bool x.sl, .bool x.sh, .int .u64 x.key, .slice Ax x.off.length cx] 82)).heap.size = wr.heap.size + 1 from by simp)
   generalize hq : World.alloc wr (.cells #[.bool x.sl, .bool x.sh, .int .u64 x.key, .slice Ax x.off.length cx] 82) = w21 at hb hn HZ21 ⊢
   clear hq
   have HO_1 := lhid (Kd.R_below HO.out hb)
   have HB_2 := lhid (below_then HB2.out HB2.out.size hb)
   have CX_3 := lhid (Kd.C_below HXC.out hb)
   clear HO HB2 HXC hb
   have HN_4 := lhid (hn)
   clear hn
   obtain ⟨nb, hnb⟩ : ∃ q, q = wr.heap.size := ⟨_, rfl⟩
   rw [← hnb] at HN_4 ⊢
   clear hnb
   have c3 := blk_cell HN_4.out 3
   simp only [List.getElem?_toArray, List.getElem?_cons_succ, List.getElem?_cons_zero] at c3
   go_upto_region 6 with (first | ((with_reducible refine gate_builtin (b := .append) (xs := #[.tmp 13, .tmp 15]) rfl ?_); at_builtin; refine Kd.R_append_rows k50 (w0 := w) w.heap.size rfl (.tmp 13) (.tmp 15) 22 50 (.agg #[(.int .i64 0), (.int .i64 0), (.int .i64 0)]) 24 rfl Try.underlying22 info50 rfl (by decide) (by omega) (.slice Ao ((H.take i).flatMap (·.off)).length co) ((H.take i).flatMap (·.off)) x.off _ _ _ (fun _ => True) (fun _ => False) rfl rfl ?aO CX_3.out (fun x cs h => by obtain rfl := k50_open h; exact k50_mkM _ _ _ x) (fun _ h => h.elim) ?aF ?aB ?aS ?aL ?_; (case aB => exact HB_2.out); (case aF => exact (fun _ _ => trivial)); (case aO => exact HO_1.out); (case aS => exact HB_2.out.size); (case aL => omega); intro v2 w2 ho hb hg hat; have HO9 := lhid ho; have HB9 := lhid hb; clear ho hb hg hat))
   have hfs : (H.take (i + 1)).flatMap (·.off) = (H.take i).flatMap (·.off) ++ x.off := by rw [HX.out]; exact flat_step (by rw [hlen]; exact hlt)
   have HFS := lhid hfs
   clear hfs
   go_wp2_with fail
   go_roundw
   case rel => exact ⟨i + 1, by omega, by simp, lhid (by rw [HFS.out]; exact HO9.out), HB9⟩
   case measure => simp [intOf]; omega
  ·
   have hie : i = 8 := by omega
   subst hie
   go_wp2_with fail
   go_ret
   exact ⟨_, rfl, by rw [List.take_of_length_le (by omega)] at HO; exact HO.out, HB2.out⟩
def misN (H : List Hd) : Nat → List Int
 | 0 => []
 | k + 1 => if (H.getD k hd0).sl && !(H.getD k hd0).sh then misN H k ++ [(k : Int)] else misN H k
theorem misN_len (H : List Hd) : ∀ k, (misN H k).length ≤ k
 | 0 => Nat.le_refl _
 | k + 1 => by
  have := misN_len H k
  unfold misN
  split
  ·
   simp; omega
  ·
   omega
set_option maxHeartbeats 12800000 in
set_option maxRecDepth 100000 in
theorem Missing_t (base t : Nat) (F : Nat → Prop) (w : World) (lots st : Int) (H : List Hd) (h : TN base F w t lots st H) : Calls Try.prog 39 #[.pointer (some ⟨t, 0, none⟩)] w fun e w' => ∃ v, e = .returned v ∧ Kd.R (Kd.int .i64) 3 w' w.heap.size (fun _ => True) v (misN H 8) ∧ Below w.heap.size w w' := by
 have hu85 := Try.underlying85
 have hu82 := Try.underlying82
 have hu83 := Try.underlying83
 go_enter Try.func39, Try.ntmps39
 have HT := lhid h
 have hlen := h.len
 clear h hu82 hu83
 have HB := lhid (Below.refl w.heap.size w)
 go_upto_region 5 with (first | ((with_reducible refine gate_dst (N := 12) rfl ?_); refine wpList_load_mid rfl 83 (.tmp 11) rfl t 2 rfl (hcs H) _ (rng_h HT.out) Try.underlying83 rfl (by rw [info83s, hcs_len, hlen]) ?_))
 go_loopw [3, 13] (fun o v wr => ∃ i : Nat, i ≤ 8 ∧ v = .int .i64 i ∧ Hid (Kd.R (Kd.int .i64) 3 wr w.heap.size (fun _ => True) o (misN H i)) ∧ Hid (Below w.heap.size w wr)) (fun _ v _ => 8 - (intOf v).toNat)
 case atStart => exact ⟨0, by omega, rfl, lhid (Kd.R_nil _ _ _ _ _), HB⟩
 case round =>
  obtain ⟨i, hi, rfl, HO, HB2⟩ := hrel
  clear HB
  by_cases hlt : i < 8
  ·
   have hlt2 : (i : Int) < 8 := by omega
   have hix := hand_ix hlen i hlt
   have HM := lhid (show misN H (i + 1) = if (H.getD i hd0).sl && !(H.getD i hd0).sh then misN H i ++ [(i : Int)] else misN H i from rfl)
   have hml := misN_len H i
   obtain ⟨x, hx⟩ : ∃ x, x = H.getD i hd0 := ⟨_, rfl⟩
   have hxr := HT.out.getR hlt
   rw [← hx] at hix hxr HM
   obtain ⟨Ax, cx, hv⟩ := Kd.R_slice hxr
   rw [hv] at hix
   clear hx hxr
   obtain ⟨Ao, co, rfl⟩ := Kd.R_slice HO.out
   go_upto_region 7 with (fail)
   have hb := Zba (Below.refl wr.heap.size wr) (.cells #[.bool x.sl, .bool x.sh, .int .u64 x.key, .slice Ax x.off.length cx] 82)
   have hn := blk_new wr (.cells #[.bool x.sl, .bool x.sh, .int .u64 x.key, .slice Ax x.off.length cx] 82)
   have HZ21 := lhid (show (World.alloc wr (.cells #[.bool x.sl, .bool x.sh, .int .u64 x.key, .slice Ax x.off.length cx] 82)).heap.size = wr.heap.size + 1 from by simp)
   generalize hq : World.alloc wr (.cells #[.bool x.sl, .bool x.sh, .int .u64 x.key, .slice Ax x.off.length cx] 82) = w21 at hb hn HZ21 ⊢
   clear hq
   have HO_1 := lhid (Kd.R_below HO.out hb)
   have HB_2 := lhid (below_then HB2.out HB2.out.size hb)
   clear HO HB2 hb
   have HN_3 := lhid (hn)
   clear hn
   obtain ⟨nb, hnb⟩ : ∃ q, q = wr.heap.size := ⟨_, rfl⟩
   rw [← hnb] at HN_3 ⊢
   clear hnb
   have c0 := blk_cell HN_3.out 0
   have c1 := blk_cell HN_3.out 1
   simp only [List.getElem?_toArray, List.getElem?_cons_succ, List.getElem?_cons_zero] at c0 c1
   obtain ⟨sl, hsl⟩ : ∃ q, q = x.sl := ⟨_, rfl⟩
   obtain ⟨sh, hsh⟩ : ∃ q, q = x.sh := ⟨_, rfl⟩
   rw [← hsl] at c0 HM
   rw [← hsh] at c1 HM
   clear hsl hsh
   cases sl
   ·
    go_wp2_with fail
    try any_goals (exfalso; omega)
    go_roundw
    case rel => exact ⟨i + 1, by omega, by simp, lhid (by rw [HM.out]; exact HO_1.out), HB_2⟩
    case measure => simp [intOf]; omega
   ·
    cases sh
    ·
     go_wp2_with (first | ((with_reducible refine gate_builtin (b := .append) (xs := #[.tmp 24, .tmp 26]) rfl ?_); at_builtin; refine Kd.R_append (Kd.int .i64) (w0 := w) w.heap.size rfl (.tmp 24) (.tmp 26) 26 3 (.int .i64 0) 8 rfl Try.underlying26 info3 rfl (by decide) (by omega) (.slice Ao (misN H i).length co) (misN H i) (i : Int) [.int .i64 (i : Int)] (fun _ => True) (fun _ => False) rfl rfl ?aP (fun _ hk => hk.elim) ?aF ?aO ?aB ?aS ?aL ?_; (case aP => exact rfl); (case aF => exact fun _ _ => trivial); (case aO => exact HO_1.out); (case aB => exact HB_2.out); (case aS => exact HB_2.out.size); (case aL => omega); intro v8 w8 ho8 hb8 hg8 hat8; have HP8 := lhid ho8; have HB8 := lhid hb8; clear ho8 hb8 hg8 hat8))
     try any_goals (exfalso; omega)
     go_roundw
     case rel => exact ⟨i + 1, by omega, by simp, lhid (by rw [HM.out]; exact HP8.out), HB8⟩
     case measure => simp [intOf]; omega
    ·
     go_wp2_with fail
     try any_goals (exfalso; omega)
     go_roundw
     case rel => exact ⟨i + 1, by omega, by simp, lhid (by rw [HM.out]; exact HO_1.out), HB_2⟩
     case measure => simp [intOf]; omega
  ·
   have hie : i = 8 := by omega
   subst hie
   go_wp2_with fail
   go_ret
   exact ⟨_, rfl, HO.out, HB2.out⟩
end Go.Proofs.Ythfdjccdelbeeaa.PT
end
section
namespace Go.Proofs.Ythfdjccdelbeeaa.TPl
set_option linter.unusedVariables false
structure Of where
  b : Nat
  l : Nat
  p : Nat
def nok (wo : Int) (L B : Nat) (o : Of) : Prop := (o.b : Int) ≠ wo ∧ L &&& o.l = 0 ∧ B.testBit o.b = false
instance (wo : Int) (L B : Nat) (o : Of) : Decidable (nok wo L B o) := inferInstanceAs (Decidable (_ ∧ _ ∧ _))
def feas (wo : Int) : List Of → List Bool → Nat → Nat → Prop
  | [], [], _, _ => True
  | o :: os, true :: s, L, B => nok wo L B o ∧ feas wo os s (L ||| o.l) (B ||| 2 ^ o.b)
  | _ :: os, false :: s, L, B => feas wo os s L B
  | _, _, _, _ => False
def val : List Of → List Bool → Nat
  | o :: os, true :: s => o.p + val os s
  | _ :: os, false :: s => val os s
  | _, _ => 0
def tot : List Of → Nat
  | [] => 0
  | o :: os => o.p + tot os
def num : List Bool → Nat
  | [] => 0
  | true :: s => 2 ^ s.length + num s
  | false :: s => num s
def idx : Int → List Bool → List Int
  | _, [] => []
  | i, true :: s => i :: idx (i + 1) s
  | i, false :: s => idx (i + 1) s
theorem num_lt : ∀ s : List Bool, num s < 2 ^ s.length
  | [] => by simp [num]
  | true :: s => by have := num_lt s; simp only [num, List.length_cons, Nat.pow_succ]; omega
  | false :: s => by have := num_lt s; simp only [num, List.length_cons, Nat.pow_succ]; omega
theorem num_inj : ∀ s t : List Bool, s.length = t.length → num s = num t → s = t
  | [], [], _, _ => rfl
  | true :: s, true :: t, hl, h => by
    have hl' : s.length = t.length := by simpa using hl
    simp only [num, hl'] at h
    rw [num_inj s t hl' (by omega)]
  | false :: s, false :: t, hl, h => by rw [num_inj s t (by simpa using hl) h]
  | true :: s, false :: t, hl, h => by
    have hl' : s.length = t.length := by simpa using hl
    have := num_lt t
    simp only [num, hl'] at h; omega
  | false :: s, true :: t, hl, h => by
    have hl' : s.length = t.length := by simpa using hl
    have := num_lt s
    simp only [num] at h; rw [hl'] at this; omega
theorem feas_len (wo : Int) : ∀ (os : List Of) (s : List Bool) (L B : Nat), feas wo os s L B → s.length = os.length
  | [], [], _, _, _ => rfl
  | _ :: os, true :: s, L, B, h => by simp [feas_len wo os s _ _ h.2]
  | _ :: os, false :: s, L, B, h => by simp [feas_len wo os s _ _ h]
  | [], _ :: _, _, _, h => h.elim
  | _ :: _, [], _, _, h => h.elim
theorem feas_none (wo : Int) : ∀ (os : List Of) (L B : Nat), feas wo os (List.replicate os.length false) L B
  | [], _, _ => trivial
  | _ :: os, L, B => feas_none wo os L B
theorem val_le : ∀ (os : List Of) (s : List Bool), val os s ≤ tot os
  | [], [] => by simp [val]
  | [], _ :: _ => by simp [val]
  | _ :: _, [] => by simp [val]
  | o :: os, true :: s => by have := val_le os s; simp only [val, tot]; omega
  | o :: os, false :: s => by have := val_le os s; simp only [val, tot]; omega
def IsBest (wo : Int) (os : List Of) (L B : Nat) (s : List Bool) : Prop := feas wo os s L B ∧ ∀ t, feas wo os t L B → val os t < val os s ∨ (val os t = val os s ∧ num t ≤ num s)
theorem IsBest.uniq {wo : Int} {os : List Of} {L B : Nat} {s t : List Bool} (hs : IsBest wo os L B s) (ht : IsBest wo os L B t) : s = t := by
  have h1 := hs.2 t ht.1
  have h2 := ht.2 s hs.1
  exact num_inj _ _ (by rw [feas_len _ _ _ _ _ hs.1, feas_len _ _ _ _ _ ht.1]) (by omega)
theorem isBest_cons {wo : Int} {o : Of} {os : List Of} {L B : Nat} {s0 s1 : List Bool} (h0 : IsBest wo os L B s0) (hk : nok wo L B o) (h1 : IsBest wo os (L ||| o.l) (B ||| 2 ^ o.b) s1) :
    IsBest wo (o :: os) L B (if val os s0 ≤ o.p + val os s1 then true :: s1 else false :: s0) := by
  have l0 := feas_len _ _ _ _ _ h0.1
  have l1 := feas_len _ _ _ _ _ h1.1
  split
  · rename_i hle
    refine ⟨⟨hk, h1.1⟩, fun t ht => ?_⟩
    match t, ht with
    | true :: t, ht =>
      have := h1.2 t ht.2
      have lt := feas_len _ _ _ _ _ ht.2
      simp only [val, num, l1, lt]; omega
    | false :: t, ht =>
      have := h0.2 t ht
      have lt := feas_len wo os t L B ht
      have := num_lt t
      simp only [val, num, l1]; rw [lt] at this; omega
  · rename_i hle
    refine ⟨h0.1, fun t ht => ?_⟩
    match t, ht with
    | true :: t, ht =>
      have := h1.2 t ht.2
      simp only [val]; omega
    | false :: t, ht =>
      have := h0.2 t ht
      simpa only [val, num] using this
theorem isBest_skip {wo : Int} {o : Of} {os : List Of} {L B : Nat} {s0 : List Bool} (h0 : IsBest wo os L B s0) (hk : ¬ nok wo L B o) : IsBest wo (o :: os) L B (false :: s0) := by
  refine ⟨h0.1, fun t ht => ?_⟩
  match t, ht with
  | true :: t, ht => exact absurd ht.1 hk
  | false :: t, ht => simpa only [val, num] using h0.2 t ht
def nGo (wo : Int) : List Of → Int → Nat → Nat → Nat → List Int → List Int × Int → List Int × Int
  | [], _, _, _, sum, now, tw => if (sum : Int) ≤ tw.2 then tw else (now, sum)
  | o :: os, i, L, B, sum, now, tw =>
    if ((sum + tot (o :: os) : Nat) : Int) ≤ tw.2 then tw
    else nGo wo os (i + 1) L B sum now (if nok wo L B o then nGo wo os (i + 1) (L ||| o.l) (B ||| 2 ^ o.b) (sum + o.p) (now ++ [i]) tw else tw)
theorem nGo_best (wo : Int) : ∀ (os : List Of) (L B : Nat), ∃ s, IsBest wo os L B s ∧ ∀ (i : Int) (sum : Nat) (now : List Int) (tw : List Int × Int),
    nGo wo os i L B sum now tw = if ((sum + val os s : Nat) : Int) ≤ tw.2 then tw else (now ++ idx i s, ((sum + val os s : Nat) : Int))
  | [], L, B => ⟨[], ⟨trivial, fun t ht => by
      match t, ht with
      | [], _ => simp [val]⟩, fun i sum now tw => by simp [nGo, val, idx]⟩
  | o :: os, L, B => by
    obtain ⟨s0, h0, e0⟩ := nGo_best wo os L B
    have v0 := val_le os s0
    by_cases hk : nok wo L B o
    · obtain ⟨s1, h1, e1⟩ := nGo_best wo os (L ||| o.l) (B ||| 2 ^ o.b)
      have v1 := val_le os s1
      refine ⟨_, isBest_cons h0 hk h1, fun i sum now tw => ?_⟩
      simp only [nGo, if_pos hk, e0, e1, tot]
      by_cases hle : val os s0 ≤ o.p + val os s1
      · rw [if_pos hle]
        by_cases hp : ((sum + (o.p + tot os) : Nat) : Int) ≤ tw.2
        · rw [if_pos hp, if_pos (by simp only [val]; omega)]
        · rw [if_neg hp]
          by_cases hq : ((sum + o.p + val os s1 : Nat) : Int) ≤ tw.2
          · rw [if_pos hq, if_pos (by omega), if_pos (by simp only [val]; omega)]
          · rw [if_neg hq, if_pos (by dsimp only; omega), if_neg (by simp only [val]; omega)]
            simp [val, idx, Nat.add_assoc]
      · rw [if_neg hle]
        by_cases hp : ((sum + (o.p + tot os) : Nat) : Int) ≤ tw.2
        · rw [if_pos hp, if_pos (by simp only [val]; omega)]
        · rw [if_neg hp]
          by_cases hq : ((sum + o.p + val os s1 : Nat) : Int) ≤ tw.2
          · rw [if_pos hq]; rfl
          · rw [if_neg hq, if_neg (by dsimp only; omega), if_neg (by simp only [val]; omega)]; rfl
    · refine ⟨_, isBest_skip h0 hk, fun i sum now tw => ?_⟩
      simp only [nGo, if_neg hk, e0, tot]
      by_cases hp : ((sum + (o.p + tot os) : Nat) : Int) ≤ tw.2
      · rw [if_pos hp, if_pos (by simp only [val]; omega)]
      · rw [if_neg hp]; rfl
end Go.Proofs.Ythfdjccdelbeeaa.TPl
end
