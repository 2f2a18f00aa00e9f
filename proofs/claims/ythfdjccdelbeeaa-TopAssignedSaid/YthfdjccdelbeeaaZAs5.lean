/-
  The texts that the theorem in YthfdjccdelbeeaaZRowAs rests on, merged (part 6); only what it reaches.
-/
import Derived.Laws.BitsAllLaws
import Derived.Test.YthfdjccdelbeeaaZAs2
import Derived.Test.YthfdjccdelbeeaaZAs4
section
namespace Go.Proofs.Ythfdjccdelbeeaa.PT
open Go.RowKit Go.Proofs.YthfdjccdelbeeaaW.PrintWords Go.Proofs.YthfdjccdelbeeaaW.PrintLast Go.Proofs.YthfdjccdelbeeaaW.PrintMore
attribute [local go_sem] max2_int min2_int max_two min_two max_three min_three max_four min_four   -- for this text's walks alone
set_option linter.unusedVariables false
set_option linter.unusedSimpArgs false
theorem bhid {p : Prop} (h : p) : Hid p := h
def bSum : List S50 → Int
  | [] => 0
  | o :: os => bSum os + o.f2
def bOk (wo lots buyers : Int) (o : S50) : Prop := ¬ o.f0 = wo ∧ bits .and .i64 lots o.f1 = 0 ∧ bits .and .i64 buyers (wrap64 (2 ^ o.f0.toNat)) = 0
instance (wo lots buyers : Int) (o : S50) : Decidable (bOk wo lots buyers o) := by unfold bOk; exact inferInstance
/-- The search: offer by offer first with it, then without it. -/
def bGo (wo : Int) : List S50 → Int → Int → Int → Int → List Int → List Int × Int → List Int × Int
  | [], _, _, _, sum, now, tw => if sum ≤ tw.2 then tw else (now, sum)
  | o :: os, i, lots, buyers, sum, now, tw =>
    if sum + bSum (o :: os) ≤ tw.2 then tw
    else bGo wo os (i + 1) lots buyers sum now (if bOk wo lots buyers o then bGo wo os (i + 1) (bits .or .i64 lots o.f1) (bits .or .i64 buyers (wrap64 (2 ^ o.f0.toNat))) (sum + o.f2) (now ++ [i]) tw else tw)
def bValid (l : List S50) : Prop := l.length ≤ 16 ∧ ∀ o ∈ l, 0 ≤ o.f0 ∧ o.f0 ≤ 7 ∧ 1 ≤ o.f1 ∧ o.f1 < 4096 ∧ 1 ≤ o.f2 ∧ o.f2 ≤ 1073741824
instance (l : List S50) : Decidable (bValid l) := by unfold bValid; exact inferInstance
theorem bSum_bd : ∀ (l : List S50), (∀ o ∈ l, 1 ≤ o.f2 ∧ o.f2 ≤ 1073741824) → 0 ≤ bSum l ∧ bSum l ≤ l.length * 1073741824
  | [], _ => by simp [bSum]
  | o :: os, h => by
    have h1 := h o List.mem_cons_self
    have h2 := bSum_bd os (fun x hx => h x (List.mem_cons_of_mem _ hx))
    simp only [bSum, List.length_cons]
    omega
theorem bGo_bd (wo : Int) : ∀ (os : List S50) (i lots buyers sum : Int) (now : List Int) (tw : List Int × Int) (M : Int), (∀ o ∈ os, 1 ≤ o.f2 ∧ o.f2 ≤ 1073741824) → tw.2 ≤ M → sum + bSum os ≤ M → tw.2 ≤ (bGo wo os i lots buyers sum now tw).2 ∧ (bGo wo os i lots buyers sum now tw).2 ≤ M
  | [], i, lots, buyers, sum, now, tw, M, _, h1, h2 => by
    simp only [bGo, bSum] at *
    split
    · omega
    · dsimp only; omega
  | o :: os, i, lots, buyers, sum, now, tw, M, h, h1, h2 => by
    have ho := h o List.mem_cons_self
    have hos := fun x hx => h x (List.mem_cons_of_mem o hx)
    simp only [bSum] at h2
    simp only [bGo]
    split
    · omega
    · split
      · have a := bGo_bd wo os (i + 1) (bits .or .i64 lots o.f1) (bits .or .i64 buyers (wrap64 (2 ^ o.f0.toNat))) (sum + o.f2) (now ++ [i]) tw M hos h1 (by omega)
        have b := bGo_bd wo os (i + 1) lots buyers sum now (bGo wo os (i + 1) (bits .or .i64 lots o.f1) (bits .or .i64 buyers (wrap64 (2 ^ o.f0.toNat))) (sum + o.f2) (now ++ [i]) tw) M hos a.2 (by omega)
        omega
      · exact bGo_bd wo os (i + 1) lots buyers sum now tw M hos h1 (by omega)
/-- What the search finds in memory: its boxes, what was taken and what is at hand. -/
structure BInv (w0 : World) (B g2 g3 g6 gr g8 g9 g10 g11 : Nat) (A0 : Option Addr) (c0 : Nat) (l : List S50) (wo : Int) (w : World) (T : List Int) (m : Int) (N : List Int) : Prop where
  below : Below w0.heap.size w0 w
  lo : w0.heap.size ≤ g2
  d23 : g2 < g3
  d36 : g3 < g6
  d6r : g3 < gr
  d6r' : g6 ≠ gr
  d68 : g6 < g8
  dr8 : gr < g8
  d89 : g8 < g9
  d910 : g9 < g10
  d1011 : g10 < g11
  d11 : g11 < B
  size : B ≤ w.heap.size
  b2 : w.heap[g2]? = some (.cells #[.slice A0 l.length c0] 22 (0, 0))
  b3 : w.heap[g3]? = some (.cells #[.int .i64 wo] 3 (0, 0))
  b6 : w.heap[g6]? = some (.cells #[.slice (some ⟨gr, 0, none⟩) (l.length + 1) (l.length + 1)] 26 (0, 0))
  br : ∃ cs, w.heap[gr]? = some (.cells cs 3 (0, 0)) ∧ ∀ j, j ≤ l.length → cs[j]? = some (.int .i64 (bSum (l.drop j)))
  b11 : w.heap[g11]? = some (.cells #[.func (.func 68) #[] #[.pointer (some ⟨g6, 0, none⟩), .pointer (some ⟨g10, 0, none⟩), .pointer (some ⟨g2, 0, none⟩), .pointer (some ⟨g9, 0, none⟩), .pointer (some ⟨g8, 0, none⟩), .pointer (some ⟨g3, 0, none⟩), .pointer (some ⟨g11, 0, none⟩)]] 130 (0, 0))
  b10 : w.heap[g10]? = some (.cells #[.int .i64 m] 3 (0, 0))
  rows : ∃ vt vn, w.heap[g8]? = some (.cells #[vt] 26 (0, 0)) ∧ w.heap[g9]? = some (.cells #[vn] 26 (0, 0)) ∧ w.ownsRow B 3 1 vt T.length (nums .i64 T) ∧ w.ownsRow B 3 1 vn N.length (nums .i64 N) ∧ (vt.ownBlock = none ∨ vt.ownBlock ≠ vn.ownBlock)
theorem BInv.drewN {w0 : World} {B g2 g3 g6 gr g8 g9 g10 g11 : Nat} {A0 : Option Addr} {c0 : Nat} {l : List S50} {wo : Int} {w : World} {T : List Int} {m : Int} {N : List Int} (h : BInv w0 B g2 g3 g6 gr g8 g9 g10 g11 A0 c0 l wo w T m N) (n : Nat) :
    BInv w0 B g2 g3 g6 gr g8 g9 g10 g11 A0 c0 l wo (w.drewN n) T m N :=
  ⟨pw_below_drewN h.below n, h.lo, h.d23, h.d36, h.d6r, h.d6r', h.d68, h.dr8, h.d89, h.d910, h.d1011, h.d11, h.size, h.b2, h.b3, h.b6, h.br, h.b11, h.b10, h.rows⟩
theorem BInv.grown {w0 : World} {B g2 g3 g6 gr g8 g9 g10 g11 : Nat} {A0 : Option Addr} {c0 : Nat} {l : List S50} {wo : Int} {w w1 : World} {T : List Int} {m : Int} {N : List Int} (h : BInv w0 B g2 g3 g6 gr g8 g9 g10 g11 A0 c0 l wo w T m N) (hg : w.grownBy w1 none) :
    BInv w0 B g2 g3 g6 gr g8 g9 g10 g11 A0 c0 l wo w1 T m N := by
  obtain ⟨vt, vn, r8, r9, rt, rn, rd⟩ := h.rows
  obtain ⟨cs, hb, hc⟩ := h.br
  have hs := h.size
  have := h.lo
  have := h.d23
  have := h.d36
  have := h.d68
  have := h.d89
  have := h.d910
  have := h.d1011
  have := h.d11
  have hb0 := h.below.size
  exact ⟨h.below.grown hg (by omega) (by simp), h.lo, h.d23, h.d36, h.d6r, h.d6r', h.d68, h.dr8, h.d89, h.d910, h.d1011, h.d11, Nat.le_trans hs hg.size, blk_grown h.b2 hg (by simp), blk_grown h.b3 hg (by simp), blk_grown h.b6 hg (by simp), ⟨cs, blk_grown hb hg (by simp), hc⟩, blk_grown h.b11 hg (by simp), blk_grown h.b10 hg (by simp),
    ⟨vt, vn, blk_grown r8 hg (by simp), blk_grown r9 hg (by simp), rt.kept hg (by cases vt.ownBlock <;> simp), rn.kept hg (by cases vn.ownBlock <;> simp), rd⟩⟩
theorem ne_blk {w : World} {B g n : Nat} {v : Value} {xs : List Value} (h : w.ownsRow B 3 1 v n xs) (hg : g < B) : some g ≠ v.ownBlock := by
  intro e; have := (h.lt g e.symm).1; omega
theorem ne_type {w : World} {B g n : Nat} {v : Value} {xs : List Value} {cs : Array Value} {t : TypeId} (h : w.ownsRow B 3 1 v n xs) (hb : w.heap[g]? = some (.cells cs t (0, 0))) (ht : t ≠ 3) : some g ≠ v.ownBlock := by
  intro e
  rcases h.2 with ⟨rfl, _⟩ | ⟨g', cap, cur, rfl, _, hh, _⟩
  · simp [Value.ownBlock] at e
  · simp [Value.ownBlock] at e
    subst e
    rw [hb] at hh
    injection hh with hh
    injection hh with _ h2
    exact ht h2
theorem BInv.setNow {w0 : World} {B g2 g3 g6 gr g8 g9 g10 g11 : Nat} {A0 : Option Addr} {c0 : Nat} {l : List S50} {wo : Int} {w w1 : World} {T : List Int} {m : Int} {N N' : List Int} {vt vn v1 : Value} (h : BInv w0 B g2 g3 g6 gr g8 g9 g10 g11 A0 c0 l wo w T m N)
    (r8 : w.heap[g8]? = some (.cells #[vt] 26 (0, 0))) (r9 : w.heap[g9]? = some (.cells #[vn] 26 (0, 0))) (rt : w.ownsRow B 3 1 vt T.length (nums .i64 T)) (rn : w.ownsRow B 3 1 vn N.length (nums .i64 N)) (rd : vt.ownBlock = none ∨ vt.ownBlock ≠ vn.ownBlock)
    (ho : w1.ownsRow B 3 1 v1 N'.length (nums .i64 N')) (hg : w.grownBy w1 vn.ownBlock) (hat : v1.ownBlock = vn.ownBlock ∨ ∃ b, v1.ownBlock = some b ∧ w.heap.size ≤ b) :
    BInv w0 B g2 g3 g6 gr g8 g9 g10 g11 A0 c0 l wo (w1.setCell ⟨g9, 0, none⟩ v1) T m N' := by
  obtain ⟨cs, hb, hc⟩ := h.br
  have hs := h.size
  have q1 := h.lo
  have q2 := h.d23
  have q3 := h.d36
  have q4 := h.d68
  have q5 := h.d89
  have q6 := h.d910
  have q7 := h.d1011
  have q8 := h.d11
  have q9 := h.dr8
  have q10 := h.d6r
  have hb0 := h.below.size
  have far : ∀ {g : Nat} {cs : Array Value} {t : TypeId}, g < B → g ≠ g9 → w.heap[g]? = some (.cells cs t (0, 0)) → (w1.setCell ⟨g9, 0, none⟩ v1).heap[g]? = some (.cells cs t (0, 0)) := fun hg1 hg2 hw => blk_far (blk_grown hw hg (ne_blk rn hg1)) (p := ⟨g9, 0, none⟩) hg2 v1
  have r9' := blk_grown r9 hg (ne_blk rn (by omega))
  have hset : w1.grownBy (w1.setCell ⟨g9, 0, none⟩ v1) (some g9) := ⟨rfl, rfl, rfl, by simp [World.setCell], fun k _ hne => Below.heap_setCell _ _ _ _ (fun e => hne (by rw [e]))⟩
  refine ⟨(h.below.grown hg (by omega) (fun k hk => ?_)).setCell (by show _ ≤ g9; omega) _, h.lo, h.d23, h.d36, h.d6r, h.d6r', h.d68, h.dr8, h.d89, h.d910, h.d1011, h.d11, Nat.le_trans hs (Nat.le_trans hg.size hset.size), far (by omega) (by omega) h.b2, far (by omega) (by omega) h.b3, far (by omega) (by omega) h.b6, ⟨cs, far (by omega) (by omega) hb, hc⟩, far (by omega) (by omega) h.b11, far (by omega) (by omega) h.b10, vt, v1, far (by omega) (by omega) r8, blk_put r9' 0 v1 rfl, ?_, ?_, ?_⟩
  · have := (rn.lt k hk).1; omega
  · exact (rt.kept hg rd).kept hset (Or.inr (fun e => ne_blk rt (by omega : g9 < B) e.symm))
  · exact ho.kept hset (Or.inr (fun e => ne_blk ho (by omega : g9 < B) e.symm))
  · rcases hat with e | ⟨b, e, hbb⟩
    · rw [e]; exact rd
    · right; intro e2
      have := (rt.lt b (e2.trans e)).2; omega
theorem BInv.setBest {w0 : World} {B g2 g3 g6 gr g8 g9 g10 g11 : Nat} {A0 : Option Addr} {c0 : Nat} {l : List S50} {wo : Int} {w w1 : World} {T T' : List Int} {m m' : Int} {N : List Int} {vn v1 : Value} (h : BInv w0 B g2 g3 g6 gr g8 g9 g10 g11 A0 c0 l wo w T m N)
    (r9 : w.heap[g9]? = some (.cells #[vn] 26 (0, 0))) (rn : w.ownsRow B 3 1 vn N.length (nums .i64 N))
    (ho : w1.ownsRow B 3 1 v1 T'.length (nums .i64 T')) (hg : w.grownBy w1 none) (hat : v1.ownBlock = none ∨ ∃ b, v1.ownBlock = some b ∧ w.heap.size ≤ b) :
    BInv w0 B g2 g3 g6 gr g8 g9 g10 g11 A0 c0 l wo ((w1.setCell ⟨g8, 0, none⟩ v1).setCell ⟨g10, 0, none⟩ (.int .i64 m')) T' m' N := by
  obtain ⟨cs, hb, hc⟩ := h.br
  obtain ⟨vt, _, r8, _, _, _, _⟩ := h.rows
  have hs := h.size
  have q1 := h.lo
  have q2 := h.d23
  have q3 := h.d36
  have q4 := h.d68
  have q5 := h.d89
  have q6 := h.d910
  have q7 := h.d1011
  have q8 := h.d11
  have q9 := h.dr8
  have q10 := h.d6r
  have hb0 := h.below.size
  have far : ∀ {g : Nat} {cs : Array Value} {t : TypeId}, g ≠ g8 → g ≠ g10 → w.heap[g]? = some (.cells cs t (0, 0)) → ((w1.setCell ⟨g8, 0, none⟩ v1).setCell ⟨g10, 0, none⟩ (.int .i64 m')).heap[g]? = some (.cells cs t (0, 0)) := fun hg1 hg2 hw => blk_far (blk_far (blk_grown hw hg (by simp)) (p := ⟨g8, 0, none⟩) hg1 v1) (p := ⟨g10, 0, none⟩) hg2 _
  have r8' := blk_grown r8 hg (by simp)
  have r10' := blk_grown h.b10 hg (by simp)
  have hset : w1.grownBy (w1.setCell ⟨g8, 0, none⟩ v1) (some g8) := ⟨rfl, rfl, rfl, by simp [World.setCell], fun k _ hne => Below.heap_setCell _ _ _ _ (fun e => hne (by rw [e]))⟩
  have hset2 : (w1.setCell ⟨g8, 0, none⟩ v1).grownBy ((w1.setCell ⟨g8, 0, none⟩ v1).setCell ⟨g10, 0, none⟩ (.int .i64 m')) (some g10) := ⟨rfl, rfl, rfl, by simp [World.setCell], fun k _ hne => Below.heap_setCell _ _ _ _ (fun e => hne (by rw [e]))⟩
  have keep : ∀ {v : Value} {n : Nat} {xs : List Value}, w1.ownsRow B 3 1 v n xs → ((w1.setCell ⟨g8, 0, none⟩ v1).setCell ⟨g10, 0, none⟩ (.int .i64 m')).ownsRow B 3 1 v n xs := fun hv => (hv.kept hset (Or.inr (fun e => ne_blk hv (by omega : g8 < B) e.symm))).kept hset2 (Or.inr (fun e => ne_blk hv (by omega : g10 < B) e.symm))
  refine ⟨((h.below.grown hg (by omega) (by simp)).setCell (by show _ ≤ g8; omega) _).setCell (by show _ ≤ g10; omega) _, h.lo, h.d23, h.d36, h.d6r, h.d6r', h.d68, h.dr8, h.d89, h.d910, h.d1011, h.d11, Nat.le_trans hs (Nat.le_trans hg.size (Nat.le_trans hset.size hset2.size)), far (by omega) (by omega) h.b2, far (by omega) (by omega) h.b3, far (by omega) (by omega) h.b6, ⟨cs, far (by omega) (by omega) hb, hc⟩, far (by omega) (by omega) h.b11, ?_, v1, vn, ?_, far (by omega) (by omega) r9, keep ho, keep (rn.kept hg (by cases vn.ownBlock <;> simp)), ?_⟩
  · exact blk_put (blk_far r10' (p := ⟨g8, 0, none⟩) (by show g10 ≠ g8; omega) v1) 0 _ rfl
  · exact blk_far (blk_put r8' 0 v1 rfl) (p := ⟨g10, 0, none⟩) (by show g8 ≠ g10; omega) _
  · rcases hat with e | ⟨b, e, hbb⟩
    · exact Or.inl e
    · right; intro e2
      have := (rn.lt b (e2.symm.trans e)).2; omega
theorem own_cap {w : World} {B n c : Nat} {A : Option Addr} {xs : List Value} (h : w.ownsRow B 3 1 (.slice A n c) n xs) : n ≤ c := by
  rcases h.2 with ⟨e, h0⟩ | ⟨g, cap, cur, e, _, _, hn, _⟩
  · omega
  · injection e with _ _ e3
    omega
theorem own_take {w : World} {B n c k : Nat} {A : Option Addr} {xs : List Int} (h : w.ownsRow B 3 1 (.slice A n c) n (nums .i64 xs)) (hk : k ≤ n) : w.ownsRow B 3 1 (.slice A k c) k (nums .i64 (xs.take k)) := by
  obtain ⟨h1, h2⟩ := h
  simp [nums] at h1
  refine ⟨by simp [nums]; omega, ?_⟩
  rcases h2 with ⟨e, h0⟩ | ⟨g, cap, cur, e, hb, hh, hn, hm, hsz, ht⟩
  · injection e with e1 e2 e3
    subst e1 e3
    left; constructor
    · congr; omega
    · omega
  · injection e with e1 e2 e3
    subst e1 e3
    right
    refine ⟨g, c, cur, rfl, hb, hh, by omega, hm, hsz, ?_⟩
    have := congrArg (List.take k) ht
    rw [List.take_take] at this
    rw [show min k (n * 1) = k * 1 from by omega] at this
    rw [this]; simp [nums]
theorem bk_cell {w : World} {g : Nat} {v : Value} {t : TypeId} (h : w.heap[g]? = some (.cells #[v] t (0, 0))) : w.cell? ⟨g, 0, none⟩ = some v := by rw [blk_cell h]; rfl
theorem bk_cell3 {w : World} {g : Nat} {u v x : Value} {t : TypeId} (h : w.heap[g]? = some (.cells #[u, v, x] t (0, 0))) : w.cell? ⟨g, 0, none⟩ = some u ∧ w.cell? ⟨g, 1, none⟩ = some v ∧ w.cell? ⟨g, 2, none⟩ = some x := by rw [blk_cell h, blk_cell h, blk_cell h]; exact ⟨rfl, rfl, rfl⟩
set_option maxHeartbeats 1600000 in
set_option maxRecDepth 100000 in
theorem best1_calls (w0 : World) (B g2 g3 g6 gr g8 g9 g10 g11 : Nat) (A0 : Option Addr) (c0 : Nat) (l : List S50) (wo : Int) (hr0 : Kd.C k50 w0 A0 l.length l) (hv : bValid l) :
    ∀ (os : List S50) (i : Nat) (lots buyers sum : Int) (T : List Int) (m : Int) (N : List Int) (w : World), l.drop i = os → i + os.length = l.length → N.length ≤ i → 0 ≤ sum → sum ≤ i * 1073741824 → -1 ≤ m → m ≤ 100000000000 →
      BInv w0 B g2 g3 g6 gr g8 g9 g10 g11 A0 c0 l wo w T m N →
      Calls Try.prog 68 #[.int .i64 i, .int .i64 lots, .int .i64 buyers, .int .i64 sum, .pointer (some ⟨g6, 0, none⟩), .pointer (some ⟨g10, 0, none⟩), .pointer (some ⟨g2, 0, none⟩), .pointer (some ⟨g9, 0, none⟩), .pointer (some ⟨g8, 0, none⟩), .pointer (some ⟨g3, 0, none⟩), .pointer (some ⟨g11, 0, none⟩)] w
        fun e w' => e = .returned (.tuple #[]) ∧ BInv w0 B g2 g3 g6 gr g8 g9 g10 g11 A0 c0 l wo w' (bGo wo os i lots buyers sum N (T, m)).1 (bGo wo os i lots buyers sum N (T, m)).2 N := by
  intro os
  induction os with
  | nil =>
    intro i lots buyers sum T m N w hd hi hN hs0 hs1 hm0 hm1 H
    have HI := bhid H
    obtain ⟨cs, hbr, hcs⟩ := H.br
    have hil : i = l.length := by simpa using hi
    have hci : w.cell? ⟨gr, i, none⟩ = some (.int .i64 0) := by rw [blk_cell hbr, hcs i (by omega), hd]; rfl
    have hc6 := blk_cell H.b6 0
    have hc10 := blk_cell H.b10 0
    simp only [List.getElem?_toArray, List.getElem?_cons_zero] at hc6 hc10
    have hlen := hv.1
    have hii : (i : Int) < ((l.length + 1 : Nat) : Int) := by omega
    have hi0 : (0 : Int) ≤ (i : Int) := by omega
    have HV := bhid hv
    have HR := bhid hr0
    clear hcs hbr H hd hv hr0 hi
    by_cases hle : sum ≤ m
    · have HE := bhid hil
      clear hil
      go_enter Try.func68, Try.ntmps68
      go_wp2_with fail
      go_quiet (fail)
      go_wp2_with fail
      refine bodyPost_ret (results_none rfl _ _ _) rfl ⟨rfl, ?_⟩
      have e : bGo wo [] i lots buyers sum N (T, m) = (T, m) := by
        simp only [bGo]
        rw [if_pos hle]
      rw [e]
      exact HI.out.drewN _
    · have hlt : m < sum := by omega
      clear hle
      have hib : ((i : Int) == (l.length : Int)) = true := by rw [hil]; simp
      have HE := bhid hil
      clear hil
      have hc2 := blk_cell HI.out.b2 0
      simp only [List.getElem?_toArray, List.getElem?_cons_zero] at hc2
      go_enter Try.func68, Try.ntmps68
      go_wp2_with fail
      go_quiet (fail)
      have HI1 := bhid (HI.out.drewN nq)
      replace hc2 : (w.drewN nq).cell? ⟨g2, 0, none⟩ = _ := hc2
      generalize w.drewN nq = w1 at *
      clear HI hci hc6 hc10
      obtain ⟨vt, vn, r8, r9, rt, rn, rd⟩ := HI1.out.rows
      obtain ⟨An, cn, hvn, hrd⟩ := own_reads rn
      subst hvn
      have hc9 := bk_cell r9
      have R9 := bhid r9
      have R8 := bhid r8
      have HRD := bhid hrd
      have hN16 : N.length ≤ 16 := by omega
      clear r9 r8 hrd
      go_wp2_with (first | (at_builtin; refine print_append_row (w0 := w1) B rfl (.const (.slice none 0 0)) (.tmp 28) 26 3 .i64 8 rfl Try.underlying26 info3 (by decide) (.slice none 0 0) [] N An N.length cn rfl rfl (own_nil _ _ _ _) HRD.out (Below.refl _ _) HI1.out.size (by simp only [List.length_nil]; omega) ?_; intro v1 w3 hown hB3 hg3 hat; obtain ⟨A1, c1, rfl⟩ := own_slice hown; have R83 := blk_grown R8.out hg3 (by simp [Value.ownBlock]); have R103 := blk_grown HI1.out.b10 hg3 (by simp [Value.ownBlock]); have hc83 := bk_cell R83; have hf83 := blk_frozen R83 0; have hc103 := bk_cell R103; have hf103 := blk_frozen R103 0; have hne810 : g8 ≠ g10 := (by have := HI1.out.d89; have := HI1.out.d910; omega); have hx10 := bk_cell (blk_far R103 (p := ⟨g8, 0, none⟩) (fun e => hne810 e.symm) (.slice A1 (N.length) c1)); have hxf10 := blk_frozen (blk_far R103 (p := ⟨g8, 0, none⟩) (fun e => hne810 e.symm) (.slice A1 (N.length) c1)) 0))
      have hSB := HI1.out.setBest (T' := N) (m' := sum) (v1 := .slice A1 N.length c1) R9.out rn (by simpa using hown) (by simpa [Value.ownBlock] using hg3) (by simpa [Value.ownBlock] using hat)
      refine bodyPost_ret (results_none rfl _ _ _) rfl ⟨rfl, ?_⟩
      have e : bGo wo [] i lots buyers sum N (T, m) = (N, sum) := by
        simp only [bGo]
        rw [if_neg (by omega)]
      rw [e]
      exact hSB
  | cons o os ih =>
    intro i lots buyers sum T m N w hd hi hN hs0 hs1 hm0 hm1 H
    have HI := bhid H
    have HD := bhid hd
    obtain ⟨cs, hbr, hcs⟩ := H.br
    have hci : w.cell? ⟨gr, i, none⟩ = some (.int .i64 (bSum (o :: os))) := by rw [blk_cell hbr, hcs i (by omega), hd]
    have hc6 := blk_cell H.b6 0
    have hc10 := blk_cell H.b10 0
    simp only [List.getElem?_toArray, List.getElem?_cons_zero] at hc6 hc10
    have hlen := hv.1
    have hosv : ∀ x ∈ o :: os, 1 ≤ x.f2 ∧ x.f2 ≤ 1073741824 := fun x hx => by
      have := hv.2 x (List.mem_of_mem_drop (i := i) (by rw [hd]; exact hx)); omega
    have hsb : 0 ≤ bSum (o :: os) ∧ bSum (o :: os) ≤ 16 * 1073741824 := by
      have := bSum_bd _ hosv
      omega
    have HOS := bhid hosv
    clear hosv
    have hii : (i : Int) < ((l.length + 1 : Nat) : Int) := by omega
    have hi0 : (0 : Int) ≤ (i : Int) := by omega
    have HV := bhid hv
    have HR := bhid hr0
    have HC := bhid hcs
    have HBR := bhid hbr
    clear hcs hbr H hd hv hr0
    by_cases hle : sum + bSum (o :: os) ≤ m
    · generalize hS : bSum (o :: os) = S at *
      have HS := bhid hS
      clear hS
      go_enter Try.func68, Try.ntmps68
      go_wp2_with fail
      go_quiet (fail)
      go_wp2_with fail
      refine bodyPost_ret (results_none rfl _ _ _) rfl ⟨rfl, ?_⟩
      have e : bGo wo (o :: os) i lots buyers sum N (T, m) = (T, m) := by
        simp only [bGo]
        rw [if_pos (by rw [HS.out]; exact hle)]
      rw [e]
      exact HI.out.drewN _
    · have hlt : m < sum + bSum (o :: os) := by omega
      generalize hS : bSum (o :: os) = S at *
      have HS := bhid hS
      clear hS hle
      have hil : i < l.length := by simp at hi; omega
      have hc2 := blk_cell HI.out.b2 0
      have hc3 := blk_cell HI.out.b3 0
      simp only [List.getElem?_toArray, List.getElem?_cons_zero] at hc2 hc3
      obtain ⟨ad, e0, hx0, hx1, hx2⟩ := at_T50 (Kd.C_below HR.out HI.out.below) (i : Int) (by omega) (by omega)
      cases e0
      have hoo : rd_T50 l (i : Int) = o := by
        have := congrArg List.head? HD.out
        rw [List.head?_drop] at this
        simp [rd_T50, List.getD_eq_getElem?_getD, this]
      rw [hoo] at hx0 hx1 hx2
      simp only [Int.toNat_natCast] at hx0 hx1 hx2
      clear hoo
      obtain ⟨v00, v01, v10, v11, v20, v21⟩ := HV.out.2 o (List.mem_of_mem_drop (i := i) (by rw [HD.out]; exact List.mem_cons_self))
      by_cases hk1 : o.f0 = wo
      · have hk1b : (o.f0 != wo) = false := bne_eq_false_iff_eq.mpr hk1
        have HK : Hid (¬ bOk wo lots buyers o) := bhid (fun h => h.1 hk1)
        clear hk1
        (
            go_enter Try.func68, Try.ntmps68
            go_wp2_with fail
            go_quiet (fail)
            have HI1 := bhid (HI.out.drewN nq)
            replace hc2 : (w.drewN nq).cell? ⟨g2, 0, none⟩ = _ := hc2
            replace hc3 : (w.drewN nq).cell? ⟨g3, 0, none⟩ = _ := hc3
            replace hx0 : (w.drewN nq).cell? _ = _ := hx0
            replace hx1 : (w.drewN nq).cell? _ = _ := hx1
            replace hx2 : (w.drewN nq).cell? _ = _ := hx2
            generalize w.drewN nq = w1 at *
            clear HI HBR HC hci hc6 hc10
            go_upto_region 4 with (fail)
            have HI2 := bhid (HI1.out.grown (World.grownBy_alloc w1 (.cells #[.int .i64 o.f0, .int .i64 o.f1, .int .i64 o.f2] 50) none))
            have hz2 : w1.heap.size < (w1.alloc (.cells #[.int .i64 o.f0, .int .i64 o.f1, .int .i64 o.f2] 50)).heap.size := by simp
            have hb2 := blk_new w1 (.cells #[.int .i64 o.f0, .int .i64 o.f1, .int .i64 o.f2] 50)
            have hgv := HI1.out.size
            generalize w1.alloc (.cells #[.int .i64 o.f0, .int .i64 o.f1, .int .i64 o.f2] 50) = w2 at *
            generalize w1.heap.size = gv at *
            have HV2 := bhid hb2
            obtain ⟨ho0, ho1, ho2⟩ := bk_cell3 hb2
            obtain ⟨vt, vn, r8, r9, rt, rn, rd⟩ := HI2.out.rows
            have R8 := bhid r8
            have R9 := bhid r9
            have hc9 := bk_cell r9
            have hc3 := bk_cell HI2.out.b3
            clear hb2 r8 r9 hc2 hx0 hx1 hx2 HI1
            have EQ : Hid (bGo wo (o :: os) i lots buyers sum N (T, m) = bGo wo os (i + 1) lots buyers sum N (T, m)) := bhid (by
              rw [bGo, if_neg (by rw [HS.out]; show ¬ (sum + S ≤ m); omega), if_neg HK.out])
            clear HK
            go_upto_region 8 with (fail)
            have hc11 := bk_cell HI2.out.b11
            have hd2 : l.drop (i + 1) = os := by rw [← List.drop_drop, HD.out]; rfl
            have e2 : ((i + 1 : Nat) : Int) = (i : Int) + 1 := by omega
            have IH2' := ih (i + 1) lots buyers sum T m N w2 hd2 (by simp at hi; omega) (by omega) hs0 (by omega) (by omega) (by omega) HI2.out
            rw [e2] at IH2'
            have IH2 := bhid IH2'
            clear IH2' e2 hd2
            go_wp2_with fail
            refine IH2.out.mono ?_
            rintro e w8 ⟨rfl, hI8⟩
            have HI8 := bhid hI8
            clear hI8 IH2
            go_wp2_with fail
            first
              | (go_end0; exact ⟨rfl, by rw [EQ.out]; exact HI8.out⟩)
              | (refine bodyPost_ret (results_none rfl _ _ _) rfl ⟨rfl, by rw [EQ.out]; exact HI8.out⟩)
        )
      · have hk1b : (o.f0 != wo) = true := bne_iff_ne.mpr hk1
        by_cases hk2 : bits .and .i64 lots o.f1 = 0
        · have hk2b : (bits .and .i64 lots o.f1 == 0) = true := beq_iff_eq.mpr hk2
          by_cases hk3 : bits .and .i64 buyers (wrap64 (2 ^ o.f0.toNat)) = 0
          · have hk3b : (bits .and .i64 buyers (wrap64 (2 ^ o.f0.toNat)) == 0) = true := beq_iff_eq.mpr hk3
            have HK : Hid (bOk wo lots buyers o) := bhid ⟨hk1, hk2, hk3⟩
            clear hk1 hk2 hk3
            go_enter Try.func68, Try.ntmps68
            go_wp2_with fail
            go_quiet (fail)
            have HI1 := bhid (HI.out.drewN nq)
            replace hc2 : (w.drewN nq).cell? ⟨g2, 0, none⟩ = _ := hc2
            replace hc3 : (w.drewN nq).cell? ⟨g3, 0, none⟩ = _ := hc3
            replace hx0 : (w.drewN nq).cell? _ = _ := hx0
            replace hx1 : (w.drewN nq).cell? _ = _ := hx1
            replace hx2 : (w.drewN nq).cell? _ = _ := hx2
            generalize w.drewN nq = w1 at *
            clear HI HBR HC hci hc6 hc10
            go_upto_region 4 with (fail)
            have HI2 := bhid (HI1.out.grown (World.grownBy_alloc w1 (.cells #[.int .i64 o.f0, .int .i64 o.f1, .int .i64 o.f2] 50) none))
            have hz2 : w1.heap.size < (w1.alloc (.cells #[.int .i64 o.f0, .int .i64 o.f1, .int .i64 o.f2] 50)).heap.size := by simp
            have hb2 := blk_new w1 (.cells #[.int .i64 o.f0, .int .i64 o.f1, .int .i64 o.f2] 50)
            have hgv := HI1.out.size
            generalize w1.alloc (.cells #[.int .i64 o.f0, .int .i64 o.f1, .int .i64 o.f2] 50) = w2 at *
            generalize w1.heap.size = gv at *
            have HV2 := bhid hb2
            obtain ⟨ho0, ho1, ho2⟩ := bk_cell3 hb2
            obtain ⟨vt, vn, r8, r9, rt, rn, rd⟩ := HI2.out.rows
            have R8 := bhid r8
            have R9 := bhid r9
            have hc9 := bk_cell r9
            have hc3 := bk_cell HI2.out.b3
            clear hb2 r8 r9 hc2 hx0 hx1 hx2 HI1
            have hN16 : N.length < 16 := by omega
            go_upto_region 6 with (first | (at_builtin; refine print_append_num (w0 := w2) B rfl (.tmp 54) (.tmp 56) 26 3 .i64 8 rfl Try.underlying26 info3 (by decide) vn N (i : Int) rfl rfl rn (Below.refl _ _) HI2.out.size (by omega) ?_; intro v1 w3 hown hB3 hg3 hat; obtain ⟨A1, c1, rfl⟩ := own_slice hown; have R93 := blk_grown R9.out hg3 (ne_blk rn (by have := HI2.out.d910; have := HI2.out.d1011; have := HI2.out.d11; omega)); have hc93 := bk_cell R93; have hf93 := blk_frozen R93 0; clear hc9))
            have hv3 := blk_grown HV2.out hg3 (ne_type rn HV2.out (by decide))
            have hl : (N ++ [(i : Int)]).length = N.length + 1 := by simp
            have hi4 := HI2.out.setNow R8.out R9.out rt rn rd hown hg3 hat
            rw [hl] at hi4
            have HI4 := bhid hi4
            clear hi4 hl
            have hgv9 : gv ≠ g9 := by have := HI2.out.d910; have := HI2.out.d1011; have := HI2.out.d11; omega
            have hv4 := blk_far hv3 (p := ⟨g9, 0, none⟩) hgv9 (.slice A1 (N.length + 1) c1)
            have HV4 := bhid hv4
            clear hg3 hown hB3 hat R93 hf93 hc93 hv3 hv4 rd rt rn HI2 HV2 R8 R9 ho0 ho1 ho2 hc3
            generalize w3.setCell ⟨g9, 0, none⟩ (.slice A1 (N.length + 1) c1) = w4 at *
            have hc11 := bk_cell HI4.out.b11
            obtain ⟨ho0, ho1, ho2⟩ := bk_cell3 HV4.out
            have hsz4 := HI4.out.size
            go_still_tail 16, (by kernel_rfl)
            change wpList _ _ _ _ _ w4.drew
            have HI5 := bhid (HI4.out.drewN 1)
            change Hid (BInv w0 B g2 g3 g6 gr g8 g9 g10 g11 (some ad) c0 l wo w4.drew T m (N ++ [(i : Int)])) at HI5
            clear hc11 ho0 ho1 ho2 HV4 HI4
            generalize w4.drew = w5 at *
            have e1 : ((i + 1 : Nat) : Int) = (i : Int) + 1 := by omega
            have hd1 : l.drop (i + 1) = os := by rw [← List.drop_drop, HD.out]; rfl
            have IH1 := ih (i + 1) (bits .or .i64 lots o.f1) (bits .or .i64 buyers (wrap64 (2 ^ o.f0.toNat))) (sum + o.f2) T m (N ++ [(i : Int)]) w5 hd1 (by simp at hi; omega) (by simp; omega) (by omega) (by omega) hm0 hm1 HI5.out
            rw [e1] at IH1
            have IH := bhid IH1
            clear IH1 e1 hd1
            have hbd := bGo_bd wo os ((i : Int) + 1) (bits .or .i64 lots o.f1) (bits .or .i64 buyers (wrap64 (2 ^ o.f0.toNat))) (sum + o.f2) (N ++ [(i : Int)]) (T, m) 100000000000 (fun x hx => HOS.out x (List.mem_cons_of_mem _ hx)) hm1 (by have := bSum_bd os (fun x hx => HOS.out x (List.mem_cons_of_mem _ hx)); simp at hi; omega)
            have hif := HK.out
            have EQ : Hid (bGo wo (o :: os) i lots buyers sum N (T, m) = bGo wo os (i + 1) lots buyers sum N (bGo wo os (i + 1) (bits .or .i64 lots o.f1) (bits .or .i64 buyers (wrap64 (2 ^ o.f0.toNat))) (sum + o.f2) (N ++ [(i : Int)]) (T, m))) := bhid (by
              rw [bGo, if_neg (by rw [HS.out]; show ¬ (sum + S ≤ m); omega), if_pos hif])
            clear hif HK
            generalize hG : bGo wo os ((i : Int) + 1) (bits .or .i64 lots o.f1) (bits .or .i64 buyers (wrap64 (2 ^ o.f0.toNat))) (sum + o.f2) (N ++ [(i : Int)]) (T, m) = G at *
            obtain ⟨T1, m1⟩ := G
            clear hG
            simp only at hbd
            obtain ⟨hb1, hb2⟩ := hbd
            go_wp2_with fail
            refine IH.out.mono ?_
            rintro e w6 ⟨rfl, hI6⟩
            obtain ⟨vt6, vn6, r8, r9, rt, rn, rd⟩ := hI6.rows
            have HI6 := bhid hI6
            have R8 := bhid r8
            have R9 := bhid r9
            obtain ⟨A6, c6, rfl⟩ := own_slice rn
            simp only [List.length_append, List.length_cons, List.length_nil, Nat.zero_add] at rn R9 rd
            have hc9 := bk_cell R9.out
            have hf9 := blk_frozen R9.out 0
            have hcap := own_cap rn
            have hcap2 : N.length ≤ c6 := by omega
            clear hI6 r8 r9 IH
            go_upto_region 8 with (fail)
            have hI7 := HI6.out.setNow (N' := N) (v1 := .slice A6 N.length c6) R8.out R9.out rt (by simpa using rn) rd (by have := own_take (k := N.length) rn (by omega); simpa using this) (World.grownBy.refl _ _) (Or.inl (by cases A6 <;> rfl))
            have HI7 := bhid hI7
            clear hI7 HI6 R8 R9 rt rn rd hc9 hf9
            generalize w6.setCell ⟨g9, 0, none⟩ (.slice A6 N.length c6) = w7 at *
            have hc11 := bk_cell HI7.out.b11
            have hd2 : l.drop (i + 1) = os := by rw [← List.drop_drop, HD.out]; rfl
            have e2 : ((i + 1 : Nat) : Int) = (i : Int) + 1 := by omega
            have IH2' := ih (i + 1) lots buyers sum T1 m1 N w7 hd2 (by simp at hi; omega) (by omega) hs0 (by omega) (by omega) (by omega) HI7.out
            rw [e2] at IH2'
            have IH2 := bhid IH2'
            clear IH2' e2 hd2
            go_wp2_with fail
            refine IH2.out.mono ?_
            rintro e w8 ⟨rfl, hI8⟩
            have HI8 := bhid hI8
            clear hI8 IH2
            go_wp2_with fail
            first
              | (go_end0; exact ⟨rfl, by rw [EQ.out]; exact HI8.out⟩)
              | (refine bodyPost_ret (results_none rfl _ _ _) rfl ⟨rfl, by rw [EQ.out]; exact HI8.out⟩)
          · have hk3b : (bits .and .i64 buyers (wrap64 (2 ^ o.f0.toNat)) == 0) = false := beq_eq_false_iff_ne.mpr hk3
            have HK : Hid (¬ bOk wo lots buyers o) := bhid (fun h => hk3 h.2.2)
            clear hk1 hk2 hk3
            go_enter Try.func68, Try.ntmps68
            go_wp2_with fail
            go_quiet (fail)
            have HI1 := bhid (HI.out.drewN nq)
            replace hc2 : (w.drewN nq).cell? ⟨g2, 0, none⟩ = _ := hc2
            replace hc3 : (w.drewN nq).cell? ⟨g3, 0, none⟩ = _ := hc3
            replace hx0 : (w.drewN nq).cell? _ = _ := hx0
            replace hx1 : (w.drewN nq).cell? _ = _ := hx1
            replace hx2 : (w.drewN nq).cell? _ = _ := hx2
            generalize w.drewN nq = w1 at *
            clear HI HBR HC hci hc6 hc10
            go_upto_region 4 with (fail)
            have HI2 := bhid (HI1.out.grown (World.grownBy_alloc w1 (.cells #[.int .i64 o.f0, .int .i64 o.f1, .int .i64 o.f2] 50) none))
            have hz2 : w1.heap.size < (w1.alloc (.cells #[.int .i64 o.f0, .int .i64 o.f1, .int .i64 o.f2] 50)).heap.size := by simp
            have hb2 := blk_new w1 (.cells #[.int .i64 o.f0, .int .i64 o.f1, .int .i64 o.f2] 50)
            have hgv := HI1.out.size
            generalize w1.alloc (.cells #[.int .i64 o.f0, .int .i64 o.f1, .int .i64 o.f2] 50) = w2 at *
            generalize w1.heap.size = gv at *
            have HV2 := bhid hb2
            obtain ⟨ho0, ho1, ho2⟩ := bk_cell3 hb2
            obtain ⟨vt, vn, r8, r9, rt, rn, rd⟩ := HI2.out.rows
            have R8 := bhid r8
            have R9 := bhid r9
            have hc9 := bk_cell r9
            have hc3 := bk_cell HI2.out.b3
            clear hb2 r8 r9 hc2 hx0 hx1 hx2 HI1
            have EQ : Hid (bGo wo (o :: os) i lots buyers sum N (T, m) = bGo wo os (i + 1) lots buyers sum N (T, m)) := bhid (by
              rw [bGo, if_neg (by rw [HS.out]; show ¬ (sum + S ≤ m); omega), if_neg HK.out])
            clear HK
            go_upto_region 8 with (fail)
            have hc11 := bk_cell HI2.out.b11
            have hd2 : l.drop (i + 1) = os := by rw [← List.drop_drop, HD.out]; rfl
            have e2 : ((i + 1 : Nat) : Int) = (i : Int) + 1 := by omega
            have IH2' := ih (i + 1) lots buyers sum T m N w2 hd2 (by simp at hi; omega) (by omega) hs0 (by omega) (by omega) (by omega) HI2.out
            rw [e2] at IH2'
            have IH2 := bhid IH2'
            clear IH2' e2 hd2
            go_wp2_with fail
            refine IH2.out.mono ?_
            rintro e w8 ⟨rfl, hI8⟩
            have HI8 := bhid hI8
            clear hI8 IH2
            go_wp2_with fail
            first
              | (go_end0; exact ⟨rfl, by rw [EQ.out]; exact HI8.out⟩)
              | (refine bodyPost_ret (results_none rfl _ _ _) rfl ⟨rfl, by rw [EQ.out]; exact HI8.out⟩)
        · have hk2b : (bits .and .i64 lots o.f1 == 0) = false := beq_eq_false_iff_ne.mpr hk2
          have HK : Hid (¬ bOk wo lots buyers o) := bhid (fun h => hk2 h.2.1)
          clear hk1 hk2
          (
            go_enter Try.func68, Try.ntmps68
            go_wp2_with fail
            go_quiet (fail)
            have HI1 := bhid (HI.out.drewN nq)
            replace hc2 : (w.drewN nq).cell? ⟨g2, 0, none⟩ = _ := hc2
            replace hc3 : (w.drewN nq).cell? ⟨g3, 0, none⟩ = _ := hc3
            replace hx0 : (w.drewN nq).cell? _ = _ := hx0
            replace hx1 : (w.drewN nq).cell? _ = _ := hx1
            replace hx2 : (w.drewN nq).cell? _ = _ := hx2
            generalize w.drewN nq = w1 at *
            clear HI HBR HC hci hc6 hc10
            go_upto_region 4 with (fail)
            have HI2 := bhid (HI1.out.grown (World.grownBy_alloc w1 (.cells #[.int .i64 o.f0, .int .i64 o.f1, .int .i64 o.f2] 50) none))
            have hz2 : w1.heap.size < (w1.alloc (.cells #[.int .i64 o.f0, .int .i64 o.f1, .int .i64 o.f2] 50)).heap.size := by simp
            have hb2 := blk_new w1 (.cells #[.int .i64 o.f0, .int .i64 o.f1, .int .i64 o.f2] 50)
            have hgv := HI1.out.size
            generalize w1.alloc (.cells #[.int .i64 o.f0, .int .i64 o.f1, .int .i64 o.f2] 50) = w2 at *
            generalize w1.heap.size = gv at *
            have HV2 := bhid hb2
            obtain ⟨ho0, ho1, ho2⟩ := bk_cell3 hb2
            obtain ⟨vt, vn, r8, r9, rt, rn, rd⟩ := HI2.out.rows
            have R8 := bhid r8
            have R9 := bhid r9
            have hc9 := bk_cell r9
            have hc3 := bk_cell HI2.out.b3
            clear hb2 r8 r9 hc2 hx0 hx1 hx2 HI1
            have EQ : Hid (bGo wo (o :: os) i lots buyers sum N (T, m) = bGo wo os (i + 1) lots buyers sum N (T, m)) := bhid (by
              rw [bGo, if_neg (by rw [HS.out]; show ¬ (sum + S ≤ m); omega), if_neg HK.out])
            clear HK
            go_upto_region 8 with (fail)
            have hc11 := bk_cell HI2.out.b11
            have hd2 : l.drop (i + 1) = os := by rw [← List.drop_drop, HD.out]; rfl
            have e2 : ((i + 1 : Nat) : Int) = (i : Int) + 1 := by omega
            have IH2' := ih (i + 1) lots buyers sum T m N w2 hd2 (by simp at hi; omega) (by omega) hs0 (by omega) (by omega) (by omega) HI2.out
            rw [e2] at IH2'
            have IH2 := bhid IH2'
            clear IH2' e2 hd2
            go_wp2_with fail
            refine IH2.out.mono ?_
            rintro e w8 ⟨rfl, hI8⟩
            have HI8 := bhid hI8
            clear hI8 IH2
            go_wp2_with fail
            first
              | (go_end0; exact ⟨rfl, by rw [EQ.out]; exact HI8.out⟩)
              | (refine bodyPost_ret (results_none rfl _ _ _) rfl ⟨rfl, by rw [EQ.out]; exact HI8.out⟩)
          )
def tender_best.f (l0 : List (S50)) (a1 : Int) : Option (List Int × Int) := if bValid l0 then some (bGo a1 l0 0 0 0 0 [] ([], -1)) else none
/-- The sums of what is left, from the back. -/
structure LInv (w : World) (A0 : Option Addr) (c0 : Nat) (l : List S50) (wo : Int) (wr : World) (k : Nat) : Prop where
  below : Below w.heap.size w wr
  size : w.heap.size + 4 ≤ wr.heap.size
  b2 : wr.heap[w.heap.size]? = some (.cells #[.slice A0 l.length c0] 22 (0, 0))
  b3 : wr.heap[w.heap.size + 1]? = some (.cells #[.int .i64 wo] 3 (0, 0))
  b6 : wr.heap[w.heap.size + 1 + 1 + 1]? = some (.cells #[.slice (some ⟨w.heap.size + 1 + 1, 0, none⟩) (l.length + 1) (l.length + 1)] 26 (0, 0))
  br : ∃ cs, wr.heap[w.heap.size + 1 + 1]? = some (.cells cs 3 (0, 0)) ∧ cs.size = l.length + 1 ∧ ∀ j, k ≤ j → j ≤ l.length → cs[j]? = some (.int .i64 (bSum (l.drop j)))
theorem LInv.drew {w : World} {A0 : Option Addr} {c0 : Nat} {l : List S50} {wo : Int} {wr : World} {k : Nat} (h : LInv w A0 c0 l wo wr k) : LInv w A0 c0 l wo wr.drew k := ⟨h.below.drew, h.size, h.b2, h.b3, h.b6, h.br⟩
theorem LInv.start (w : World) (A0 : Option Addr) (c0 : Nat) (l : List S50) (wo : Int) (cs : Array Value) (hs : cs.size = l.length + 1) (hc : cs[l.length]? = some (.int .i64 0)) :
    LInv w A0 c0 l wo ((((w.alloc (.cells #[.slice A0 l.length c0] 22)).alloc (.cells #[.int .i64 wo] 3)).alloc (.cells cs 3)).alloc (.cells #[.slice (some ⟨w.heap.size + 1 + 1, 0, none⟩) (l.length + 1) (l.length + 1)] 26)) l.length := by
  refine ⟨below_alloc (below_alloc (below_alloc (below_alloc (Below.refl _ _) _) _) _) _, by simp, ?_, ?_, ?_, cs, ?_, hs, ?_⟩
  · exact blk_alloc (blk_alloc (blk_alloc (blk_new _ _) _) _) _
  · exact blk_alloc (blk_alloc (by have := blk_new (w.alloc (.cells #[.slice A0 l.length c0] 22)) (.cells #[.int .i64 wo] 3); simpa using this) _) _
  · have := blk_new (((w.alloc (.cells #[.slice A0 l.length c0] 22)).alloc (.cells #[.int .i64 wo] 3)).alloc (.cells cs 3)) (.cells #[.slice (some ⟨w.heap.size + 1 + 1, 0, none⟩) (l.length + 1) (l.length + 1)] 26)
    simpa using this
  · refine blk_alloc ?_ _
    have := blk_new ((w.alloc (.cells #[.slice A0 l.length c0] 22)).alloc (.cells #[.int .i64 wo] 3)) (.cells cs 3)
    simpa using this
  · intro j h1 h2
    obtain rfl : j = l.length := by omega
    rw [hc]; simp [bSum]
theorem LInv.put {w : World} {A0 : Option Addr} {c0 : Nat} {l : List S50} {wo : Int} {wr : World} {k : Nat} (h : LInv w A0 c0 l wo wr (k + 1)) (hk : k < l.length) {o : S50} (ho : l[k]? = some o) :
    LInv w A0 c0 l wo (wr.setCell ⟨w.heap.size + 1 + 1, k, none⟩ (.int .i64 (bSum (l.drop (k + 1)) + o.f2))) k := by
  obtain ⟨cs, hb, hs, hc⟩ := h.br
  refine ⟨h.below.setCell (by show _ ≤ w.heap.size + 1 + 1; omega) _, by have := h.size; simp [World.setCell]; omega, blk_far h.b2 (by show _ ≠ w.heap.size + 1 + 1; omega) _, blk_far h.b3 (by show _ ≠ w.heap.size + 1 + 1; omega) _, blk_far h.b6 (by show _ ≠ w.heap.size + 1 + 1; omega) _, cs.setIfInBounds k (.int .i64 (bSum (l.drop (k + 1)) + o.f2)), blk_put hb k _ rfl, by simp [hs], ?_⟩
  intro j h1 h2
  rw [Array.getElem?_setIfInBounds]
  by_cases e : k = j
  · subst e
    rw [if_pos rfl, if_pos (by omega)]
    have hd : l.drop k = o :: l.drop (k + 1) := by
      rw [List.drop_eq_getElem_cons hk]
      rw [List.getElem?_eq_getElem hk] at ho
      injection ho with ho; rw [ho]
    rw [hd]; rfl
  · rw [if_neg e]; exact hc j (by omega) h2
def searchFn (g2 g3 g6 g8 g9 g10 g11 : Nat) : Value := .func (.func 68) #[] #[.pointer (some ⟨g6, 0, none⟩), .pointer (some ⟨g10, 0, none⟩), .pointer (some ⟨g2, 0, none⟩), .pointer (some ⟨g9, 0, none⟩), .pointer (some ⟨g8, 0, none⟩), .pointer (some ⟨g3, 0, none⟩), .pointer (some ⟨g11, 0, none⟩)]
theorem BInv.start {w : World} {A0 : Option Addr} {c0 : Nat} {l : List S50} {wo : Int} {wr : World} (h : LInv w A0 c0 l wo wr 0) :
    BInv w (wr.heap.size + 1 + 1 + 1 + 1) w.heap.size (w.heap.size + 1) (w.heap.size + 1 + 1 + 1) (w.heap.size + 1 + 1) wr.heap.size (wr.heap.size + 1) (wr.heap.size + 1 + 1) (wr.heap.size + 1 + 1 + 1) A0 c0 l wo
      ((((wr.alloc (.cells #[.slice none 0 0] 26)).alloc (.cells #[.slice none 0 0] 26)).alloc (.cells #[.int .i64 (-1)] 3)).alloc (.cells #[searchFn w.heap.size (w.heap.size + 1) (w.heap.size + 1 + 1 + 1) wr.heap.size (wr.heap.size + 1) (wr.heap.size + 1 + 1) (wr.heap.size + 1 + 1 + 1)] 130)) [] (-1) [] := by
  obtain ⟨cs, hb, hs, hc⟩ := h.br
  have hz := h.size
  refine ⟨(((h.below.alloc (by omega) _).alloc (by simp; omega) _).alloc (by simp; omega) _).alloc (by simp; omega) _, Nat.le_refl _, by omega, by omega, by omega, by omega, by omega, by omega, by omega, by omega, by omega, by omega, by simp, ?_, ?_, ?_, ⟨cs, ?_, fun j hj => hc j (Nat.zero_le _) hj⟩, ?_, ?_, .slice none 0 0, .slice none 0 0, ?_, ?_, own_nil _ _ _ _, own_nil _ _ _ _, Or.inl rfl⟩
  · exact blk_alloc (blk_alloc (blk_alloc (blk_alloc h.b2 _) _) _) _
  · exact blk_alloc (blk_alloc (blk_alloc (blk_alloc h.b3 _) _) _) _
  · exact blk_alloc (blk_alloc (blk_alloc (blk_alloc h.b6 _) _) _) _
  · exact blk_alloc (blk_alloc (blk_alloc (blk_alloc hb _) _) _) _
  · have := blk_new (((wr.alloc (.cells #[.slice none 0 0] 26)).alloc (.cells #[.slice none 0 0] 26)).alloc (.cells #[.int .i64 (-1)] 3)) (.cells #[searchFn w.heap.size (w.heap.size + 1) (w.heap.size + 1 + 1 + 1) wr.heap.size (wr.heap.size + 1) (wr.heap.size + 1 + 1) (wr.heap.size + 1 + 1 + 1)] 130)
    have e : (((wr.alloc (.cells #[.slice none 0 0] 26)).alloc (.cells #[.slice none 0 0] 26)).alloc (.cells #[.int .i64 (-1)] 3)).heap.size = wr.heap.size + 1 + 1 + 1 := by simp
    rw [e] at this
    exact this
  · refine blk_alloc ?_ _
    have := blk_new ((wr.alloc (.cells #[.slice none 0 0] 26)).alloc (.cells #[.slice none 0 0] 26)) (.cells #[.int .i64 (-1)] 3)
    simpa using this
  · exact blk_alloc (blk_alloc (blk_alloc (blk_new _ _) _) _) _
  · refine blk_alloc (blk_alloc ?_ _) _
    have := blk_new (wr.alloc (.cells #[.slice none 0 0] 26)) (.cells #[.slice none 0 0] 26)
    simpa using this
set_option maxHeartbeats 1600000 in
set_option maxRecDepth 100000 in
theorem tender_best.calls (A0 : Option Addr) (c0 : Nat) (l0 : List (S50)) (a1 : Int) (r1 : List Int) (r2 : Int) (w : World) (hr0 : Kd.C k50 w A0 l0.length l0) (hc0 : l0.length ≤ c0) (h : tender_best.f l0 a1 = some (r1, r2)) :
    Calls Try.prog 50 #[.slice A0 l0.length c0, .int .i64 a1] w fun e w' => ∃ v0_ : Value, e = .returned (.tuple #[v0_, .int .i64 r2]) ∧ Kd.R (Kd.int .i64) 3 w' w.heap.size (fun _ => True) v0_ r1 ∧ Below w.heap.size w w' := by
  unfold tender_best.f at h
  split at h
  · rename_i hv
    injection h with h
    have HR := bhid h
    have HC := bhid hc0
    have HX := bhid hr0
    have HV := bhid hv
    have hlen := hv.1
    clear h hc0 hr0 hv
    have hmf : ∀ (fn : Fn) (first cap : Array Value) (w : World), (Instr.makeFunc fn first cap).run Try.prog w = .ok (.func fn first cap) w := fun _ _ _ _ => rfl
    have hmk := print_make (P := Try.prog) 26 3 .i64 8 Try.underlying26 info3 (by decide) (l0.length + 1) (by omega)
    rw [show ((l0.length + 1 : Nat) : Int) = (l0.length : Int) + 1 from by omega] at hmk
    go_enter Try.func50, Try.ntmps50
    go_upto_region 3 with (fail)
    have hms : (madeCells #[.int .i64 0] (l0.length + 1)).size = l0.length + 1 := size_madeCells _ _
    have hmc : (madeCells #[.int .i64 0] (l0.length + 1))[l0.length]? = some (.int .i64 0) := by rw [← Array.getElem?_toList, toList_madeCells_one, List.getElem?_replicate]; simp
    have hst := LInv.start w A0 c0 l0 a1 _ hms hmc
    have HST := bhid hst
    clear hst hms hmc
    generalize (((w.alloc (Obj.cells #[Value.slice A0 l0.length c0] 22)).alloc (Obj.cells #[Value.int IntKind.i64 a1] 3)).alloc (Obj.cells (madeCells #[Value.int IntKind.i64 0] (l0.length + 1)) 3)).alloc (Obj.cells #[Value.slice (some { block := w.heap.size + 1 + 1, off := 0 }) (l0.length + 1) (l0.length + 1)] 26) = w1 at *
    go_loopw [7] (fun v wr => ∃ k : Nat, k ≤ l0.length ∧ v = .int .i64 ((k : Int) - 1) ∧ Hid (LInv w A0 c0 l0 a1 wr k)) (fun v _ => (intOf v + 1).toNat)
    case atStart => exact ⟨l0.length, Nat.le_refl _, rfl, HST⟩
    case round =>
      obtain ⟨k, hk, rfl, HI⟩ := hrel
      clear HST
      by_cases h0 : 1 ≤ k
      · obtain ⟨k, rfl⟩ : ∃ m, k = m + 1 := ⟨k - 1, by omega⟩
        obtain ⟨cs, hbr, hsz, hcs⟩ := HI.out.br
        have hc6 := bk_cell HI.out.b6
        have hc2 := bk_cell HI.out.b2
        have hck : wr.cell? ⟨w.heap.size + 1 + 1, k + 1, none⟩ = some (.int .i64 (bSum (l0.drop (k + 1)))) := by rw [blk_cell hbr, hcs (k + 1) (by omega) (by omega)]
        obtain ⟨ad, e0, hx0, hx1, hx2⟩ := at_T50 (Kd.C_below HX.out HI.out.below) (k : Int) (by omega) (by omega)
        cases e0
        have hoo : l0[k]? = some (rd_T50 l0 (k : Int)) := by simp [rd_T50, List.getElem?_eq_getElem (show k < l0.length by omega)]
        have ho := HV.out.2 _ (List.mem_of_getElem? hoo)
        have hPT := HI.out.put (by omega) hoo
        generalize rd_T50 l0 (k : Int) = o at *
        have HO := bhid hoo
        have HP := bhid hPT
        have hb1 := bSum_bd (l0.drop (k + 1)) (fun x hx => by have := HV.out.2 x (List.mem_of_mem_drop hx); omega)
        have hlk : (l0.drop (k + 1)).length ≤ 16 := by simp; omega
        simp only [Int.toNat_natCast] at hx0 hx1 hx2
        have e1 : ((k + 1 : Nat) : Int) - 1 = (k : Int) := by omega
        rw [e1]
        have hks : k < cs.size := by omega
        have hex : wr.cell? ⟨w.heap.size + 1 + 1, k, none⟩ = some cs[k] := by rw [blk_cell hbr]; exact Array.getElem?_eq_getElem hks
        have hfk := blk_frozen hbr k
        have HB1 := bhid hb1
        have hbl : 0 ≤ bSum (l0.drop (k + 1)) := hb1.1
        have hbh : bSum (l0.drop (k + 1)) ≤ 16 * 1073741824 := by omega
        clear hoo hPT hbr hcs hx0 hx1 hsz hb1 hlk
        generalize hQ : bSum (l0.drop (k + 1)) = Q at *
        have HQ := bhid hQ
        clear hQ
        have hi1 : (0 : Int) ≤ (k : Int) + 1 := by omega
        have hi2 : (k : Int) + 1 < (l0.length : Int) + 1 := by omega
        have hi3 : (0 : Int) ≤ (k : Int) := by omega
        have hi4 : (k : Int) < (l0.length : Int) := by omega
        have hi5 : (k : Int) < (l0.length : Int) + 1 := by omega
        have hw1 : IntKind.i64.wrap ((k : Int) + 1) = (k : Int) + 1 := IntWalk.i64_in _ (by omega)
        have hw2 : IntKind.i64.wrap (Q + o.f2) = Q + o.f2 := IntWalk.i64_in _ (by omega)
        have hw3 : ((k : Int) + 1).toNat = k + 1 := by omega
        go_upto_region 5 with (fail)
        go_still_tail 14, (by kernel_rfl)
        change wpList _ _ _ _ _ wr.drew
        have HP2 : Hid (LInv w (some ad) c0 l0 a1 ((wr.setCell ⟨w.heap.size + 1 + 1, k, none⟩ (.int .i64 (Q + o.f2))).drew) k) := bhid HP.out.drew
        clear hw1 hw2 hw3
        go_wp2_with fail
        go_roundw
        case rel => exact ⟨k, by omega, rfl, HP2⟩
        case measure => simp [intOf]
      · obtain rfl : k = 0 := by omega
        have hbi := best1_calls w _ _ _ _ _ _ _ _ _ A0 c0 l0 a1 HX.out HV.out l0 0 0 0 0 [] (-1) [] _ rfl (by simp) (by simp) (by omega) (by omega) (by omega) (by omega) (BInv.start HI.out)
        rw [show ((0 : Nat) : Int) = 0 from rfl] at hbi
        have HBI := bhid hbi
        clear hbi
        go_wp2_with fail
        refine HBI.out.mono ?_
        rintro e w2 ⟨rfl, hB2⟩
        have hr := HR.out
        rw [hr] at hB2
        obtain ⟨vt, vn, r8, r9, rt, rn, rd⟩ := hB2.rows
        have hc8 := bk_cell r8
        have hc10 := bk_cell hB2.b10
        have hlo : w.heap.size ≤ wr.heap.size + 1 + 1 + 1 + 1 := by have := HI.out.size; omega
        have RT := bhid rt
        have HB2 := bhid hB2.below
        clear hB2 r8 r9 rn rd rt HBI hr
        go_wp2_with fail
        go_quiet (fail)
        go_wp2_with fail
        go_ret2
        exact ⟨vt, rfl, Kd.R_of_own (own_weaken RT.out hlo) (fun _ _ => trivial), pw_below_drewN HB2.out _⟩
  · simp at h
end Go.Proofs.Ythfdjccdelbeeaa.PT
end
section
namespace Go.Proofs.Ythfdjccdelbeeaa.PT
open Go.RowKit Go.Proofs.YthfdjccdelbeeaaW.PrintWords Go.Proofs.YthfdjccdelbeeaaW.PrintLast Go.Proofs.YthfdjccdelbeeaaW.PrintMore
attribute [local go_sem] max2_int min2_int max_two min_two max_three min_three max_four min_four   -- for this text's walks alone
set_option linter.unusedVariables false
set_option linter.unusedSimpArgs false
def tender_Best.f (k : Nat) (a0 : Int) (l1 : List (S50)) : Option (List Int × Int × Int) := (tender_checked.f k a0 l1).bind fun t107 => (if t107 = 0 then ((tender_best.f l1 (-1)).bind fun bt108 => (some (bt108.1, bt108.2, 0))) else (some (([] : List Int), 0, t107)))
theorem tender_Best.mono : ∀ a0 a1 k, LeO (tender_Best.f k a0 a1) (tender_Best.f (k + 1) a0 a1) := by
  intro a0 a1 k
  unfold tender_Best.f
  repeat' first
      | (with_reducible exact tender_checked.mono _ _ _)
      | (with_reducible exact LeO.refl _)
      | (with_reducible exact LeO.none _)
      | (with_reducible refine LeO.ite ?_ ?_)
      | (with_reducible refine LeO.bind ?_ (fun _ => ?_))
      | exact tender_checked.mono _ _ _
      | exact LeO.none _
      | refine LeO.ite ?_ ?_
      | refine LeO.bind ?_ (fun _ => ?_)
set_option maxHeartbeats 8000000 in
set_option maxRecDepth 100000 in
theorem tender_Best.calls (k : Nat) (a0 : Int) (A1 : Option Addr) (c1 : Nat) (l1 : List (S50)) (r1 : List Int) (r2 : Int) (r3 : Int) (w : World) (hr1 : Kd.C k50 w A1 l1.length l1) (hc1 : l1.length ≤ c1) (h : tender_Best.f k a0 l1 = some (r1, r2, r3)) :
    Calls Try.prog 18 #[.int .i64 a0, .slice A1 l1.length c1] w fun e w' => ∃ v0_ : Value, e = .returned (.tuple #[v0_, .int .i64 r2, .int .i64 r3]) ∧ Kd.R (Kd.int .i64) 3 w' w.heap.size (fun _ => True) v0_ r1 ∧ Below w.heap.size w w' := by
  have HR1 := Aside0.mk hr1
  have HC1 := Aside0.mk hc1
  clear hr1 hc1
  have HB := Aside0.mk (Below.refl w.heap.size w)
  have H : ((tender_checked.f k a0 l1).bind fun t107 => (if t107 = 0 then ((tender_best.f l1 (-1)).bind fun bt108 => (some (bt108.1, bt108.2, 0))) else (some (([] : List Int), 0, t107)))) = some (r1, r2, r3) := h
  clear h
  replace H := Option.bind_eq_some_iff.mp H
  obtain ⟨t107, A30, H⟩ := H
  replace H : (if t107 = 0 then ((tender_best.f l1 (-1)).bind fun bt108 => (some (bt108.1, bt108.2, 0))) else (some (([] : List Int), 0, t107))) = some (r1, r2, r3) := H
  have A3 := Aside0.mk A30
  clear A30
  by_cases c4 : t107 = 0
  · rw [if_pos c4] at H
    have c4b0 : (t107 == 0) = true := beq_iff_eq.mpr c4
    have c4b1 : (t107 != 0) = false := bne_eq_false_iff_eq.mpr c4
    clear c4
    replace H := Option.bind_eq_some_iff.mp H
    obtain ⟨⟨t108, t109⟩, A50, H⟩ := H
    replace H : (some (t108, t109, 0)) = some (r1, r2, r3) := H
    have A5 := Aside0.mk A50
    clear A50
    simp only [Option.some.injEq, Prod.mk.injEq] at H
    obtain ⟨rfl, rfl, rfl⟩ := H
    go_enter Try.func18, Try.ntmps18
    go_wp2_with (first | ((with_reducible refine gate_callee (f := 49) rfl ?_); refine goesL_ (some 12) rfl rfl Try.func49 (by kernel_rfl) rfl #[.int .i64 a0, .slice A1 l1.length c1] rfl (by (try simp only [List.map_toArray, List.map_cons, List.map_nil]); first | done | rfl | (simp only [List.length_drop, List.length_take]; rfl)) ?_; (with_reducible refine (tender_checked.calls k a0 _ _ l1 t107 _ ?side1 ?side2 A3.out).mono ?_); (case side1 => repeat (first | exact HR1.out | (with_reducible refine Kd.C_alloc ?_ _) | (with_reducible refine Kd.C_drewN ?_ _) | (with_reducible refine Kd.C_drew ?_))); (case side2 => exact HC1.out); rintro e w6 ⟨rfl, hb⟩; refine ⟨_, rfl, ?_⟩; have n0_ := Aside0.mk (below_step (by repeat (first | (with_reducible first | exact HB.out | apply below_alloc | apply pw_below_drewN | apply below_drew1) | exact HB.out)) hb); clear HB; have HB := n0_; clear n0_; (try clear hb); (try clear hb2); (try clear hk); (try clear hi)) | ((with_reducible refine gate_callee (f := 50) rfl ?_); refine goesL_ (some 18) rfl rfl Try.func50 (by kernel_rfl) rfl #[.slice A1 l1.length c1, .int .i64 (-1)] rfl (by (try simp only [List.map_toArray, List.map_cons, List.map_nil]); first | done | rfl | (simp only [List.length_drop, List.length_take]; rfl)) ?_; (with_reducible refine (tender_best.calls _ _ l1 (-1) t108 t109 _ ?side1 ?side2 A5.out).mono ?_); (case side1 => repeat (first | exact (Kd.C_below HR1.out HB.out) | (with_reducible refine Kd.C_alloc ?_ _) | (with_reducible refine Kd.C_drewN ?_ _) | (with_reducible refine Kd.C_drew ?_))); (case side2 => exact HC1.out); rintro e w7 ⟨v110, rfl, ho0, hb⟩; refine ⟨_, rfl, ?_⟩; have n0_ := Aside0.mk (Kd.R_lower ho0 (below_size (by repeat (first | (with_reducible first | exact HB.out | apply below_alloc | apply pw_below_drewN | apply below_drew1) | exact HB.out)))); have n1_ := Aside0.mk (below_step (by repeat (first | (with_reducible first | exact HB.out | apply below_alloc | apply pw_below_drewN | apply below_drew1) | exact HB.out)) hb); clear HB; have HO111 := n0_; have HB := n1_; clear n0_ n1_; (try clear hb); (try clear hb2); (try clear hk); (try clear hi); (try clear ho0)))
    go_ret3
    exact ⟨_, by first | rfl | (simp [errW_none, errW_some] <;> rfl) | (simp [*, errW_none, errW_some] <;> rfl), by (with_reducible repeat (first | apply Kd.R_alloc | apply Kd.R_drewN | apply Kd.R_drew)); exact HO111.out, by repeat (first | (with_reducible first | exact HB.out | apply below_alloc | apply pw_below_drewN | apply below_drew1) | exact HB.out)⟩
  · rw [if_neg c4] at H
    have c4b0 : (t107 == 0) = false := beq_eq_false_iff_ne.mpr c4
    have c4b1 : (t107 != 0) = true := bne_iff_ne.mpr c4
    simp only [Option.some.injEq, Prod.mk.injEq] at H
    obtain ⟨rfl, rfl, rfl⟩ := H
    go_enter Try.func18, Try.ntmps18
    go_wp2_with (first | ((with_reducible refine gate_callee (f := 49) rfl ?_); refine goesL_ (some 12) rfl rfl Try.func49 (by kernel_rfl) rfl #[.int .i64 a0, .slice A1 l1.length c1] rfl (by (try simp only [List.map_toArray, List.map_cons, List.map_nil]); first | done | rfl | (simp only [List.length_drop, List.length_take]; rfl)) ?_; (with_reducible refine (tender_checked.calls k a0 _ _ l1 t107 _ ?side1 ?side2 A3.out).mono ?_); (case side1 => repeat (first | exact HR1.out | (with_reducible refine Kd.C_alloc ?_ _) | (with_reducible refine Kd.C_drewN ?_ _) | (with_reducible refine Kd.C_drew ?_))); (case side2 => exact HC1.out); rintro e w8 ⟨rfl, hb⟩; refine ⟨_, rfl, ?_⟩; have n0_ := Aside0.mk (below_step (by repeat (first | (with_reducible first | exact HB.out | apply below_alloc | apply pw_below_drewN | apply below_drew1) | exact HB.out)) hb); clear HB; have HB := n0_; clear n0_; (try clear hb); (try clear hb2); (try clear hk); (try clear hi)))
    go_ret3
    exact ⟨_, by first | rfl | (simp [errW_none, errW_some] <;> rfl) | (simp [*, errW_none, errW_some] <;> rfl), by first | exact Kd.R_nil _ _ _ _ _ | exact Kd.N_nil _ _ _ _ _ | exact Kd.V_nil _ _ _ _ _ | exact Kd.Q_nil _ _ _ _ _ | exact Kd.S_nil _ _ _ _ _, by repeat (first | (with_reducible first | exact HB.out | apply below_alloc | apply pw_below_drewN | apply below_drew1) | exact HB.out)⟩
def tender_Decide.l0 : Nat → List (S50) → Int → List Int → Int → Int → List Int → List Int → Int → Option (List Int × List Int × Int × Int)
  | 0, _, _, _, _, _, _, _, _ => none
  | k + 1, x1, x7, x28, x29, x30, x119000, x119001, x119002 => if x30 < x29 then (if 0 ≤ x30 then (if x30 < (x28.length : Int) then (if 0 ≤ (rd x28 x30) then (if (rd x28 x30) < (x1.length : Int) then ((tender_best.f x1 ((rd_T50 x1 (rd x28 x30)).f0)).bind fun bt121 => (if x119001.length < 17592186044416 then (tender_Decide.l0 k x1 x7 x28 x29 (wrap64 (x30 + 1)) x119000 (x119001 ++ [wrap64 (bt121.2 - (wrap64 (x7 - ((rd_T50 x1 (rd x28 x30)).f2))))]) x119002) else (none))) else (none)) else (none)) else (none)) else (none)) else (some (x119000, x119001, x119002, 0))
def tender_Decide.f (k : Nat) (a0 : Int) (l1 : List (S50)) : Option (List Int × List Int × Int × Int) := (tender_Best.f k a0 l1).bind fun bt113 => (if bt113.2.2 = 0 then (tender_Decide.l0 k l1 bt113.2.1 bt113.1 (bt113.1.length : Int) 0 bt113.1 ([] : List Int) bt113.2.1) else (some (([] : List Int), ([] : List Int), 0, bt113.2.2)))
theorem tender_Decide.mono_l : ∀ k, (∀ y0 y1 y2 y3 y4 y5 y6 y7, LeO (tender_Decide.l0 k y0 y1 y2 y3 y4 y5 y6 y7) (tender_Decide.l0 (k + 1) y0 y1 y2 y3 y4 y5 y6 y7))
  | 0 => fun _ _ _ _ _ _ _ _ r h => by simp [tender_Decide.l0] at h
  | k + 1 => by
    have ih0 := tender_Decide.mono_l k
    · intro y0 y1 y2 y3 y4 y5 y6 y7
      unfold tender_Decide.l0
      repeat' first
      | (with_reducible exact ih0 _ _ _ _ _ _ _ _)
      | (with_reducible exact tender_Best.mono _ _ _)
      | (with_reducible exact LeO.refl _)
      | (with_reducible exact LeO.none _)
      | (with_reducible refine LeO.ite ?_ ?_)
      | (with_reducible refine LeO.bind ?_ (fun _ => ?_))
      | exact ih0 _ _ _ _ _ _ _ _
      | exact tender_Best.mono _ _ _
      | exact LeO.none _
      | refine LeO.ite ?_ ?_
      | refine LeO.bind ?_ (fun _ => ?_)
theorem tender_Decide.mono : ∀ a0 a1 k, LeO (tender_Decide.f k a0 a1) (tender_Decide.f (k + 1) a0 a1) := by
  intro a0 a1 k
  have ih0 := tender_Decide.mono_l k
  unfold tender_Decide.f
  repeat' first
      | (with_reducible exact ih0 _ _ _ _ _ _ _ _)
      | (with_reducible exact tender_Best.mono _ _ _)
      | (with_reducible exact LeO.refl _)
      | (with_reducible exact LeO.none _)
      | (with_reducible refine LeO.ite ?_ ?_)
      | (with_reducible refine LeO.bind ?_ (fun _ => ?_))
      | exact ih0 _ _ _ _ _ _ _ _
      | exact tender_Best.mono _ _ _
      | exact LeO.none _
      | refine LeO.ite ?_ ?_
      | refine LeO.bind ?_ (fun _ => ?_)
def tender_Decide.T9 : Bool × List (List Nat × List Nat) := (true, [([], []), ([0], [0]), ([], []), ([], []), ([], []), ([], []), ([4, 5], [4, 5]), ([6], [6]), ([7], [7]), ([3, 8], [3, 8]), ([2, 9], [2, 9]), ([10], [10]), ([1, 11], [1, 11]), ([0, 1, 2, 3, 4, 5, 6, 7, 8, 9, 10, 11, 12], []), ([13, 12, 12, 0, 1, 2, 3, 4, 5, 6, 7, 8, 9, 10, 11, 12], [12, 13])])
def tender_Decide.B9 : List Nat := [0, 1, 0, 0, 0, 0, 48, 112, 240, 504, 1020, 2044, 4095, 8191, 16383]
theorem tender_Decide.tab9 : rtab .any (opsOf Try.f26 9) = tender_Decide.T9 := by kernel_rfl
theorem tender_Decide.bits9 : waitsOk tender_Decide.T9.2 tender_Decide.B9 = true := by kernel_rfl
set_option maxHeartbeats 8000000 in
set_option maxRecDepth 100000 in
theorem tender_Decide.calls (k : Nat) (a0 : Int) (A1 : Option Addr) (c1 : Nat) (l1 : List (S50)) (r1 : List Int) (r2 : List Int) (r3 : Int) (r4 : Int) (w : World) (hr1 : Kd.C k50 w A1 l1.length l1) (hc1 : l1.length ≤ c1) (h : tender_Decide.f k a0 l1 = some (r1, r2, r3, r4)) :
    Calls Try.prog 26 #[.int .i64 a0, .slice A1 l1.length c1] w fun e w' => ∃ v0_ v1_ : Value, e = .returned (.tuple #[.agg #[v0_, v1_, .int .i64 r3], .int .i64 r4]) ∧ Kd.R (Kd.int .i64) 3 w' w.heap.size (fun k_ => some k_ ≠ (v1_ : Value).ownBlock) v0_ r1 ∧ Kd.R (Kd.int .i64) 3 w' w.heap.size (fun k_ => some k_ ≠ (v0_ : Value).ownBlock) v1_ r2 ∧ Below w.heap.size w w' := by
  have hu44 := Try.underlying44
  have HR1 := Aside0.mk hr1
  have HC1 := Aside0.mk hc1
  clear hr1 hc1
  have HB := Aside0.mk (Below.refl w.heap.size w)
  have H : ((tender_Best.f k a0 l1).bind fun bt113 => (if bt113.2.2 = 0 then (tender_Decide.l0 k l1 bt113.2.1 bt113.1 (bt113.1.length : Int) 0 bt113.1 ([] : List Int) bt113.2.1) else (some (([] : List Int), ([] : List Int), 0, bt113.2.2)))) = some (r1, r2, r3, r4) := h
  clear h
  replace H := Option.bind_eq_some_iff.mp H
  obtain ⟨⟨t113, t114, t115⟩, A30, H⟩ := H
  replace H : (if t115 = 0 then (tender_Decide.l0 k l1 t114 t113 (t113.length : Int) 0 t113 ([] : List Int) t114) else (some (([] : List Int), ([] : List Int), 0, t115))) = some (r1, r2, r3, r4) := H
  have A3 := Aside0.mk A30
  clear A30
  by_cases c4 : t115 = 0
  · rw [if_pos c4] at H
    have c4b0 : (t115 == 0) = true := beq_iff_eq.mpr c4
    have c4b1 : (t115 != 0) = false := bne_eq_false_iff_eq.mpr c4
    clear c4
    have H' := Aside0.mk H
    clear H
    go_enter Try.func26, Try.ntmps26
    go_wp2_with (first | ((with_reducible refine gate_dst (N := 4) rfl ?_); refine box_event ?hg (N := 4) ?hd (cs := #[.slice none 0 0, .slice none 0 0, .int .i64 0]) (t := 44) ?hr ?_; (case hd => rfl); (case hg => rfl); (case hr => first | (go_simp; done) | (go_simp; rfl)); intro gb112 hg w5 hbox hb; have n0_ := Aside0.mk (below_step (by repeat (first | (with_reducible first | exact HB.out | apply below_alloc | apply pw_below_drewN | apply below_drew1) | exact HB.out)) hb); have n1_ := Aside0.mk (hbox); have n2_ := Aside0.mk ((by rw [hg]; exact (below_size (by repeat (first | (with_reducible first | exact HB.out | apply below_alloc | apply pw_below_drewN | apply below_drew1) | exact HB.out))) : w.heap.size ≤ gb112)); have n3_ := Aside0.mk ((by rw [hg]; exact (below_size (by repeat (first | (with_reducible first | exact HB.out | apply below_alloc | apply pw_below_drewN | apply below_drew1) | exact HB.out))) : w.heap.size ≤ gb112)); clear HB; have HB := n0_; have BK112 := n1_; have GW112 := n2_; have GE112 := n3_; clear n0_ n1_ n2_ n3_; clear hb hbox hg) | ((with_reducible refine gate_callee (f := 18) rfl ?_); refine goesL_ (some 17) rfl rfl Try.func18 (by kernel_rfl) rfl #[.int .i64 a0, .slice A1 l1.length c1] rfl (by (try simp only [List.map_toArray, List.map_cons, List.map_nil]); first | done | rfl | (simp only [List.length_drop, List.length_take]; rfl)) ?_; (with_reducible refine (tender_Best.calls k a0 _ _ l1 t113 t114 t115 _ ?side1 ?side2 A3.out).mono ?_); (case side1 => repeat (first | exact (Kd.C_below HR1.out HB.out) | (with_reducible refine Kd.C_alloc ?_ _) | (with_reducible refine Kd.C_drewN ?_ _) | (with_reducible refine Kd.C_drew ?_))); (case side2 => exact HC1.out); rintro e w6 ⟨v116, rfl, ho0, hb⟩; refine ⟨_, rfl, ?_⟩; have n0_ := Aside0.mk (Kd.R_lower ho0 (below_size (by repeat (first | (with_reducible first | exact HB.out | apply below_alloc | apply pw_below_drewN | apply below_drew1 | refine below_set ?_ GE112.out) | exact HB.out)))); have n1_ := Aside0.mk (blk_below (g := gb112) (o := .cells #[.slice none 0 0, .slice none 0 0, .int .i64 0] 44 (0, 0)) (by (with_reducible repeat (first | refine blk_drewN ?_ _ | refine blk_drew ?_ | refine blk_alloc ?_ _)); exact BK112.out) hb); have n2_ := Aside0.mk (below_step (by repeat (first | (with_reducible first | exact HB.out | apply below_alloc | apply pw_below_drewN | apply below_drew1 | refine below_set ?_ GE112.out) | exact HB.out)) hb); clear BK112; clear HB; have HO117 := n0_; have BK112 := n1_; have HB := n2_; clear n0_ n1_ n2_; (try clear hb); (try clear hb2); (try clear hk); (try clear hi); (try clear ho0); obtain ⟨Ao7, co7, eo7⟩ := Kd.R_slice HO117.out; subst eo7) | ((with_reducible refine gate_dst (N := 9) rfl ?_); refine box_event ?hg (N := 9) ?hd (cs := #[.slice none 0 0, .slice none 0 0, .int .i64 0]) (t := 44) ?hr ?_; (case hd => rfl); (case hg => rfl); (case hr => first | (go_simp; done) | (go_simp; rfl)); intro gb118 hg w8 hbox hb; have n0_ := Aside0.mk (Kd.R_below (by (with_reducible repeat (first | apply Kd.R_alloc | apply Kd.R_drewN | apply Kd.R_drew)); exact HO117.out) hb); have n1_ := Aside0.mk (blk_below (g := gb112) (o := .cells #[.slice none 0 0, .slice none 0 0, .int .i64 0] 44 (0, 0)) (by (with_reducible repeat (first | refine blk_drewN ?_ _ | refine blk_drew ?_ | refine blk_alloc ?_ _)); exact BK112.out) hb); have n2_ := Aside0.mk (below_step (by repeat (first | (with_reducible first | exact HB.out | apply below_alloc | apply pw_below_drewN | apply below_drew1 | refine below_set ?_ GE112.out) | exact HB.out)) hb); have n3_ := Aside0.mk (hbox); have n4_ := Aside0.mk ((by rw [hg]; exact (below_size (by repeat (first | (with_reducible first | exact HB.out | apply below_alloc | apply pw_below_drewN | apply below_drew1 | refine below_set ?_ GE112.out) | exact HB.out))) : w.heap.size ≤ gb118)); have n5_ := Aside0.mk ((by rw [hg]; exact (below_size (by repeat (first | (with_reducible first | exact HB.out | apply below_alloc | apply pw_below_drewN | apply below_drew1 | refine below_set ?_ GE112.out) | exact HB.out))) : w.heap.size ≤ gb118)); have n6_ := Aside0.mk ((by rw [hg]; exact Nat.ne_of_lt (blk_lt (g := gb112) (o := .cells #[.slice none 0 0, .slice none 0 0, .int .i64 0] 44 (0, 0)) (by (with_reducible repeat (first | refine blk_drewN ?_ _ | refine blk_drew ?_ | refine blk_alloc ?_ _)); exact BK112.out)) : gb112 ≠ gb118)); have n7_ := Aside0.mk ((by rw [hg]; exact Nat.ne_of_gt (blk_lt (g := gb112) (o := .cells #[.slice none 0 0, .slice none 0 0, .int .i64 0] 44 (0, 0)) (by (with_reducible repeat (first | refine blk_drewN ?_ _ | refine blk_drew ?_ | refine blk_alloc ?_ _)); exact BK112.out)) : gb118 ≠ gb112)); clear HO117; clear BK112; clear HB; have HO117 := n0_; have BK112 := n1_; have HB := n2_; have BK118 := n3_; have GW118 := n4_; have GE118 := n5_; have NB112_118 := n6_; have NB118_112 := n7_; clear n0_ n1_ n2_ n3_ n4_ n5_ n6_ n7_; clear hb hbox hg; have hnb9 := NB118_112.out; have hnc9 := NB112_118.out; have hcz10_0 : w8.cell? ⟨gb118, 0, none⟩ = some (.slice none 0 0) := (blk_cell BK118.out 0).trans rfl; have hcz10_1 : w8.cell? ⟨gb118, 1, none⟩ = some (.slice none 0 0) := (blk_cell BK118.out 1).trans rfl; have hcz10_2 : w8.cell? ⟨gb118, 2, none⟩ = some (.int .i64 0) := (blk_cell BK118.out 2).trans rfl; have hfz10_0 := blk_frozen BK118.out 0; have hfz10_1 := blk_frozen BK118.out 1; have hfz10_2 := blk_frozen BK118.out 2))
    go_loopg [30] k (fun kq v30 w' => ∃ (x30_1 : Int) (x119001_1 : List Int) (u119001 : Value), v30 = .int .i64 x30_1 ∧ Aside0 (tender_Decide.l0 kq l1 t114 t113 (t113.length : Int) x30_1 t113 x119001_1 t114 = some (r1, r2, r3, r4)) ∧ Aside0 (kq ≤ k) ∧ Aside0 (Kd.R (Kd.int .i64) 3 w' w.heap.size (fun k_ => some k_ ≠ (u119001 : Value).ownBlock) (.slice Ao7 t113.length co7) t113) ∧ Aside0 (Kd.R (Kd.int .i64) 3 w' w.heap.size (fun k_ => some k_ ≠ (u119001 : Value).ownBlock) (.slice Ao7 t113.length co7) t113) ∧ Aside0 (Kd.R (Kd.int .i64) 3 w' w.heap.size (fun k_ => some k_ ≠ ((.slice Ao7 t113.length co7) : Value).ownBlock ∧ some k_ ≠ ((.slice Ao7 t113.length co7) : Value).ownBlock) u119001 x119001_1) ∧ Aside0 (w'.heap[gb112]? = some (.cells #[(.slice none 0 0), (.slice none 0 0), .int .i64 0] 44 (0, 0))) ∧ Aside0 (w'.heap[gb118]? = some (.cells #[(.slice Ao7 t113.length co7), u119001, .int .i64 t114] 44 (0, 0))) ∧ Aside0 (Below w.heap.size w w'))
    case atStart => exact ⟨(0), (([] : List Int)), (.slice none 0 0), (by first | rfl | (simp; done) | (simp [*]; done)), H', ⟨Nat.le_refl _⟩, ⟨by (with_reducible repeat (first | apply Kd.R_alloc | apply Kd.R_drewN | apply Kd.R_drew)); exact Kd.R_mono (Kd.R_far (p := ⟨gb118, 2, none⟩) (Kd.R_far (p := ⟨gb118, 1, none⟩) (Kd.R_far (p := ⟨gb118, 0, none⟩) (Kd.R_types HO117.out BK118.out (by decide)) (fun _ hk => hk.2) (.slice Ao7 t113.length co7)) (fun _ hk => hk.2) (.slice none 0 0)) (fun _ hk => hk.2) (.int .i64 t114)) (fun _ hk => (by simp [Value.ownBlock]))⟩, ⟨by (with_reducible repeat (first | apply Kd.R_alloc | apply Kd.R_drewN | apply Kd.R_drew)); exact Kd.R_mono (Kd.R_far (p := ⟨gb118, 2, none⟩) (Kd.R_far (p := ⟨gb118, 1, none⟩) (Kd.R_far (p := ⟨gb118, 0, none⟩) (Kd.R_types HO117.out BK118.out (by decide)) (fun _ hk => hk.2) (.slice Ao7 t113.length co7)) (fun _ hk => hk.2) (.slice none 0 0)) (fun _ hk => hk.2) (.int .i64 t114)) (fun _ hk => (by simp [Value.ownBlock]))⟩, ⟨by first | exact Kd.R_nil _ _ _ _ _ | exact Kd.N_nil _ _ _ _ _ | exact Kd.V_nil _ _ _ _ _ | exact Kd.Q_nil _ _ _ _ _ | exact Kd.S_nil _ _ _ _ _⟩, ⟨by (with_reducible repeat (first | refine blk_drewN ?_ _ | refine blk_drew ?_ | refine blk_alloc ?_ _)); refine blk_far ?_ NB112_118.out _; (with_reducible repeat (first | refine blk_drewN ?_ _ | refine blk_drew ?_ | refine blk_alloc ?_ _)); refine blk_far ?_ NB112_118.out _; (with_reducible repeat (first | refine blk_drewN ?_ _ | refine blk_drew ?_ | refine blk_alloc ?_ _)); refine blk_far ?_ NB112_118.out _; (with_reducible repeat (first | refine blk_drewN ?_ _ | refine blk_drew ?_ | refine blk_alloc ?_ _)); exact BK112.out⟩, ⟨by (with_reducible repeat (first | refine blk_drewN ?_ _ | refine blk_drew ?_ | refine blk_alloc ?_ _)); refine blk_put (cs := #[.slice Ao7 t113.length co7, .slice none 0 0, .int .i64 0]) ?_ 2 _ rfl; (with_reducible repeat (first | refine blk_drewN ?_ _ | refine blk_drew ?_ | refine blk_alloc ?_ _)); refine blk_put (cs := #[.slice Ao7 t113.length co7, .slice none 0 0, .int .i64 0]) ?_ 1 _ rfl; (with_reducible repeat (first | refine blk_drewN ?_ _ | refine blk_drew ?_ | refine blk_alloc ?_ _)); refine blk_put (cs := #[.slice none 0 0, .slice none 0 0, .int .i64 0]) ?_ 0 _ rfl; (with_reducible repeat (first | refine blk_drewN ?_ _ | refine blk_drew ?_ | refine blk_alloc ?_ _)); exact BK118.out⟩, ⟨by repeat (first | (with_reducible first | exact HB.out | apply below_alloc | apply pw_below_drewN | apply below_drew1 | refine below_set ?_ GE112.out | refine below_set ?_ GE118.out) | exact HB.out)⟩⟩
    case round =>
      clear H'
      try clear c1
      try clear c2
      try clear p2
      try clear c4
      try clear c4b0
      try clear c4b1
      try clear c9
      try clear hcz10_0
      try clear hcz10_1
      try clear hcz10_2
      try clear hfz10_0
      try clear hfz10_1
      try clear hfz10_2
      obtain ⟨x30_1, x119001_1, u119001, rfl, HA, HK1, HO_28, HO_119000, HO_119001, BK112, BK118, HB⟩ := hrel
      cases gk with
      | zero => exact absurd HA.out (by simp [tender_Decide.l0])
      | succ k1 =>
        have H := HA.out
        clear HA
        simp only [tender_Decide.l0] at H
        by_cases c11 : x30_1 < (t113.length : Int)
        · rw [if_pos c11] at H
          have c11b0 : decide (x30_1 < (t113.length : Int)) = true := decide_eq_true c11
          clear c11
          by_cases c12 : 0 ≤ x30_1
          · rw [if_pos c12] at H
            have c12b0 : decide (0 ≤ x30_1) = true := decide_eq_true c12
            clear c12
            by_cases c13 : x30_1 < (t113.length : Int)
            · rw [if_pos c13] at H
              have c13b0 : decide (x30_1 < (t113.length : Int)) = true := decide_eq_true c13
              clear c13
              by_cases c14 : 0 ≤ (rd t113 x30_1)
              · rw [if_pos c14] at H
                have c14b0 : decide (0 ≤ (rd t113 x30_1)) = true := decide_eq_true c14
                clear c14
                by_cases c15 : (rd t113 x30_1) < (l1.length : Int)
                · rw [if_pos c15] at H
                  have c15b0 : decide ((rd t113 x30_1) < (l1.length : Int)) = true := decide_eq_true c15
                  clear c15
                  replace H := Option.bind_eq_some_iff.mp H
                  obtain ⟨⟨t121, t122⟩, A160, H⟩ := H
                  replace H : (if x119001_1.length < 17592186044416 then (tender_Decide.l0 k1 l1 t114 t113 (t113.length : Int) (wrap64 (x30_1 + 1)) t113 (x119001_1 ++ [wrap64 (t122 - (wrap64 (t114 - ((rd_T50 l1 (rd t113 x30_1)).f2))))]) t114) else (none)) = some (r1, r2, r3, r4) := H
                  have A16 := Aside0.mk A160
                  clear A160
                  by_cases c17 : x119001_1.length < 17592186044416
                  · rw [if_pos c17] at H
                    have LMc17 := Aside0.mk c17
                    clear c17
                    obtain ⟨y126, hy126⟩ : ∃ y_ : List Int, y_ = (x119001_1 ++ [wrap64 (t122 - (wrap64 (t114 - ((rd_T50 l1 (rd t113 x30_1)).f2))))]) := ⟨_, rfl⟩
                    replace H : (tender_Decide.l0 k1 l1 t114 t113 (t113.length : Int) (wrap64 (x30_1 + 1)) t113 y126 t114) = some (r1, r2, r3, r4) := by first | (rw [hy126]; with_reducible exact H) | (have H2_ := (Option.bind_some _ _).symm.trans H; rw [hy126]; with_reducible exact H2_) | (have H2_ := (Option.bind_some _ _).symm.trans H; with_reducible exact H2_) | with_reducible exact H | (rw [hy126]; exact H) | exact H
                    have Ny126 := Aside0.mk hy126
                    clear hy126
                    have H' := Aside0.mk H
                    clear H
                    have p119 : 0 ≤ (x30_1 : Int) := of_decide_eq_true (by first | (with_reducible assumption) | assumption)
                    have q119 : x30_1 < (t113.length : Int) := of_decide_eq_true (by first | (with_reducible assumption) | assumption)
                    obtain ⟨ad119, e119, hx119_0⟩ := Kd.at_int (Kd.R_reads' HO_28.out).2.2 x30_1 p119 q119
                    cases e119
                    replace p119 := eq_true p119
                    replace q119 := eq_true q119
                    have p120 : 0 ≤ ((rd t113 x30_1) : Int) := of_decide_eq_true (by first | (with_reducible assumption) | assumption)
                    have q120 : (rd t113 x30_1) < (l1.length : Int) := of_decide_eq_true (by first | (with_reducible assumption) | assumption)
                    obtain ⟨ad120, e120, hx120_0, hx120_1, hx120_2⟩ := at_T50 HR1.out (rd t113 x30_1) p120 q120
                    cases e120
                    replace hx120_0 := (HB.out.cell (World.block_lt_of_cell? w _ hx120_0)).trans hx120_0
                    replace hx120_1 := (HB.out.cell (World.block_lt_of_cell? w _ hx120_1)).trans hx120_1
                    replace hx120_2 := (HB.out.cell (World.block_lt_of_cell? w _ hx120_2)).trans hx120_2
                    replace p120 := eq_true p120
                    replace q120 := eq_true q120
                    try go_wp2_with (first | ((with_reducible refine gate_callee (f := 50) rfl ?_); refine goesL_ (some 41) rfl rfl Try.func50 (by kernel_rfl) rfl #[.slice (some ad120) l1.length c1, .int .i64 ((rd_T50 l1 (rd t113 x30_1)).f0)] rfl (by (try simp only [List.map_toArray, List.map_cons, List.map_nil]); first | done | rfl | (simp only [List.length_drop, List.length_take]; rfl)) ?_; (with_reducible refine (tender_best.calls _ _ l1 ((rd_T50 l1 (rd t113 x30_1)).f0) t121 t122 _ ?side1 ?side2 A16.out).mono ?_); (case side1 => repeat (first | exact (Kd.C_below HR1.out HB.out) | (with_reducible refine Kd.C_alloc ?_ _) | (with_reducible refine Kd.C_drewN ?_ _) | (with_reducible refine Kd.C_drew ?_))); (case side2 => exact HC1.out); rintro e w18 ⟨v123, rfl, ho0, hb⟩; refine ⟨_, rfl, ?_⟩; have n0_ := Aside0.mk (Kd.R_elder' (by (with_reducible repeat (first | apply Kd.R_alloc | apply Kd.R_drewN | apply Kd.R_drew)); exact HO_28.out) (Kd.R_base ho0) hb); have n1_ := Aside0.mk (Kd.R_elder' (by (with_reducible repeat (first | apply Kd.R_alloc | apply Kd.R_drewN | apply Kd.R_drew)); exact HO_119000.out) (Kd.R_base ho0) hb); have n2_ := Aside0.mk (Kd.R_elder' (by (with_reducible repeat (first | apply Kd.R_alloc | apply Kd.R_drewN | apply Kd.R_drew)); exact HO_119001.out) (Kd.R_base ho0) hb); have n3_ := Aside0.mk (Kd.R_lower (Kd.R_new' (Kd.R_new' (Kd.R_new' ho0 (Kd.R_lt (by (with_reducible repeat (first | apply Kd.R_alloc | apply Kd.R_drewN | apply Kd.R_drew)); exact HO_28.out))) (Kd.R_lt (by (with_reducible repeat (first | apply Kd.R_alloc | apply Kd.R_drewN | apply Kd.R_drew)); exact HO_119000.out))) (Kd.R_lt (by (with_reducible repeat (first | apply Kd.R_alloc | apply Kd.R_drewN | apply Kd.R_drew)); exact HO_119001.out))) (below_size (by repeat (first | (with_reducible first | exact HB.out | apply below_alloc | apply pw_below_drewN | apply below_drew1 | refine below_set ?_ GE112.out | refine below_set ?_ GE118.out) | exact HB.out)))); have n4_ := Aside0.mk (blk_below (g := gb112) (o := .cells #[.slice none 0 0, .slice none 0 0, .int .i64 0] 44 (0, 0)) (by (with_reducible repeat (first | refine blk_drewN ?_ _ | refine blk_drew ?_ | refine blk_alloc ?_ _)); exact BK112.out) hb); have n5_ := Aside0.mk (blk_below (g := gb118) (o := .cells #[.slice (some ad119) t113.length co7, u119001, .int .i64 t114] 44 (0, 0)) (by (with_reducible repeat (first | refine blk_drewN ?_ _ | refine blk_drew ?_ | refine blk_alloc ?_ _)); exact BK118.out) hb); have n6_ := Aside0.mk (below_step (by repeat (first | (with_reducible first | exact HB.out | apply below_alloc | apply pw_below_drewN | apply below_drew1 | refine below_set ?_ GE112.out | refine below_set ?_ GE118.out) | exact HB.out)) hb); clear HO_28; clear HO_119000; clear HO_119001; clear BK112; clear BK118; clear HB; have HO_28 := n0_; have HO_119000 := n1_; have HO_119001 := n2_; have HO124 := n3_; have BK112 := n4_; have BK118 := n5_; have HB := n6_; clear n0_ n1_ n2_ n3_ n4_ n5_ n6_; (try clear hb); (try clear hb2); (try clear hk); (try clear hi); (try clear ho0)))
                    have n0_ := Aside0.mk (Kd.R_drew HO_28.out)
                    have n1_ := Aside0.mk (Kd.R_drew HO_119000.out)
                    have n2_ := Aside0.mk (Kd.R_drew HO_119001.out)
                    have n3_ := Aside0.mk (Kd.R_drew HO124.out)
                    have n4_ := Aside0.mk (blk_drew BK112.out)
                    have n5_ := Aside0.mk (blk_drew BK118.out)
                    have n6_ := Aside0.mk (below_drew1 HB.out)
                    clear HO_28
                    clear HO_119000
                    clear HO_119001
                    clear HO124
                    clear BK112
                    clear BK118
                    clear HB
                    have HO_28 := n0_
                    have HO_119000 := n1_
                    have HO_119001 := n2_
                    have HO124 := n3_
                    have BK112 := n4_
                    have BK118 := n5_
                    have HB := n6_
                    clear n0_ n1_ n2_ n3_ n4_ n5_ n6_
                    have p125 : 0 ≤ ((rd t113 x30_1) : Int) := of_decide_eq_true (by first | (with_reducible assumption) | assumption)
                    have q125 : (rd t113 x30_1) < (l1.length : Int) := of_decide_eq_true (by first | (with_reducible assumption) | assumption)
                    obtain ⟨ad125, e125, hx125_0, hx125_1, hx125_2⟩ := at_T50 HR1.out (rd t113 x30_1) p125 q125
                    have hw125_2 := hx125_2
                    have hw125_1 := hx125_1
                    have hw125_0 := hx125_0
                    obtain rfl : ad120 = ad125 := (by injection e125)
                    replace hx125_0 := (HB.out.cell (World.block_lt_of_cell? w _ hx125_0)).trans hx125_0
                    replace hx125_1 := (HB.out.cell (World.block_lt_of_cell? w _ hx125_1)).trans hx125_1
                    replace hx125_2 := (HB.out.cell (World.block_lt_of_cell? w _ hx125_2)).trans hx125_2
                    replace p125 := eq_true p125
                    replace q125 := eq_true q125
                    refine start_ (n := 15) (S := fun w' => w'.cell? ⟨gb118, 0, none⟩ = some (.slice (some ad119) t113.length co7) ∧ w'.cell? ⟨gb118, 1, none⟩ = some (u119001) ∧ w'.cell? ⟨gb118, 2, none⟩ = some (.int .i64 t114) ∧ w'.cell? (ad120.add (((rd t113 x30_1)).toNat * 3)) = some (.int .i64 ((rd_T50 l1 (rd t113 x30_1)).f0)) ∧ w'.cell? ⟨(ad120.add (((rd t113 x30_1)).toNat * 3)).block, (ad120.add (((rd t113 x30_1)).toNat * 3)).off + 1, none⟩ = some (.int .i64 ((rd_T50 l1 (rd t113 x30_1)).f1)) ∧ w'.cell? ⟨(ad120.add (((rd t113 x30_1)).toNat * 3)).block, (ad120.add (((rd t113 x30_1)).toNat * 3)).off + 2, none⟩ = some (.int .i64 ((rd_T50 l1 (rd t113 x30_1)).f2))) (ds := [14]) #[false, false, false, false, false, false, false, false, false, false, false, false, false, false, false] (by kernel_rfl) rfl rfl ⟨(blk_cell BK118.out 0).trans rfl, (blk_cell BK118.out 1).trans rfl, (blk_cell BK118.out 2).trans rfl, ((HB.out.cell (World.block_lt_of_cell? w _ hw125_0)).trans hw125_0), ((HB.out.cell (World.block_lt_of_cell? w _ hw125_1)).trans hw125_1), ((HB.out.cell (World.block_lt_of_cell? w _ hw125_2)).trans hw125_2)⟩ (fun hHeld => ?_); refine with_tabW tender_Decide.tab9 tender_Decide.bits9 (fun HT_ HW_ => ?_)
                    generalize w18.drew = w19 at HO_28 HO_119000 HO_119001 HO124 BK112 BK118 HB hx125_0 hx125_1 hx125_2 hHeld ⊢
                    refine pure_ (i := 0) (N := some 44) (v := ?_) (a' := ?_) #[true, false, false, false, false, false, false, false, false, false, false, false, false, false, false] rfl rfl (any_of HT_.out (by kernel_rfl)) (fun _ _ _ h => h) (Or.inl ⟨by rfl, ?_⟩) ?_ ?_
                    rotate_left
                    · intro w'
                      go_simp
                      with_reducible rfl
                    rotate_left
                    · simp only [Act.put, List.setIfInBounds_toArray, List.set_cons_zero, List.set_cons_succ, i64_w, i32_w]
                      rfl
                    refine pure_ (i := 2) (N := some 46) (v := ?_) (a' := ?_) #[true, false, true, false, false, false, false, false, false, false, false, false, false, false, false] rfl rfl (any_of HT_.out (by kernel_rfl)) (fun _ _ _ h => h) (Or.inl ⟨by rfl, ?_⟩) ?_ ?_
                    rotate_left
                    · intro w'
                      go_simp
                      with_reducible rfl
                    rotate_left
                    · simp only [Act.put, List.setIfInBounds_toArray, List.set_cons_zero, List.set_cons_succ, i64_w, i32_w]
                      rfl
                    refine pure_ (i := 3) (N := some 47) (v := ?_) (a' := ?_) #[true, false, true, true, false, false, false, false, false, false, false, false, false, false, false] rfl rfl (any_of HT_.out (by kernel_rfl)) (fun _ _ _ h => h) (Or.inl ⟨by rfl, ?_⟩) ?_ ?_
                    rotate_left
                    · intro w'
                      go_simp
                      with_reducible rfl
                    rotate_left
                    · simp only [Act.put, List.setIfInBounds_toArray, List.set_cons_zero, List.set_cons_succ, i64_w, i32_w]
                      rfl
                    refine pure_ (i := 4) (N := some 48) (v := ?_) (a' := ?_) #[true, false, true, true, true, false, false, false, false, false, false, false, false, false, false] rfl rfl (any_of HT_.out (by kernel_rfl)) (fun _ _ _ h => h) (Or.inl ⟨by rfl, ?_⟩) ?_ ?_
                    rotate_left
                    · intro w'
                      go_simp
                      with_reducible rfl
                    rotate_left
                    · simp only [Act.put, List.setIfInBounds_toArray, List.set_cons_zero, List.set_cons_succ, i64_w, i32_w]
                      rfl
                    refine pure_ (i := 5) (N := some 49) (v := ?_) (a' := ?_) #[true, false, true, true, true, true, false, false, false, false, false, false, false, false, false] rfl rfl (any_of HT_.out (by kernel_rfl)) (fun _ _ _ h => h) (Or.inl ⟨by rfl, ?_⟩) ?_ ?_
                    rotate_left
                    · intro w'
                      go_simp
                      with_reducible rfl
                    rotate_left
                    · simp only [Act.put, List.setIfInBounds_toArray, List.set_cons_zero, List.set_cons_succ, i64_w, i32_w]
                      rfl
                    refine pure_ (i := 6) (N := some 50) (v := ?_) (a' := ?_) #[true, false, true, true, true, true, true, false, false, false, false, false, false, false, false] rfl rfl (any_of HT_.out (by kernel_rfl)) (fun _ _ _ h => h) (Or.inl ⟨by rfl, ?_⟩) ?_ ?_
                    rotate_left
                    · intro w'
                      go_simp
                      with_reducible rfl
                    rotate_left
                    · simp only [Act.put, List.setIfInBounds_toArray, List.set_cons_zero, List.set_cons_succ, i64_w, i32_w]
                      rfl
                    refine pure_ (i := 7) (N := some 51) (v := ?_) (a' := ?_) #[true, false, true, true, true, true, true, true, false, false, false, false, false, false, false] rfl rfl (any_of HT_.out (by kernel_rfl)) (fun _ _ _ h => h) (Or.inl ⟨by rfl, ?_⟩) ?_ ?_
                    rotate_left
                    · intro w'
                      go_simp
                      with_reducible rfl
                    rotate_left
                    · simp only [Act.put, List.setIfInBounds_toArray, List.set_cons_zero, List.set_cons_succ, i64_w, i32_w]
                      rfl
                    refine take_ (i := 1) (N := some 45) (v := ?_) (a' := ?_) #[true, true, true, true, true, true, true, true, false, false, false, false, false, false, false] rfl rfl (take_ofW HT_.out HW_.out (by kernel_rfl)) (fun _ _ _ h => h) (Or.inl ⟨by rfl, ?_⟩) hHeld ?_ ?_
                    rotate_left
                    · rintro w' ⟨s0, s1, s2, s3, s4, s5⟩
                      go_simp
                      with_reducible rfl
                    rotate_left
                    · simp only [Act.put, List.setIfInBounds_toArray, List.set_cons_zero, List.set_cons_succ, i64_w, i32_w]
                      rfl
                    refine take_ (i := 8) (N := some 52) (v := ?_) (a' := ?_) #[true, true, true, true, true, true, true, true, true, false, false, false, false, false, false] rfl rfl (take_ofW HT_.out HW_.out (by kernel_rfl)) (fun _ _ _ h => h) (Or.inl ⟨by rfl, ?_⟩) hHeld ?_ ?_
                    rotate_left
                    · rintro w' ⟨s0, s1, s2, s3, s4, s5⟩
                      go_simp
                      with_reducible rfl
                    rotate_left
                    · simp only [Act.put, List.setIfInBounds_toArray, List.set_cons_zero, List.set_cons_succ, i64_w, i32_w]
                      rfl
                    refine pure_ (i := 9) (N := some 53) (v := ?_) (a' := ?_) #[true, true, true, true, true, true, true, true, true, true, false, false, false, false, false] rfl rfl (any_of HT_.out (by kernel_rfl)) (fun _ _ _ h => h) (Or.inl ⟨by rfl, ?_⟩) ?_ ?_
                    rotate_left
                    · intro w'
                      go_simp
                      with_reducible rfl
                    rotate_left
                    · simp only [Act.put, List.setIfInBounds_toArray, List.set_cons_zero, List.set_cons_succ, i64_w, i32_w]
                      rfl
                    refine pure_ (i := 10) (N := some 54) (v := ?_) (a' := ?_) #[true, true, true, true, true, true, true, true, true, true, true, false, false, false, false] rfl rfl (any_of HT_.out (by kernel_rfl)) (fun _ _ _ h => h) (Or.inl ⟨by rfl, ?_⟩) ?_ ?_
                    rotate_left
                    · intro w'
                      go_simp
                      with_reducible rfl
                    rotate_left
                    · simp only [Act.put, List.setIfInBounds_toArray, List.set_cons_zero, List.set_cons_succ, i64_w, i32_w]
                      rfl
                    refine one_ (i := 11) (N := some 55) #[true, true, true, true, true, true, true, true, true, true, true, true, false, false, false] rfl rfl (one_of HT_.out (by kernel_rfl)) (by decide) (fun K hK => ?_)
                    refine value_ (w1 := ?_) (v := ?_) (by rfl) rfl ?_ ?_
                    rotate_left 2
                    · go_simp
                      constructor
                      · rfl
                      · rfl
                    refine hK.out _ _ ⟨(blk_cell (blk_alloc BK118.out _) 0).trans rfl, (blk_cell (blk_alloc BK118.out _) 1).trans rfl, (blk_cell (blk_alloc BK118.out _) 2).trans rfl, (World.cell?_alloc_lt _ _ _ (World.block_lt_of_cell? _ _ (((HB.out.cell (World.block_lt_of_cell? w _ hw125_0)).trans hw125_0)))).trans (((HB.out.cell (World.block_lt_of_cell? w _ hw125_0)).trans hw125_0)), (World.cell?_alloc_lt _ _ _ (World.block_lt_of_cell? _ _ (((HB.out.cell (World.block_lt_of_cell? w _ hw125_1)).trans hw125_1)))).trans (((HB.out.cell (World.block_lt_of_cell? w _ hw125_1)).trans hw125_1)), (World.cell?_alloc_lt _ _ _ (World.block_lt_of_cell? _ _ (((HB.out.cell (World.block_lt_of_cell? w _ hw125_2)).trans hw125_2)))).trans (((HB.out.cell (World.block_lt_of_cell? w _ hw125_2)).trans hw125_2))⟩ (fun hHeld => ?_)
                    clear hK K
                    refine norm_ (a' := ?_) ?_ ?_
                    rotate_left
                    · show Act.put _ (some 55) _ = _
                      simp only [Act.put, List.setIfInBounds_toArray, List.set_cons_zero, List.set_cons_succ, i64_w, i32_w]
                      rfl
                    refine one_ (i := 12) (N := some 56) #[true, true, true, true, true, true, true, true, true, true, true, true, true, false, false] rfl rfl (one_of HT_.out (by kernel_rfl)) (by decide) (fun K hK => ?_)
                    refine Kd.R_append_step (Kd.int .i64) (w0 := w) w.heap.size (by rfl) (.tmp 45) (.tmp 55) 26 3 (.int .i64 0) 8 rfl Try.underlying26 info3 rfl (by decide) (by omega) u119001 x119001_1 (wrap64 (t122 - (wrap64 (t114 - ((rd_T50 l1 (rd t113 x30_1)).f2))))) [.int .i64 (wrap64 (t122 - (wrap64 (t114 - ((rd_T50 l1 (rd t113 x30_1)).f2)))))] (fun k_ => some k_ ≠ (.slice (some ad119) t113.length co7 : Value).ownBlock ∧ some k_ ≠ (.slice (some ad119) t113.length co7 : Value).ownBlock ∧ some k_ ≠ (v123 : Value).ownBlock) (fun _ => False) rfl rfl ?aP (fun _ hk => hk.elim) ?aF ?aO ?aB ?aS ?aL ?_
                    (case aP => exact rfl)
                    (case aB => exact (by repeat (first | (with_reducible first | exact HB.out | apply below_alloc | apply pw_below_drewN | apply below_drew1 | refine below_set ?_ GE112.out | refine below_set ?_ GE118.out) | exact HB.out)))
                    (case aF => exact (fun k_ hk => ⟨Kd.fresh' (Kd.R_lt (by (with_reducible repeat (first | apply Kd.R_alloc | apply Kd.R_drewN | apply Kd.R_drew)); exact HO_28.out)) k_ hk, Kd.fresh' (Kd.R_lt (by (with_reducible repeat (first | apply Kd.R_alloc | apply Kd.R_drewN | apply Kd.R_drew)); exact HO_119000.out)) k_ hk, Kd.fresh' (Kd.R_lt (by (with_reducible repeat (first | apply Kd.R_alloc | apply Kd.R_drewN | apply Kd.R_drew)); exact HO124.out)) k_ hk⟩))
                    (case aO => exact (by (with_reducible repeat (first | apply Kd.R_alloc | apply Kd.R_drewN | apply Kd.R_drew)); exact Kd.R_mono HO_119001.out (fun _ hk => ⟨hk.1.1, ⟨hk.1.2, hk.2⟩⟩)))
                    (case aS => exact (below_size (by repeat (first | (with_reducible first | exact HB.out | apply below_alloc | apply pw_below_drewN | apply below_drew1 | refine below_set ?_ GE112.out | refine below_set ?_ GE118.out) | exact HB.out))))
                    (case aL => have := LMc17.out; omega)
                    intro v127 w20 ho hb hg hat
                    rw [← Ny126.out] at ho
                    have n0_ := Aside0.mk (Kd.R_after (ok := (fun k_ => some k_ ≠ (v123 : Value).ownBlock)) (by (with_reducible repeat (first | apply Kd.R_alloc | apply Kd.R_drewN | apply Kd.R_drew)); exact Kd.R_mono HO_28.out (fun _ hk => ⟨hk.2, hk.1⟩)) hg hat)
                    have n1_ := Aside0.mk (Kd.R_after (ok := (fun k_ => some k_ ≠ (v123 : Value).ownBlock)) (by (with_reducible repeat (first | apply Kd.R_alloc | apply Kd.R_drewN | apply Kd.R_drew)); exact Kd.R_mono HO_119000.out (fun _ hk => ⟨hk.2, hk.1⟩)) hg hat)
                    have n2_ := Aside0.mk (blk_grown (g := gb112) (o := .cells #[.slice none 0 0, .slice none 0 0, .int .i64 0] 44 (0, 0)) (by (with_reducible repeat (first | refine blk_drewN ?_ _ | refine blk_drew ?_ | refine blk_alloc ?_ _)); exact BK112.out) hg (Kd.R_ne HO_119001.out BK112.out (by decide)))
                    have n3_ := Aside0.mk (blk_grown (g := gb118) (o := .cells #[.slice (some ad119) t113.length co7, u119001, .int .i64 t114] 44 (0, 0)) (by (with_reducible repeat (first | refine blk_drewN ?_ _ | refine blk_drew ?_ | refine blk_alloc ?_ _)); exact BK118.out) hg (Kd.R_ne HO_119001.out BK118.out (by decide)))
                    have n4_ := Aside0.mk (Kd.R_after (ok := (fun k_ => some k_ ≠ (.slice (some ad119) t113.length co7 : Value).ownBlock ∧ some k_ ≠ (.slice (some ad119) t113.length co7 : Value).ownBlock)) (by (with_reducible repeat (first | apply Kd.R_alloc | apply Kd.R_drewN | apply Kd.R_drew)); exact Kd.R_mono HO124.out (fun _ hk => ⟨⟨hk.1.1.2, hk.1.2⟩, hk.2⟩)) hg hat)
                    have n5_ := Aside0.mk (hb)
                    have n6_ := Aside0.mk (ho)
                    clear HO_28
                    clear HO_119000
                    clear BK112
                    clear BK118
                    clear HO124
                    clear HB
                    clear HO_119001
                    have HO_28 := n0_
                    have HO_119000 := n1_
                    have BK112 := n2_
                    have BK118 := n3_
                    have HO124 := n4_
                    have HB := n5_
                    have HO128 := n6_
                    clear n0_ n1_ n2_ n3_ n4_ n5_ n6_
                    clear ho hb hg hat
                    obtain ⟨Ao21, co21, eo21⟩ := Kd.R_slice HO128.out
                    (first | subst eo21 | (injection eo21 with f1_ f2_ f3_; have f4_ := f1_.symm; have f5_ := f3_.symm; clear f1_ f2_ f3_; subst f4_; subst f5_))
                    refine hK.out _ _ ⟨(blk_cell BK118.out 0).trans rfl, (blk_cell BK118.out 1).trans rfl, (blk_cell BK118.out 2).trans rfl, ((HB.out.cell (World.block_lt_of_cell? w _ hw125_0)).trans hw125_0), ((HB.out.cell (World.block_lt_of_cell? w _ hw125_1)).trans hw125_1), ((HB.out.cell (World.block_lt_of_cell? w _ hw125_2)).trans hw125_2)⟩ (fun hHeld => ?_)
                    clear hK K
                    refine norm_ (a' := ?_) ?_ ?_
                    rotate_left
                    · show Act.put _ (some 56) _ = _
                      simp only [Act.put, List.setIfInBounds_toArray, List.set_cons_zero, List.set_cons_succ, i64_w, i32_w]
                      rfl
                    refine pure_ (i := 13) (N := some 57) (v := ?_) (a' := ?_) #[true, true, true, true, true, true, true, true, true, true, true, true, true, true, false] rfl rfl (any_of HT_.out (by kernel_rfl)) (fun _ _ _ h => h) (Or.inl ⟨by rfl, ?_⟩) ?_ ?_
                    rotate_left
                    · intro w'
                      go_simp
                      with_reducible rfl
                    rotate_left
                    · simp only [Act.put, List.setIfInBounds_toArray, List.set_cons_zero, List.set_cons_succ, i64_w, i32_w]
                      rfl
                    refine last_ (i := 14) (N := none) #[true, true, true, true, true, true, true, true, true, true, true, true, true, true, true] rfl rfl (one_of HT_.out (by kernel_rfl)) (by decide) (fun K hK => ?_)
                    have hs22 : w20.cell? ⟨gb118, 1, none⟩ = some (u119001) := (blk_cell BK118.out 1).trans rfl
                    have hfs22 := blk_frozen BK118.out 1
                    have hns22_0 := NB112_118.out
                    have hms22_0 := NB118_112.out
                    refine skip_ (w1 := ?_) (by rfl) rfl ?_ ?_
                    rotate_left
                    · go_simp
                      rfl
                    refine hK.out _ _ ?_
                    clear hK K
                    refine done_ (done_of HT_.out (by kernel_rfl)) ?_
                    try go_wp2
                    go_roundg k1
                    case measure => have := HK1.out; omega
                    case rel => exact ⟨(wrap64 (x30_1 + 1)), (y126), (.slice Ao21 y126.length co21), (by first | rfl | (simp; done) | (simp [*]; done)), H', ⟨by have := HK1.out; omega⟩, ⟨by (with_reducible repeat (first | apply Kd.R_alloc | apply Kd.R_drewN | apply Kd.R_drew)); exact Kd.R_mono (Kd.R_far (p := ⟨gb118, 1, none⟩) (Kd.R_types HO_28.out BK118.out (by decide)) (fun _ hk => hk.2) (.slice Ao21 y126.length co21)) (fun _ hk => hk.1.2)⟩, ⟨by (with_reducible repeat (first | apply Kd.R_alloc | apply Kd.R_drewN | apply Kd.R_drew)); exact Kd.R_mono (Kd.R_far (p := ⟨gb118, 1, none⟩) (Kd.R_types HO_119000.out BK118.out (by decide)) (fun _ hk => hk.2) (.slice Ao21 y126.length co21)) (fun _ hk => hk.1.2)⟩, ⟨by (with_reducible repeat (first | apply Kd.R_alloc | apply Kd.R_drewN | apply Kd.R_drew)); exact Kd.R_mono (Kd.R_far (p := ⟨gb118, 1, none⟩) (Kd.R_types HO128.out BK118.out (by decide)) (fun _ hk => hk.2) (.slice Ao21 y126.length co21)) (fun _ hk => ⟨hk.1.1, hk.1.2.1⟩)⟩, ⟨by (with_reducible repeat (first | refine blk_drewN ?_ _ | refine blk_drew ?_ | refine blk_alloc ?_ _)); refine blk_far ?_ NB112_118.out _; (with_reducible repeat (first | refine blk_drewN ?_ _ | refine blk_drew ?_ | refine blk_alloc ?_ _)); exact BK112.out⟩, ⟨by (with_reducible repeat (first | refine blk_drewN ?_ _ | refine blk_drew ?_ | refine blk_alloc ?_ _)); refine blk_put (cs := #[.slice (some ad119) t113.length co7, u119001, .int .i64 t114]) ?_ 1 _ rfl; (with_reducible repeat (first | refine blk_drewN ?_ _ | refine blk_drew ?_ | refine blk_alloc ?_ _)); exact BK118.out⟩, ⟨by repeat (first | (with_reducible first | exact HB.out | apply below_alloc | apply pw_below_drewN | apply below_drew1 | refine below_set ?_ GE112.out | refine below_set ?_ GE118.out) | exact HB.out)⟩⟩
                  · rw [if_neg c17] at H
                    exact absurd H (by simp)
                · rw [if_neg c15] at H
                  exact absurd H (by simp)
              · rw [if_neg c14] at H
                exact absurd H (by simp)
            · rw [if_neg c13] at H
              exact absurd H (by simp)
          · rw [if_neg c12] at H
            exact absurd H (by simp)
        · rw [if_neg c11] at H
          have c11b0 : decide (x30_1 < (t113.length : Int)) = false := decide_eq_false c11
          clear c11
          simp only [Option.some.injEq, Prod.mk.injEq] at H
          obtain ⟨rfl, rfl, rfl, rfl⟩ := H
          have hnb23 := NB118_112.out
          have hnc23 := NB112_118.out
          have hcz24_0 : wr.cell? ⟨gb118, 0, none⟩ = some (.slice Ao7 t113.length co7) := (blk_cell BK118.out 0).trans rfl
          have hcz24_1 : wr.cell? ⟨gb118, 1, none⟩ = some (u119001) := (blk_cell BK118.out 1).trans rfl
          have hcz24_2 : wr.cell? ⟨gb118, 2, none⟩ = some (.int .i64 t114) := (blk_cell BK118.out 2).trans rfl
          have hfz24_0 := blk_frozen BK118.out 0
          have hfz24_1 := blk_frozen BK118.out 1
          have hfz24_2 := blk_frozen BK118.out 2
          have hcz25_0 : wr.cell? ⟨gb112, 0, none⟩ = some (.slice none 0 0) := (blk_cell BK112.out 0).trans rfl
          have hcz25_1 : wr.cell? ⟨gb112, 1, none⟩ = some (.slice none 0 0) := (blk_cell BK112.out 1).trans rfl
          have hcz25_2 : wr.cell? ⟨gb112, 2, none⟩ = some (.int .i64 0) := (blk_cell BK112.out 2).trans rfl
          have hfz25_0 := blk_frozen BK112.out 0
          have hfz25_1 := blk_frozen BK112.out 1
          have hfz25_2 := blk_frozen BK112.out 2
          obtain ⟨Ao26, co26, eo26⟩ := Kd.R_slice HO_119001.out
          subst eo26
          go_wp2
          refine bodyPost_ret (results_ct rfl _ _ gb112 44 #[.slice Ao7 t113.length co7, .slice Ao26 x119001_1.length co26, .int .i64 t114] (0, 0) _ rfl (by (with_reducible repeat (first | refine blk_drewN ?_ _ | refine blk_drew ?_ | refine blk_alloc ?_ _)); refine blk_put (cs := #[.slice Ao7 t113.length co7, .slice Ao26 x119001_1.length co26, .int .i64 0]) ?_ 2 _ rfl; (with_reducible repeat (first | refine blk_drewN ?_ _ | refine blk_drew ?_ | refine blk_alloc ?_ _)); refine blk_put (cs := #[.slice Ao7 t113.length co7, .slice none 0 0, .int .i64 0]) ?_ 1 _ rfl; (with_reducible repeat (first | refine blk_drewN ?_ _ | refine blk_drew ?_ | refine blk_alloc ?_ _)); refine blk_put (cs := #[.slice none 0 0, .slice none 0 0, .int .i64 0]) ?_ 0 _ rfl; (with_reducible repeat (first | refine blk_drewN ?_ _ | refine blk_drew ?_ | refine blk_alloc ?_ _)); exact BK112.out) Try.underlying44 rfl (by kernel_rfl)) rfl ?_
          exact ⟨_, _, by first | rfl | (simp [errW_none, errW_some] <;> rfl) | (simp [*, errW_none, errW_some] <;> rfl), by (with_reducible repeat (first | apply Kd.R_alloc | apply Kd.R_drewN | apply Kd.R_drew)); exact Kd.R_mono (Kd.R_far (p := ⟨gb112, 2, none⟩) (Kd.R_far (p := ⟨gb112, 1, none⟩) (Kd.R_far (p := ⟨gb112, 0, none⟩) (Kd.R_types HO_119000.out BK112.out (by decide)) (fun _ hk => hk.2) (.slice Ao7 t113.length co7)) (fun _ hk => hk.2) (.slice Ao26 x119001_1.length co26)) (fun _ hk => hk.2) (.int .i64 t114)) (fun _ hk => hk.1), by (with_reducible repeat (first | apply Kd.R_alloc | apply Kd.R_drewN | apply Kd.R_drew)); exact Kd.R_mono (Kd.R_far (p := ⟨gb112, 2, none⟩) (Kd.R_far (p := ⟨gb112, 1, none⟩) (Kd.R_far (p := ⟨gb112, 0, none⟩) (Kd.R_types HO_119001.out BK112.out (by decide)) (fun _ hk => hk.2) (.slice Ao7 t113.length co7)) (fun _ hk => hk.2) (.slice Ao26 x119001_1.length co26)) (fun _ hk => hk.2) (.int .i64 t114)) (fun _ hk => hk.1.2), by repeat (first | (with_reducible first | exact HB.out | apply below_alloc | apply pw_below_drewN | apply below_drew1 | refine below_set ?_ GE112.out | refine below_set ?_ GE118.out) | exact HB.out)⟩
  · rw [if_neg c4] at H
    have c4b0 : (t115 == 0) = false := beq_eq_false_iff_ne.mpr c4
    have c4b1 : (t115 != 0) = true := bne_iff_ne.mpr c4
    simp only [Option.some.injEq, Prod.mk.injEq] at H
    obtain ⟨rfl, rfl, rfl, rfl⟩ := H
    go_enter Try.func26, Try.ntmps26
    go_wp2_with (first | ((with_reducible refine gate_dst (N := 4) rfl ?_); refine box_event ?hg (N := 4) ?hd (cs := #[.slice none 0 0, .slice none 0 0, .int .i64 0]) (t := 44) ?hr ?_; (case hd => rfl); (case hg => rfl); (case hr => first | (go_simp; done) | (go_simp; rfl)); intro gb112 hg w27 hbox hb; have n0_ := Aside0.mk (below_step (by repeat (first | (with_reducible first | exact HB.out | apply below_alloc | apply pw_below_drewN | apply below_drew1) | exact HB.out)) hb); have n1_ := Aside0.mk (hbox); have n2_ := Aside0.mk ((by rw [hg]; exact (below_size (by repeat (first | (with_reducible first | exact HB.out | apply below_alloc | apply pw_below_drewN | apply below_drew1) | exact HB.out))) : w.heap.size ≤ gb112)); have n3_ := Aside0.mk ((by rw [hg]; exact (below_size (by repeat (first | (with_reducible first | exact HB.out | apply below_alloc | apply pw_below_drewN | apply below_drew1) | exact HB.out))) : w.heap.size ≤ gb112)); clear HB; have HB := n0_; have BK112 := n1_; have GW112 := n2_; have GE112 := n3_; clear n0_ n1_ n2_ n3_; clear hb hbox hg) | ((with_reducible refine gate_callee (f := 18) rfl ?_); refine goesL_ (some 17) rfl rfl Try.func18 (by kernel_rfl) rfl #[.int .i64 a0, .slice A1 l1.length c1] rfl (by (try simp only [List.map_toArray, List.map_cons, List.map_nil]); first | done | rfl | (simp only [List.length_drop, List.length_take]; rfl)) ?_; (with_reducible refine (tender_Best.calls k a0 _ _ l1 t113 t114 t115 _ ?side1 ?side2 A3.out).mono ?_); (case side1 => repeat (first | exact (Kd.C_below HR1.out HB.out) | (with_reducible refine Kd.C_alloc ?_ _) | (with_reducible refine Kd.C_drewN ?_ _) | (with_reducible refine Kd.C_drew ?_))); (case side2 => exact HC1.out); rintro e w28 ⟨v116, rfl, ho0, hb⟩; refine ⟨_, rfl, ?_⟩; have n0_ := Aside0.mk (Kd.R_lower ho0 (below_size (by repeat (first | (with_reducible first | exact HB.out | apply below_alloc | apply pw_below_drewN | apply below_drew1 | refine below_set ?_ GE112.out) | exact HB.out)))); have n1_ := Aside0.mk (blk_below (g := gb112) (o := .cells #[.slice none 0 0, .slice none 0 0, .int .i64 0] 44 (0, 0)) (by (with_reducible repeat (first | refine blk_drewN ?_ _ | refine blk_drew ?_ | refine blk_alloc ?_ _)); exact BK112.out) hb); have n2_ := Aside0.mk (below_step (by repeat (first | (with_reducible first | exact HB.out | apply below_alloc | apply pw_below_drewN | apply below_drew1 | refine below_set ?_ GE112.out) | exact HB.out)) hb); clear BK112; clear HB; have HO117 := n0_; have BK112 := n1_; have HB := n2_; clear n0_ n1_ n2_; (try clear hb); (try clear hb2); (try clear hk); (try clear hi); (try clear ho0); have hcz29_0 : w28.cell? ⟨gb112, 0, none⟩ = some (.slice none 0 0) := (blk_cell BK112.out 0).trans rfl; have hcz29_1 : w28.cell? ⟨gb112, 1, none⟩ = some (.slice none 0 0) := (blk_cell BK112.out 1).trans rfl; have hcz29_2 : w28.cell? ⟨gb112, 2, none⟩ = some (.int .i64 0) := (blk_cell BK112.out 2).trans rfl; have hfz29_0 := blk_frozen BK112.out 0; have hfz29_1 := blk_frozen BK112.out 1; have hfz29_2 := blk_frozen BK112.out 2))
    refine bodyPost_ret (results_ct rfl _ _ gb112 44 #[.slice none 0 0, .slice none 0 0, .int .i64 0] (0, 0) _ rfl (by (with_reducible repeat (first | refine blk_drewN ?_ _ | refine blk_drew ?_ | refine blk_alloc ?_ _)); refine blk_put (cs := #[.slice none 0 0, .slice none 0 0, .int .i64 0]) ?_ 2 _ rfl; (with_reducible repeat (first | refine blk_drewN ?_ _ | refine blk_drew ?_ | refine blk_alloc ?_ _)); refine blk_put (cs := #[.slice none 0 0, .slice none 0 0, .int .i64 0]) ?_ 1 _ rfl; (with_reducible repeat (first | refine blk_drewN ?_ _ | refine blk_drew ?_ | refine blk_alloc ?_ _)); refine blk_put (cs := #[.slice none 0 0, .slice none 0 0, .int .i64 0]) ?_ 0 _ rfl; (with_reducible repeat (first | refine blk_drewN ?_ _ | refine blk_drew ?_ | refine blk_alloc ?_ _)); exact BK112.out) Try.underlying44 rfl (by kernel_rfl)) rfl ?_
    exact ⟨_, _, by first | rfl | (simp [errW_none, errW_some] <;> rfl) | (simp [*, errW_none, errW_some] <;> rfl), by first | exact Kd.R_nil _ _ _ _ _ | exact Kd.N_nil _ _ _ _ _ | exact Kd.V_nil _ _ _ _ _ | exact Kd.Q_nil _ _ _ _ _ | exact Kd.S_nil _ _ _ _ _, by first | exact Kd.R_nil _ _ _ _ _ | exact Kd.N_nil _ _ _ _ _ | exact Kd.V_nil _ _ _ _ _ | exact Kd.Q_nil _ _ _ _ _ | exact Kd.S_nil _ _ _ _ _, by repeat (first | (with_reducible first | exact HB.out | apply below_alloc | apply pw_below_drewN | apply below_drew1 | refine below_set ?_ GE112.out) | exact HB.out)⟩
end Go.Proofs.Ythfdjccdelbeeaa.PT
end
section
namespace Go.Proofs.Ythfdjccdelbeeaa.PT
open Go.RowKit Go.Proofs.YthfdjccdelbeeaaW.PrintWords Go.Proofs.YthfdjccdelbeeaaW.PrintLast Go.Proofs.YthfdjccdelbeeaaW.PrintMore Go.Proofs.Ythfdjccdelbeeaa.TPl
set_option linter.unusedVariables false
theorem w64 (i : Nat) (h : i < 4611686018427387904) : wrap64 ((i : Int) + 1) = ((i + 1 : Nat) : Int) := by unfold wrap64; omega
theorem wf_u8 {n : Int} (h : (Lit.int .u8 n).wf = true) : 0 ≤ n ∧ n ≤ 255 := by simpa [Lit.wf, IntKind.min, IntKind.max, IntKind.signed, IntKind.bits] using h
theorem Ev.here {α : Type} {g : Nat → Option α} {r : α} (h : ∀ k, g (k + 1) = some r) : Ev g r := Ev.step h (Ev.now r)
theorem bits63 (a b : Nat) (ha : a < 9223372036854775808) (hb : b < 9223372036854775808) : bits .and .i64 (a : Int) (b : Int) = ((a &&& b : Nat) : Int) ∧ bits .or .i64 (a : Int) (b : Int) = ((a ||| b : Nat) : Int) :=
  bits_nat .i64 63 (by decide) (fun n h0 h1 => by rw [IntKind.wrap_i64]; omega) a b ha hb
theorem shl_lots (a : Int) (h0 : 0 ≤ a) (h1 : a ≤ 12) : shl .i64 1 a = ((2 ^ a.toNat : Nat) : Int) := by
  obtain ⟨n, rfl⟩ := Int.eq_ofNat_of_zero_le h0
  have hn : n ≤ 12 := by omega
  match n, hn with
  | 0, _ | 1, _ | 2, _ | 3, _ | 4, _ | 5, _ | 6, _ | 7, _ | 8, _ | 9, _ | 10, _ | 11, _ | 12, _ => decide
  | n + 13, h => omega
def good (lots : Int) (o : S50) : Bool := decide (0 ≤ o.f0 ∧ o.f0 ≤ 7 ∧ 1 ≤ o.f1 ∧ o.f1 < ((2 ^ lots.toNat : Nat) : Int) ∧ 1 ≤ o.f2 ∧ o.f2 ≤ 1073741824)
theorem valid_good (lots : Int) (o : S50) (h0 : 1 ≤ lots) (h1 : lots ≤ 12) : tender_valid.f o.f0 o.f1 o.f2 lots = some (good lots o) := by
  unfold tender_valid.f good
  rw [shl_lots lots (by omega) h1]
  generalize ((2 ^ lots.toNat : Nat) : Int) = M
  by_cases c1 : o.f0 ≥ 0 <;> by_cases c2 : o.f0 ≤ 7 <;> by_cases c3 : o.f1 ≥ 1 <;> by_cases c4 : o.f1 < M <;> by_cases c5 : o.f2 ≥ 1 <;> by_cases c6 : o.f2 ≤ 1073741824 <;>
    simp [c1, c2, c3, c4, c5, c6, show 0 ≤ lots by omega] <;> omega
theorem rd_get (l : List S50) (i : Nat) (h : i < l.length) : rd_T50 l (i : Int) = l[i] := by simp [rd_T50, h]
def errS (lots : Int) (l : List S50) : Int := if lots < 1 ∨ 12 < lots then 2 else if 16 < l.length then 3 else if l.all (good lots) = true then 0 else 2
theorem ev_checked_l (lots : Int) (l : List S50) (h0 : 1 ≤ lots) (h1 : lots ≤ 12) (hl : l.length ≤ 16) : ∀ (d i : Nat), i + d = l.length → Ev (fun k => tender_checked.l0 k lots l (l.length : Int) (i : Int)) (if (l.drop i).all (good lots) = true then 0 else 2)
  | 0, i, h => Ev.here fun k => by
      simp only [tender_checked.l0]
      rw [if_neg (by omega), List.drop_of_length_le (by omega)]; rfl
  | d + 1, i, h => by
      have hi : i < l.length := by omega
      have ih := ev_checked_l lots l h0 h1 hl d (i + 1) (by omega)
      rw [List.drop_eq_getElem_cons hi, List.all_cons]
      have hst : ∀ k, tender_checked.l0 (k + 1) lots l (l.length : Int) (i : Int) = if good lots l[i] = true then tender_checked.l0 k lots l (l.length : Int) ((i + 1 : Nat) : Int) else some 2 := fun k => by
        simp only [tender_checked.l0]
        rw [if_pos (by omega), if_pos (by omega), if_pos (by omega), rd_get l i hi, valid_good lots _ h0 h1, w64 i (by omega)]; rfl
      cases hg : good lots l[i] with
      | true =>
        refine Ev.step (fun k => by rw [hst k, hg, if_pos rfl]) ?_
        simpa using ih
      | false => exact Ev.here fun k => by rw [hst k, hg]; rfl
theorem ev_checked (lots : Int) (l : List S50) : Ev (fun k => tender_checked.f k lots l) (errS lots l) := by
  unfold errS
  by_cases c : lots < 1 ∨ 12 < lots
  · rw [if_pos c]
    refine Ev.here fun k => ?_
    simp only [tender_checked.f]
    by_cases c1 : lots < 1
    · rw [if_pos c1]; simp [tender_checked.j0]
    · rw [if_neg c1, decide_eq_true (by omega)]; simp [tender_checked.j0]
  · rw [if_neg c]
    have hf : ∀ k, tender_checked.f (k + 1) lots l = if (l.length : Int) > 16 then some 3 else tender_checked.l0 k lots l (l.length : Int) ((0 : Nat) : Int) := fun k => by
      simp only [tender_checked.f]
      rw [if_neg (by omega), decide_eq_false (by omega)]
      simp [tender_checked.j0]
    by_cases c2 : 16 < l.length
    · rw [if_pos c2]; exact Ev.here fun k => by rw [hf k, if_pos (by omega)]
    · rw [if_neg c2]
      refine Ev.step (fun k => by rw [hf k, if_neg (by omega)]) ?_
      simpa using ev_checked_l lots l (by omega) (by omega) (by omega) l.length 0 (by omega)
/-- What the checks let by. -/
structure Vld (lots : Int) (l : List S50) : Prop where
  lo : 1 ≤ lots
  hi : lots ≤ 12
  len : l.length ≤ 16
  all : ∀ o ∈ l, 0 ≤ o.f0 ∧ o.f0 ≤ 7 ∧ 1 ≤ o.f1 ∧ o.f1 < ((2 ^ lots.toNat : Nat) : Int) ∧ 1 ≤ o.f2 ∧ o.f2 ≤ 1073741824
theorem errS_zero {lots : Int} {l : List S50} : errS lots l = 0 ↔ Vld lots l := by
  unfold errS
  constructor
  · intro h
    split at h
    · omega
    · split at h
      · omega
      · split at h
        · rename_i h1 h2 h3
          exact ⟨by omega, by omega, by omega, fun o ho => by have := List.all_eq_true.1 h3 o ho; simpa [good] using this⟩
        · omega
  · rintro ⟨h0, h1, h2, h3⟩
    rw [if_neg (by omega), if_neg (by omega), if_pos (List.all_eq_true.2 fun o ho => by simpa [good] using h3 o ho)]
theorem Vld.bv {lots : Int} {l : List S50} (h : Vld lots l) : bValid l := by
  refine ⟨h.len, fun o ho => ?_⟩
  obtain ⟨a, b, c, d, e, f⟩ := h.all o ho
  have : 2 ^ lots.toNat ≤ 2 ^ 12 := Nat.pow_le_pow_right (by decide) (by have := h.hi; omega)
  exact ⟨a, b, c, by omega, e, f⟩
def toOf (o : S50) : Of := ⟨o.f0.toNat, o.f1.toNat, o.f2.toNat⟩
theorem bSum_tot : ∀ (l : List S50), (∀ o ∈ l, 1 ≤ o.f2) → bSum l = ((tot (l.map toOf) : Nat) : Int)
  | [], _ => rfl
  | o :: os, h => by
    have := h o List.mem_cons_self
    simp only [bSum, List.map_cons, tot, toOf, bSum_tot os (fun x hx => h x (List.mem_cons_of_mem _ hx))]
    omega
theorem pow8 (b : Nat) (h : b ≤ 7) : wrap64 (2 ^ b) = ((2 ^ b : Nat) : Int) := by
  match b, h with
  | 0, _ | 1, _ | 2, _ | 3, _ | 4, _ | 5, _ | 6, _ | 7, _ => simp [wrap64]
  | b + 8, h => omega
theorem and_pow_zero (B b : Nat) : B &&& 2 ^ b = 0 ↔ B.testBit b = false := by
  constructor
  · intro h
    have := congrArg (fun x => x.testBit b) h
    simpa [Nat.testBit_and, Nat.testBit_two_pow_self] using this
  · intro h
    apply Nat.eq_of_testBit_eq
    intro i
    rw [Nat.testBit_and, Nat.zero_testBit, Nat.testBit_two_pow]
    by_cases e : b = i
    · subst e; simp [h]
    · simp [e]
theorem bOk_nok (wo : Int) (L B : Nat) (o : S50) (hL : L < 4096) (hB : B < 256) (h : 0 ≤ o.f0 ∧ o.f0 ≤ 7 ∧ 1 ≤ o.f1 ∧ o.f1 < 4096 ∧ 1 ≤ o.f2 ∧ o.f2 ≤ 1073741824) :
    (bOk wo L B o ↔ nok wo L B (toOf o)) ∧ bits .or .i64 (L : Int) o.f1 = ((L ||| (toOf o).l : Nat) : Int) ∧ bits .or .i64 (B : Int) (wrap64 (2 ^ o.f0.toNat)) = ((B ||| 2 ^ (toOf o).b : Nat) : Int) ∧ (L ||| (toOf o).l) < 4096 ∧ (B ||| 2 ^ (toOf o).b) < 256 := by
  obtain ⟨h1, h2, h3, h4, h5, h6⟩ := h
  have e1 : o.f1 = ((o.f1.toNat : Nat) : Int) := by omega
  have hb : o.f0.toNat ≤ 7 := by omega
  have hp : 2 ^ o.f0.toNat ≤ 2 ^ 7 := Nat.pow_le_pow_right (by decide) hb
  have hl : o.f1.toNat < 4096 := by omega
  refine ⟨?_, ?_, ?_, ?_, ?_⟩
  · unfold bOk nok toOf
    rw [pow8 _ hb, e1, (bits63 L o.f1.toNat (by omega) (by omega)).1, (bits63 B (2 ^ o.f0.toNat) (by omega) (by omega)).1]
    simp only [Int.natCast_eq_zero, Int.toNat_natCast, and_pow_zero]
    have : (o.f0.toNat : Int) = o.f0 := by omega
    rw [this]
  · conv => lhs; rw [e1]
    rw [(bits63 L o.f1.toNat (by omega) (by omega)).2]; rfl
  · rw [pow8 _ hb, (bits63 B (2 ^ o.f0.toNat) (by omega) (by omega)).2]; rfl
  · exact Nat.or_lt_two_pow (n := 12) hL hl
  · exact Nat.or_lt_two_pow (n := 8) hB (by show 2 ^ o.f0.toNat < _; omega)
theorem bGo_nGo (wo : Int) : ∀ (os : List S50) (i : Int) (L B : Nat) (sum : Nat) (now : List Int) (tw : List Int × Int), (∀ o ∈ os, 0 ≤ o.f0 ∧ o.f0 ≤ 7 ∧ 1 ≤ o.f1 ∧ o.f1 < 4096 ∧ 1 ≤ o.f2 ∧ o.f2 ≤ 1073741824) → L < 4096 → B < 256 →
    bGo wo os i L B sum now tw = nGo wo (os.map toOf) i L B sum now tw
  | [], i, L, B, sum, now, tw, _, _, _ => rfl
  | o :: os, i, L, B, sum, now, tw, h, hL, hB => by
    have ho := h o List.mem_cons_self
    have hos := fun x hx => h x (List.mem_cons_of_mem o hx)
    obtain ⟨k1, k2, k3, k4, k5⟩ := bOk_nok wo L B o hL hB ho
    have hs : (sum : Int) + bSum (o :: os) = ((sum + tot ((o :: os).map toOf) : Nat) : Int) := by
      rw [bSum_tot (o :: os) (fun x hx => (h x hx).2.2.2.2.1)]; omega
    have hp : (sum : Int) + o.f2 = ((sum + (toOf o).p : Nat) : Int) := by show _ = ((sum + o.f2.toNat : Nat) : Int); omega
    rw [bGo, hs, k2, k3, hp, bGo_nGo wo os _ _ _ _ _ _ hos k4 k5]
    simp only [List.map_cons]
    rw [nGo, bGo_nGo wo os _ _ _ _ _ _ hos hL hB]
    simp only [k1]
theorem best_spec (l : List S50) (wo : Int) (h : bValid l) : ∃ s, IsBest wo (l.map toOf) 0 0 s ∧ tender_best.f l wo = some (idx 0 s, ((val (l.map toOf) s : Nat) : Int)) := by
  obtain ⟨s, hs, e⟩ := nGo_best wo (l.map toOf) 0 0
  refine ⟨s, hs, ?_⟩
  unfold tender_best.f
  rw [if_pos h]
  have e1 := bGo_nGo wo l 0 0 0 0 [] ([], -1) h.2 (by decide) (by decide)
  simp only [Int.ofNat_zero] at e1
  have e2 := e 0 0 [] ([], -1)
  rw [if_neg (by dsimp only; omega)] at e2
  rw [e1, e2]; simp
end Go.Proofs.Ythfdjccdelbeeaa.PT
end
