/-
  Hashes: what the program and the specification mix; the halves; the roots.
-/
import Derived.Test.YtacjdoekgmmfoaaPLx10
import Derived.Test.YtacjdoekgmmfoaaPLx14
import Derived.Test.YtacjdoekgmmfoaaPLx15
import Derived.Test.YtacjdoekgmmfoaaPLx2
import Derived.Test.YtacjdoekgmmfoaaPLx4
import Derived.Test.YtacjdoekgmmfoaaPLx5
import Derived.Test.YtacjdoekgmmfoaaPLx7
import Derived.Test.YtacjdoekgmmfoaaPLx9
import Derived.Test.YtacjdoekgmmfoaaPLxOk
namespace Go.Proofs.Ytacjdoekgmmfoaa.PL
open Go.RowKit Go.Proofs.YtacjdoekgmmfoaaW.PrintWords Go.Proofs.YtacjdoekgmmfoaaW.PrintLast Go.Proofs.YtacjdoekgmmfoaaW.PrintMore
set_option linter.unusedVariables false
set_option linter.unusedSimpArgs false
theorem w64 (i : Nat) (h : i < 4611686018427387904) : wrap64 ((i : Int) + 1) = ((i + 1 : Nat) : Int) := by unfold wrap64; omega
theorem wf_u64 {n : Int} (h : (Lit.int .u64 n).wf = true) : 0 ≤ n ∧ n < 18446744073709551616 := by
  have : 0 ≤ n ∧ n ≤ 18446744073709551615 := by simpa [Lit.wf, IntKind.min, IntKind.max, IntKind.signed, IntKind.bits] using h
  omega
theorem Ev.here {α : Type} {g : Nat → Option α} {r : α} (h : ∀ k, g (k + 1) = some r) : Ev g r := Ev.step h (Ev.now r)
theorem Ev.step2 {α : Type} {g f : Nat → Option α} {r : α} (h : ∀ k, g (k + 2) = f k) (k : Ev f r) : Ev g r := by
  have h1 : Ev (fun k => g (k + 1)) r := Ev.step (f := f) (fun k => h k) k
  exact Ev.step (fun k => rfl) h1
theorem rd_at (l : List Int) (i : Nat) (h : i < l.length) : rd l (i : Int) = l[i] := by simp [rd, h]
theorem rdL_at (l : List (List Int)) (i : Nat) (h : i < l.length) : rd_L1 l (i : Int) = l[i] := by simp [rd_L1, h]
def okH (x : Int) : Prop := 0 ≤ x ∧ x < 18446744073709551616
def mstep (h b : Int) : Int := IntKind.u64.wrap ((Go.bits .xor .u64 h (IntKind.u64.wrap b)) * 1099511628211)
def mixS (l : List Int) : Int := l.foldl mstep 14695981039346656037
theorem mix_ok (l : List Int) : okH (mixS l) := by
  unfold mixS
  have : ∀ (l : List Int) (h : Int), okH h → okH (l.foldl mstep h) := by
    intro l
    induction l with
    | nil => intro h hh; exact hh
    | cons x l ih => intro h _; exact ih _ (u64_rangeL _)
  exact this l _ (by unfold okH; omega)
where u64_rangeL (x : Int) : okH (IntKind.u64.wrap x) := by unfold okH; rw [IntKind.wrap_u64]; omega
theorem ev_Mix_l (l : List Int) (hl : l.length < 4611686018427387904) : ∀ (d i : Nat) (h : Int), i + d = l.length → Ev (fun k => proof_Mix.l0 k h l (l.length : Int) (i : Int)) ((l.drop i).foldl mstep h)
  | 0, i, h, e => Ev.here fun k => by
      simp only [proof_Mix.l0]
      rw [if_neg (by omega), List.drop_of_length_le (by omega)]; rfl
  | d + 1, i, h, e => by
      have hi : i < l.length := by omega
      rw [List.drop_eq_getElem_cons hi, List.foldl_cons]
      refine Ev.step (fun k => ?_) (ev_Mix_l l hl d (i + 1) _ (by omega))
      simp only [proof_Mix.l0]
      rw [if_pos (by omega), if_pos (by omega), if_pos (by omega), rd_at l i hi, w64 i (by omega)]; rfl
theorem ev_Mix (l : List Int) (hl : l.length < 4611686018427387904) : Ev (fun k => proof_Mix.f k l) (mixS l) := by
  have := ev_Mix_l l hl l.length 0 14695981039346656037 (by omega)
  rw [List.drop_zero] at this; exact this
theorem ev_rMix_l (l : List Int) (hl : l.length < 4611686018427387904) : ∀ (d i : Nat) (h : Int), i + d = l.length → Ev (fun k => kimberliteref07_Mix.l0 k l h (i : Int)) ((l.drop i).foldl mstep h)
  | 0, i, h, e => Ev.here fun k => by
      simp only [kimberliteref07_Mix.l0]
      rw [if_neg (by omega), List.drop_of_length_le (by omega)]; rfl
  | d + 1, i, h, e => by
      have hi : i < l.length := by omega
      rw [List.drop_eq_getElem_cons hi, List.foldl_cons]
      refine Ev.step (fun k => ?_) (ev_rMix_l l hl d (i + 1) _ (by omega))
      simp only [kimberliteref07_Mix.l0]
      rw [if_pos (by omega), if_pos (by omega), rd_at l i hi, w64 i (by omega)]; rfl
theorem ev_rMix (l : List Int) (hl : l.length < 4611686018427387904) : Ev (fun k => kimberliteref07_Mix.f k l) (mixS l) := by
  have := ev_rMix_l l hl l.length 0 14695981039346656037 (by omega)
  rw [List.drop_zero] at this; exact this
def leafS (l : List Int) : Int := mixS (0 :: l)
def nodeB (a b : Int) : List Int := 1 :: (eights 8 a ++ eights 8 b)
def nodeS (a b : Int) : Int := mixS (nodeB a b)
theorem leaf_some (l : List Int) (h : l.length < 100000000000000) : proof_leaf.f l = some (0 :: l) := by
  simp only [proof_leaf.f, Option.bind_some]
  rw [if_pos (by simp; omega)]; rfl
theorem leafB_some (l : List Int) (h : l.length < 100000000000000) : kimberliteref07_LeafBytes.f l = some (0 :: l) := by
  simp only [kimberliteref07_LeafBytes.f, Option.bind_some]
  rw [if_pos (by simp; omega)]; rfl
theorem ev_Leaf (l : List Int) (h : l.length < 100000000000000) : Ev (fun k => proof_Leaf.f k l) (leafS l) := by
  unfold proof_Leaf.f
  simp only [leaf_some l h, Option.bind_some]
  exact Ev.bind (ev_Mix _ (by simp; omega)) (Ev.now _)
theorem ev_rLeaf (l : List Int) (h : l.length < 100000000000000) : Ev (fun k => kimberliteref07_Leaf.f k l) (leafS l) := by
  unfold kimberliteref07_Leaf.f
  simp only [leafB_some l h, Option.bind_some]
  exact Ev.bind (ev_rMix _ (by simp; omega)) (Ev.now _)
theorem node_some (a b : Int) (ha : okH a) (hb : okH b) : proof_node.f a b = some (nodeB a b) := by
  unfold proof_node.f
  rw [if_pos ⟨ha, hb⟩]; rfl
theorem nodeB_len (a b : Int) : (nodeB a b).length = 17 := by simp [nodeB, eights_len]
theorem ev_Node (a b : Int) (ha : okH a) (hb : okH b) : Ev (fun k => proof_Node.f k a b) (nodeS a b) := by
  unfold proof_Node.f
  simp only [node_some a b ha hb, Option.bind_some]
  exact Ev.bind (ev_Mix _ (by rw [nodeB_len]; omega)) (Ev.now _)
theorem ev_Eight_l : ∀ (d i : Nat) (n : Int) (x : List Int), i + d = 8 → x.length = i → okH n → Ev (fun k => kimberliteref07_Eight.l0 k n x (i : Int)) (x ++ eights d n)
  | 0, i, n, x, e, hx, hn => Ev.here fun k => by
      simp only [kimberliteref07_Eight.l0]
      rw [if_neg (by omega)]; simp [eights]
  | d + 1, i, n, x, e, hx, hn => by
      have h0 := hn.1
      have h1 := hn.2
      have ih := ev_Eight_l d (i + 1) (n / 256) (x ++ [n % 256]) (by omega) (by simp [hx]) ⟨by omega, by omega⟩
      rw [List.append_assoc] at ih
      refine Ev.step (fun k => ?_) ih
      simp only [kimberliteref07_Eight.l0]
      rw [if_pos (by omega), if_pos (by omega), w64 i (by omega), Int.tmod_eq_emod_of_nonneg hn.1, Int.tdiv_eq_ediv_of_nonneg hn.1, show n % 256 % 256 = n % 256 by omega, show IntKind.u64.wrap (n / 256) = n / 256 by rw [IntKind.wrap_u64]; omega]
theorem ev_Eight (n : Int) (hn : okH n) : Ev (fun k => kimberliteref07_Eight.f k n) (eights 8 n) := ev_Eight_l 8 0 n [] rfl rfl hn
theorem ev_NodeBytes (a b : Int) (ha : okH a) (hb : okH b) : Ev (fun k => kimberliteref07_NodeBytes.f k a b) (nodeB a b) := by
  unfold kimberliteref07_NodeBytes.f
  simp only [Option.bind_some]
  refine Ev.bind (ev_Eight a ha) ?_
  rw [show (fun n => _) = fun n => _ from rfl]
  simp only [eights_len, List.length_cons, List.length_nil, List.length_append, if_pos (show 0 + 1 + 8 < 140737488355328 by omega)]
  refine Ev.bind (ev_Eight b hb) ?_
  simp only [eights_len, if_pos (show 0 + 1 + 8 + 8 < 140737488355328 by omega)]
  exact Ev.now _
theorem ev_rNode (a b : Int) (ha : okH a) (hb : okH b) : Ev (fun k => kimberliteref07_Node.f k a b) (nodeS a b) := by
  unfold kimberliteref07_Node.f
  refine Ev.bind (ev_NodeBytes a b ha hb) ?_
  exact Ev.bind (ev_rMix _ (by rw [nodeB_len]; omega)) (Ev.now _)
/-- The greatest power of two below n. -/
def hlf : Nat → Nat → Nat → Nat
  | 0, _, k => k
  | f + 1, n, k => if 2 * k < n then hlf f n (2 * k) else k
def half (n : Nat) : Nat := hlf n n 1
theorem hlf_lt : ∀ (f n k : Nat), 1 ≤ k → k < n → 1 ≤ hlf f n k ∧ hlf f n k < n
  | 0, n, k, h1, h2 => ⟨h1, h2⟩
  | f + 1, n, k, h1, h2 => by
    simp only [hlf]
    split
    · exact hlf_lt f n (2 * k) (by omega) (by omega)
    · exact ⟨h1, h2⟩
theorem half_lt (n : Nat) (h : 2 ≤ n) : 1 ≤ half n ∧ half n < n := hlf_lt n n 1 (by omega) (by omega)
theorem ev_part_l (n : Nat) (hn : n < 1000000000) : ∀ (f k : Nat), 1 ≤ k → k < n → n ≤ k * 2 ^ f → Ev (fun q => proof_part.l0 q (n : Int) (k : Int)) ((hlf f n k : Nat) : Int)
  | 0, k, h1, h2, h3 => by omega
  | f + 1, k, h1, h2, h3 => by
    by_cases c : 2 * k < n
    · have ih := ev_part_l n hn f (2 * k) (by omega) c (by rw [Nat.pow_succ, Nat.mul_comm (2 ^ f) 2, ← Nat.mul_assoc, Nat.mul_comm k 2] at h3; exact h3)
      simp only [hlf, if_pos c]
      refine Ev.step (fun q => ?_) ih
      simp only [proof_part.l0]
      rw [show wrap64 (2 * (k : Int)) = ((2 * k : Nat) : Int) by unfold wrap64; omega, show wrap64 ((k : Int) * 2) = ((2 * k : Nat) : Int) by unfold wrap64; omega, if_pos (by omega)]
    · simp only [hlf, if_neg c]
      exact Ev.here fun q => by
        simp only [proof_part.l0]
        rw [show wrap64 (2 * (k : Int)) = ((2 * k : Nat) : Int) by unfold wrap64; omega, if_neg (by omega)]
theorem ev_part (n : Nat) (h2 : 2 ≤ n) (hn : n < 1000000000) : Ev (fun q => proof_part.f q (n : Int)) ((half n : Nat) : Int) :=
  ev_part_l n hn n 1 (by omega) (by omega) (by rw [Nat.one_mul]; exact Nat.le_of_lt Nat.lt_two_pow_self)
theorem ev_half_l (n : Nat) (hn : n < 1000000000) : ∀ (f k : Nat), 1 ≤ k → k < n → n ≤ k * 2 ^ f → Ev (fun q => kimberliteref07_half.l0 q (n : Int) (k : Int)) ((hlf f n k : Nat) : Int)
  | 0, k, h1, h2, h3 => by omega
  | f + 1, k, h1, h2, h3 => by
    by_cases c : 2 * k < n
    · have ih := ev_half_l n hn f (2 * k) (by omega) c (by rw [Nat.pow_succ, Nat.mul_comm (2 ^ f) 2, ← Nat.mul_assoc, Nat.mul_comm k 2] at h3; exact h3)
      simp only [hlf, if_pos c]
      refine Ev.step (fun q => ?_) ih
      simp only [kimberliteref07_half.l0]
      rw [show wrap64 (2 * (k : Int)) = ((2 * k : Nat) : Int) by unfold wrap64; omega, if_pos (by omega)]
    · simp only [hlf, if_neg c]
      exact Ev.here fun q => by
        simp only [kimberliteref07_half.l0]
        rw [show wrap64 (2 * (k : Int)) = ((2 * k : Nat) : Int) by unfold wrap64; omega, if_neg (by omega)]
theorem ev_half (n : Nat) (h2 : 2 ≤ n) (hn : n < 1000000000) : Ev (fun q => kimberliteref07_half.f q (n : Int)) ((half n : Nat) : Int) :=
  ev_half_l n hn n 1 (by omega) (by omega) (by rw [Nat.one_mul]; exact Nat.le_of_lt Nat.lt_two_pow_self)
/-- The root of leaves. -/
def top (l : List Int) : Int :=
  if h : l.length < 2 then l.headD 0 else nodeS (top (l.take (half l.length))) (top (l.drop (half l.length)))
termination_by l.length
decreasing_by
  · have := half_lt l.length (by omega); rw [List.length_take]; omega
  · have := half_lt l.length (by omega); rw [List.length_drop]; omega
theorem top_ok (l : List Int) (h : ∀ x ∈ l, okH x) : okH (top l) := by
  rw [top]
  split
  · cases l with
    | nil => exact ⟨by decide, by decide⟩
    | cons x l => exact h x List.mem_cons_self
  · exact mix_ok _
theorem ev_root : ∀ (n : Nat) (l : List Int), l.length ≤ n → l.length < 1000000000 → (∀ x ∈ l, okH x) → Ev (fun k => proof_root.f k l) (top l)
  | 0, l, h, _, _ => by
    have : l = [] := List.eq_nil_of_length_eq_zero (by omega)
    subst this
    rw [top]; exact Ev.here fun k => by simp only [proof_root.f]; rw [if_pos (by simp)]; rfl
  | n + 1, l, h, hb, hx => by
    rw [top]
    by_cases c : l.length < 2
    · rw [dif_pos c]
      match l, c with
      | [], _ => exact Ev.here fun k => by simp only [proof_root.f]; rw [if_pos (by simp)]; rfl
      | [x], _ => exact Ev.here fun k => by simp only [proof_root.f]; rw [if_neg (by simp), if_pos (by simp), if_pos (by simp)]; rfl
    · rw [dif_neg c]
      have hl := half_lt l.length (by omega)
      have h1 := ev_root n (l.take (half l.length)) (by rw [List.length_take]; omega) (by rw [List.length_take]; omega) (fun x hm => hx x (List.mem_of_mem_take hm))
      have h2 := ev_root n (l.drop (half l.length)) (by rw [List.length_drop]; omega) (by rw [List.length_drop]; omega) (fun x hm => hx x (List.mem_of_mem_drop hm))
      have hn := ev_Node _ _ (top_ok _ (fun x hm => hx x (List.mem_of_mem_take (l := l) (i := half l.length) hm))) (top_ok _ (fun x hm => hx x (List.mem_of_mem_drop (l := l) (i := half l.length) hm)))
      refine Ev.step (fun k => by simp only [proof_root.f]; rw [if_neg (by omega), if_neg (by omega)]) (Ev.bind (ev_part l.length (by omega) hb) ?_)
      simp only [if_pos (show (0 : Int) ≤ ((half l.length : Nat) : Int) by omega), if_pos (show ((half l.length : Nat) : Int) ≤ (l.length : Int) by omega), Int.toNat_natCast]
      exact Ev.bind h1 (Ev.bind h2 (Ev.bind hn (Ev.now _)))
theorem leafs_ok (l : List (List Int)) : ∀ x ∈ l.map leafS, okH x := fun x hx => by
  obtain ⟨y, _, rfl⟩ := List.mem_map.1 hx
  exact mix_ok _
theorem ev_Top : ∀ (n : Nat) (l : List (List Int)), l.length ≤ n → l.length < 1000000000 → (∀ x ∈ l, x.length < 100000000000000) → Ev (fun k => kimberliteref07_Top.f k l) (top (l.map leafS))
  | 0, l, h, _, _ => by
    have : l = [] := List.eq_nil_of_length_eq_zero (by omega)
    subst this
    rw [top]; exact Ev.here fun k => by simp only [kimberliteref07_Top.f]; rw [if_pos (by simp)]; rfl
  | n + 1, l, h, hb, hx => by
    rw [top, List.length_map]
    by_cases c : l.length < 2
    · rw [dif_pos c]
      match l, c, hx with
      | [], _, _ => exact Ev.here fun k => by simp only [kimberliteref07_Top.f]; rw [if_pos (by simp)]; rfl
      | [x], _, hx =>
        refine Ev.step (fun k => by simp only [kimberliteref07_Top.f]; rw [if_neg (by simp), if_pos (by simp), if_pos (by simp)]; rfl) (Ev.bind (ev_rLeaf x (hx x List.mem_cons_self)) (Ev.now _))
    · rw [dif_neg c]
      have hl := half_lt l.length (by omega)
      have h1 := ev_Top n (l.take (half l.length)) (by rw [List.length_take]; omega) (by rw [List.length_take]; omega) (fun x hm => hx x (List.mem_of_mem_take hm))
      have h2 := ev_Top n (l.drop (half l.length)) (by rw [List.length_drop]; omega) (by rw [List.length_drop]; omega) (fun x hm => hx x (List.mem_of_mem_drop hm))
      rw [List.map_take] at h1
      rw [List.map_drop] at h2
      have hn := ev_rNode _ _ (top_ok ((l.map leafS).take (half l.length)) (fun x hm => leafs_ok l x (List.mem_of_mem_take hm))) (top_ok ((l.map leafS).drop (half l.length)) (fun x hm => leafs_ok l x (List.mem_of_mem_drop hm)))
      refine Ev.step (fun k => by simp only [kimberliteref07_Top.f]; rw [if_neg (by omega), if_neg (by omega)]) (Ev.bind (ev_half l.length (by omega) hb) ?_)
      simp only [if_pos (show (0 : Int) ≤ ((half l.length : Nat) : Int) by omega), if_pos (show ((half l.length : Nat) : Int) ≤ (l.length : Int) by omega), Int.toNat_natCast]
      exact Ev.bind h1 (Ev.bind h2 (Ev.bind hn (Ev.now _)))
/-- What is let by as few. -/
theorem few_ev (l : List (List Int)) : ∃ b, Ev (fun k => kimberlitelaw07_few.f k l) b ∧ (b = true → l.length ≤ 100 ∧ ∀ x ∈ l, x.length ≤ 400) := by
  have h : ∀ (d i : Nat), i + d = 100 → (∀ j (hj : j < l.length), j < i → l[j].length ≤ 400) → ∃ b, Ev (fun k => kimberlitelaw07_few.l0 k l (i : Int)) b ∧ (b = true → l.length ≤ 100 ∧ ∀ x ∈ l, x.length ≤ 400) := by
    intro d
    induction d with
    | zero =>
      intro i hi hb
      by_cases c : i < l.length
      · exact ⟨false, Ev.here fun k => by simp only [kimberlitelaw07_few.l0]; rw [if_pos (by omega), if_pos (by omega)], fun h => by cases h⟩
      · refine ⟨true, Ev.here fun k => by simp only [kimberlitelaw07_few.l0]; rw [if_neg (by omega)], fun _ => ⟨by omega, fun x hx => ?_⟩⟩
        obtain ⟨j, hj, rfl⟩ := List.mem_iff_getElem.1 hx
        exact hb j hj (by omega)
    | succ d ih =>
      intro i hi hb
      by_cases c : i < l.length
      · by_cases c2 : i ≥ 100
        · exact ⟨false, Ev.here fun k => by simp only [kimberlitelaw07_few.l0]; rw [if_pos (by omega), if_pos (by omega)], fun h => by cases h⟩
        · by_cases c3 : l[i].length > 400
          · exact ⟨false, Ev.here fun k => by simp only [kimberlitelaw07_few.l0]; rw [if_pos (by omega), if_neg (by omega), if_pos (by omega), rdL_at l i c, if_pos (by omega)], fun h => by cases h⟩
          · obtain ⟨b, h1, h2⟩ := ih (i + 1) (by omega) (fun j hj hji => by
              rcases Nat.lt_or_ge j i with g | g
              · exact hb j hj g
              · have : j = i := by omega
                subst this; omega)
            exact ⟨b, Ev.step (fun k => by simp only [kimberlitelaw07_few.l0]; rw [if_pos (by omega), if_neg (by omega), if_pos (by omega), rdL_at l i c, if_neg (by omega), w64 i (by omega)]) h1, h2⟩
      · refine ⟨true, Ev.here fun k => by simp only [kimberlitelaw07_few.l0]; rw [if_neg (by omega)], fun _ => ⟨by omega, fun x hx => ?_⟩⟩
        obtain ⟨j, hj, rfl⟩ := List.mem_iff_getElem.1 hx
        exact hb j hj (by omega)
  exact h 100 0 rfl (fun j _ hj => by omega)
theorem alive_ev : Ev (fun k => (kimberlitelaw07_alive.f k).bind fun t => some t) true := Ev.here fun k => rfl
/-- A list of entries that is let by: its errors. -/
def listE (l : List (List Int)) : Int := if l.length > 4096 then 3 else if l.all (fun x => decide (x.length ≤ 256)) = true then 0 else 3
theorem ev_List (l : List (List Int)) : Ev (fun k => kimberliteref07_List.f k l) (listE l) := by
  unfold kimberliteref07_List.f listE
  by_cases c : l.length > 4096
  · simp only [if_pos (show (l.length : Int) > 4096 by omega), if_pos c]; exact Ev.now _
  · simp only [if_neg (show ¬ (l.length : Int) > 4096 by omega), if_neg c]
    have h : ∀ (d i : Nat), i + d = l.length → Ev (fun k => kimberliteref07_List.l0 k l (i : Int)) (if (l.drop i).all (fun x => decide (x.length ≤ 256)) = true then 0 else 3) := by
      intro d
      induction d with
      | zero =>
        intro i hi
        rw [List.drop_of_length_le (by omega)]
        exact Ev.here fun k => by simp only [kimberliteref07_List.l0]; rw [if_neg (by omega)]; rfl
      | succ d ih =>
        intro i hi
        have hl : i < l.length := by omega
        rw [List.drop_eq_getElem_cons hl, List.all_cons]
        by_cases c3 : l[i].length > 256
        · rw [decide_eq_false (by omega)]
          exact Ev.here fun k => by simp only [kimberliteref07_List.l0]; rw [if_pos (by omega), if_pos (by omega), rdL_at l i hl, if_pos (by omega)]; rfl
        · rw [decide_eq_true (by omega), Bool.true_and]
          exact Ev.step (fun k => by simp only [kimberliteref07_List.l0]; rw [if_pos (by omega), if_pos (by omega), rdL_at l i hl, if_neg (by omega), w64 i (by omega)]) (ih (i + 1) (by omega))
    have := h l.length 0 (by omega)
    rw [List.drop_zero] at this; exact this
theorem ev_listed (l : List (List Int)) : Ev (fun k => proof_listed.f k l) (if listE l = 0 then l.map leafS else [], listE l) := by
  unfold proof_listed.f listE
  by_cases c : l.length > 4096
  · simp only [if_pos (show (l.length : Int) > 4096 by omega), if_pos c]; exact Ev.now _
  · simp only [if_neg (show ¬ (l.length : Int) > 4096 by omega), if_neg c]
    have h : ∀ (d i : Nat) (x : List Int), i + d = l.length → x.length = i → Ev (fun k => proof_listed.l0 k x l (l.length : Int) (i : Int)) (if (if (l.drop i).all (fun x => decide (x.length ≤ 256)) = true then (0 : Int) else 3) = 0 then x ++ (l.drop i).map leafS else [], if (l.drop i).all (fun x => decide (x.length ≤ 256)) = true then 0 else 3) := by
      intro d
      induction d with
      | zero =>
        intro i x hi hx
        rw [List.drop_of_length_le (by omega)]
        exact Ev.here fun k => by simp only [proof_listed.l0]; rw [if_neg (by omega)]; simp
      | succ d ih =>
        intro i x hi hx
        have hl : i < l.length := by omega
        rw [List.drop_eq_getElem_cons hl, List.all_cons]
        by_cases c3 : l[i].length > 256
        · rw [decide_eq_false (by omega)]
          exact Ev.here fun k => by simp only [proof_listed.l0]; rw [if_pos (by omega), if_pos (by omega), if_pos (by omega), rdL_at l i hl, if_pos (by omega)]; rfl
        · rw [decide_eq_true (by omega), Bool.true_and]
          have ih := ih (i + 1) (x ++ [leafS l[i]]) (by omega) (by simp [hx])
          rw [List.append_assoc] at ih
          refine Ev.step (f := fun k => (proof_Leaf.f k l[i]).bind fun t317 => proof_listed.l0 k (x ++ [t317]) l (l.length : Int) ((i + 1 : Nat) : Int)) (fun k => ?_) (Ev.bind (ev_Leaf l[i] (by omega)) ih)
          simp only [proof_listed.l0]
          rw [if_pos (by omega), if_pos (by omega), if_pos (by omega), rdL_at l i hl, if_neg (by omega), w64 i (by omega)]
          simp only [if_pos (show x.length < 17592186044416 by omega)]
    have := h l.length 0 [] (by omega) rfl
    rw [List.drop_zero, List.nil_append] at this; exact this
theorem listE_zero {l : List (List Int)} : listE l = 0 ↔ l.length ≤ 4096 ∧ ∀ x ∈ l, x.length ≤ 256 := by
  unfold listE
  constructor
  · intro h
    split at h
    · omega
    · split at h
      · rename_i h1 h2
        exact ⟨by omega, fun x hx => by have := List.all_eq_true.1 h2 x hx; simpa using this⟩
      · omega
  · rintro ⟨h1, h2⟩
    rw [if_neg (by omega), if_pos (List.all_eq_true.2 fun x hx => by simpa using h2 x hx)]
def rootS (l : List (List Int)) : Int := if listE l = 0 then top (l.map leafS) else 0
end Go.Proofs.Ytacjdoekgmmfoaa.PL
