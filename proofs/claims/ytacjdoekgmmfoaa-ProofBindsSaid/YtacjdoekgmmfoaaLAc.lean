/-
  Accusations: the first collision on two ways; what the program and the specification answer.
-/
import Derived.Test.YtacjdoekgmmfoaaLJd
import Derived.Test.YtacjdoekgmmfoaaPLx8
namespace Go.Proofs.Ytacjdoekgmmfoaa.PL
open Go.RowKit Go.Proofs.YtacjdoekgmmfoaaW.PrintWords Go.Proofs.YtacjdoekgmmfoaaW.PrintLast Go.Proofs.YtacjdoekgmmfoaaW.PrintMore
set_option linter.unusedVariables false
set_option linter.unusedSimpArgs false
def byteL (l : List Int) : Prop := ∀ x ∈ l, 0 ≤ x ∧ x < 256
theorem wf_u8' {n : Int} (h : (Lit.int .u8 n).wf = true) : 0 ≤ n ∧ n < 256 := by
  have : 0 ≤ n ∧ n ≤ 255 := by simpa [Lit.wf, IntKind.min, IntKind.max, IntKind.signed, IntKind.bits] using h
  omega
theorem str_list (l : List Int) : (strOfNums l).toList = l.map fun n => UInt8.ofNat n.toNat := by
  rw [ByteArray.toList_eq]; rfl
theorem str_inj : ∀ {a b : List Int}, byteL a → byteL b → (strOfNums a).toList = (strOfNums b).toList → a = b
  | [], [], _, _, _ => rfl
  | [], y :: b, _, _, h => by rw [str_list, str_list] at h; cases h
  | x :: a, [], _, _, h => by rw [str_list, str_list] at h; cases h
  | x :: a, y :: b, ha, hb, h => by
    rw [str_list, str_list, List.map_cons, List.map_cons] at h
    injection h with h1 h2
    have hx := ha x List.mem_cons_self
    have hy := hb y List.mem_cons_self
    have e := congrArg UInt8.toNat h1
    rw [UInt8.toNat_ofNat', UInt8.toNat_ofNat'] at e
    have : x = y := by omega
    rw [this, str_inj (fun z hz => ha z (List.mem_cons_of_mem _ hz)) (fun z hz => hb z (List.mem_cons_of_mem _ hz)) (by rw [str_list, str_list]; exact h2)]
theorem str_iff {a b : List Int} (ha : byteL a) (hb : byteL b) : (strOfNums a).toList = (strOfNums b).toList ↔ a = b := ⟨str_inj ha hb, fun h => by rw [h]⟩
theorem eights_byte : ∀ (k : Nat) (n : Int), byteL (eights k n)
  | 0, n => fun x hx => by simp [eights] at hx
  | k + 1, n => fun x hx => by
    rw [eights, List.mem_cons] at hx
    rcases hx with rfl | hx
    · exact ⟨by omega, by omega⟩
    · exact eights_byte k _ x hx
theorem eights_inj : ∀ (k : Nat) (a b : Int), 0 ≤ a → 0 ≤ b → a < 256 ^ k → b < 256 ^ k → eights k a = eights k b → a = b
  | 0, a, b, h1, h2, h3, h4, _ => by simp at h3 h4; omega
  | k + 1, a, b, h1, h2, h3, h4, h => by
    rw [eights, eights] at h
    injection h with e1 e2
    have e3 : (256 : Int) ^ (k + 1) = 256 ^ k * 256 := Int.pow_succ _ _
    rw [e3] at h3 h4
    have := eights_inj k (a / 256) (b / 256) (by omega) (by omega) (by omega) (by omega) e2
    omega
theorem nodeB_byte (a b : Int) : byteL (nodeB a b) := fun x hx => by
  rw [nodeB, List.mem_cons, List.mem_append] at hx
  rcases hx with rfl | hx | hx
  · exact ⟨by decide, by decide⟩
  · exact eights_byte _ _ x hx
  · exact eights_byte _ _ x hx
theorem nodeB_inj {a b c d : Int} (ha : okH a) (hb : okH b) (hc : okH c) (hd : okH d) (h : nodeB a b = nodeB c d) : a = c ∧ b = d := by
  unfold nodeB at h
  injection h with _ h
  have hl : (eights 8 a).length = (eights 8 c).length := by rw [eights_len, eights_len]
  obtain ⟨e1, e2⟩ := List.append_inj h hl
  have q : (256 : Int) ^ 8 = 18446744073709551616 := by decide
  exact ⟨eights_inj 8 a c ha.1 hc.1 (by rw [q]; exact ha.2) (by rw [q]; exact hc.2) e1, eights_inj 8 b d hb.1 hd.1 (by rw [q]; exact hb.2) (by rw [q]; exact hd.2) e2⟩
theorem sbytes_byte (h : Int) (s : S54) : byteL (sbytes h s) := by unfold sbytes; split <;> exact nodeB_byte _ _
theorem sbytes_inj {h h' : Int} {s t : S54} (h1 : okH h) (h2 : okH h') (hs : okH s.f0) (ht : okH t.f0) (hf : s.f1 = t.f1) (e : sbytes h s = sbytes h' t) : h = h' := by
  unfold sbytes at e
  rw [hf] at e
  by_cases c : t.f1 = true
  · rw [if_pos c, if_pos c] at e; exact (nodeB_inj hs h1 ht h2 e).2
  · rw [if_neg c, if_neg c] at e; exact (nodeB_inj h1 hs h2 ht e).1
/-- The first two byte strings on two ways that differ and have one hash. -/
def accL : List Int → List Int → List S54 → List S54 → Option (List Int × List Int)
  | a, b, [], _ => if a ≠ b ∧ mixS a = mixS b then some (a, b) else none
  | a, b, _ :: _, [] => if a ≠ b ∧ mixS a = mixS b then some (a, b) else none
  | a, b, s :: ss, t :: tt => if a ≠ b ∧ mixS a = mixS b then some (a, b) else accL (sbytes (mixS a) s) (sbytes (mixS b) t) ss tt
theorem acc_some : ∀ (ss tt : List S54) (a b : List Int), ss.map S54.f1 = tt.map S54.f1 → (∀ s ∈ ss, okH s.f0) → (∀ s ∈ tt, okH s.f0) → a ≠ b → ss.foldl fstep (mixS a) = tt.foldl fstep (mixS b) →
    ∃ r, accL a b ss tt = some r ∧ r.1 ≠ r.2 ∧ mixS r.1 = mixS r.2 ∧ r.1 ∈ lv a ss ∧ r.2 ∈ lv b tt
  | [], [], a, b, _, _, _, hne, hf => ⟨(a, b), by rw [accL, if_pos ⟨hne, hf⟩], hne, hf, List.mem_cons_self, List.mem_cons_self⟩
  | [], t :: tt, a, b, hm, _, _, _, _ => by cases hm
  | s :: ss, [], a, b, hm, _, _, _, _ => by cases hm
  | s :: ss, t :: tt, a, b, hm, hs, ht, hne, hf => by
    by_cases c : mixS a = mixS b
    · exact ⟨(a, b), by rw [accL, if_pos ⟨hne, c⟩], hne, c, List.mem_cons_self, List.mem_cons_self⟩
    · injection hm with hm1 hm2
      have hn : sbytes (mixS a) s ≠ sbytes (mixS b) t := fun e => c (sbytes_inj (mix_ok a) (mix_ok b) (hs s List.mem_cons_self) (ht t List.mem_cons_self) hm1 e)
      obtain ⟨r, h1, h2, h3, h4, h5⟩ := acc_some ss tt _ _ hm2 (fun x hx => hs x (List.mem_cons_of_mem _ hx)) (fun x hx => ht x (List.mem_cons_of_mem _ hx)) hn hf
      exact ⟨r, by rw [accL, if_neg (fun q => c q.2)]; exact h1, h2, h3, List.mem_cons_of_mem _ h4, List.mem_cons_of_mem _ h5⟩
/-- What Accuse answers. -/
def accS (i n : Int) (one : List Int) (s1 : List S54) (two : List Int) (s2 : List S54) : List Int × List Int × Int :=
  if 1 ≤ n ∧ n ≤ 4096 ∧ 0 ≤ i ∧ i < n then
    (if one.length > 256 ∨ two.length > 256 then ([], [], 3)
     else if one = two ∨ fitsS i.toNat n.toNat s1 = false ∨ fitsS i.toNat n.toNat s2 = false ∨ followS one s1 ≠ followS two s2 then ([], [], 11)
     else match accL (0 :: one) (0 :: two) s1 s2 with
       | some r => (r.1, r.2, 0)
       | none => ([], [], 11))
  else ([], [], 2)
theorem acc_fits {i n : Nat} {s1 s2 : List S54} (h1 : fitsS i n s1 = true) (h2 : fitsS i n s2 = true) : s1.map S54.f1 = s2.map S54.f1 := by
  unfold fitsS at h1 h2
  rw [← beq_iff_eq.1 h1, beq_iff_eq.1 h2]
/-- The program's search. -/
theorem ev_acc_l (s1 s2 : List S54) (hl : s1.length = s2.length) (hn : s1.length < 1000000) (h1 : ∀ s ∈ s1, okH s.f0) (h2 : ∀ s ∈ s2, okH s.f0) : ∀ (d j : Nat) (a b : List Int) (r : List Int × List Int), j + d = s1.length → byteL a → byteL b → a ≠ b → a.length < 1000000 → b.length < 1000000 → (s1.drop j).map S54.f1 = (s2.drop j).map S54.f1 → accL a b (s1.drop j) (s2.drop j) = some r →
    Ev (fun k => proof_Accuse.l0 k s1 s2 a b (j : Int)) (r.1, r.2, 0) := by
  intro d
  induction d with
  | zero =>
    intro j a b r hj ha hb hne hla hlb hm hr
    have e1 : s1.drop j = [] := List.drop_of_length_le (by omega)
    rw [e1, accL] at hr
    by_cases c : a ≠ b ∧ mixS a = mixS b
    · rw [if_pos c] at hr
      injection hr with hr
      subst hr
      refine Ev.step (fun k => by simp only [proof_Accuse.l0]; rfl) (Ev.bind (ev_Mix a (by omega)) (Ev.bind (ev_Mix b (by omega)) ?_))
      simp only [if_pos c.2]
      refine Ev.here fun k => ?_
      simp only [proof_Accuse.j3]
      rw [if_neg (by rw [beq_iff_eq, str_iff ha hb]; exact hne)]
    · rw [if_neg c] at hr; cases hr
  | succ d ih =>
    intro j a b r hj ha hb hne hla hlb hm hr
    have hj1 : j < s1.length := by omega
    have hj2 : j < s2.length := by omega
    rw [List.drop_eq_getElem_cons hj1, List.drop_eq_getElem_cons hj2, accL] at hr
    rw [List.drop_eq_getElem_cons hj1, List.drop_eq_getElem_cons hj2, List.map_cons, List.map_cons] at hm
    injection hm with hm1 hm2
    refine Ev.step (fun k => by simp only [proof_Accuse.l0]; rfl) (Ev.bind (ev_Mix a (by omega)) (Ev.bind (ev_Mix b (by omega)) ?_))
    by_cases c : a ≠ b ∧ mixS a = mixS b
    · rw [if_pos c] at hr
      injection hr with hr
      subst hr
      simp only [if_pos c.2]
      refine Ev.here fun k => ?_
      simp only [proof_Accuse.j3]
      rw [if_neg (by rw [beq_iff_eq, str_iff ha hb]; exact hne)]
    · rw [if_neg c] at hr
      have c2 : ¬ mixS a = mixS b := fun q => c ⟨hne, q⟩
      simp only [if_neg c2]
      have hs1 := h1 _ (List.getElem_mem hj1)
      have hs2 := h2 _ (List.getElem_mem hj2)
      have hne' : sbytes (mixS a) s1[j] ≠ sbytes (mixS b) s2[j] := fun e => c2 (sbytes_inj (mix_ok a) (mix_ok b) hs1 hs2 hm1 e)
      have ih' := ih (j + 1) (sbytes (mixS a) s1[j]) (sbytes (mixS b) s2[j]) r (by omega) (sbytes_byte _ _) (sbytes_byte _ _) hne' (by rw [sbytes_len]; omega) (by rw [sbytes_len]; omega) hm2 hr
      refine Ev.step (fun k => by simp only [proof_Accuse.j3]; rw [if_pos trivial]) (Ev.bind (ev_Mix a (by omega)) ?_)
      simp only [if_pos (show (0 : Int) ≤ (j : Int) by omega), if_pos (show (j : Int) < (s1.length : Int) by omega), if_pos (show (j : Int) < (s2.length : Int) by omega), rdT_at s1 j hj1, rdT_at s2 j hj2, mixed_some _ _ (mix_ok a) hs1, Option.bind_some]
      refine Ev.bind (ev_Mix b (by omega)) ?_
      simp only [mixed_some _ _ (mix_ok b) hs2, Option.bind_some, w64 j (by omega)]
      exact ih'
theorem lv_byte : ∀ (ss : List S54) (b : List Int), byteL b → b.length < 1000000 → ∀ x ∈ lv b ss, byteL x ∧ x.length < 1000000
  | [], b, hb, hl, x, hx => by rw [lv, List.mem_singleton] at hx; subst hx; exact ⟨hb, hl⟩
  | s :: ss, b, hb, hl, x, hx => by
    rw [lv, List.mem_cons] at hx
    rcases hx with rfl | hx
    · exact ⟨hb, hl⟩
    · exact lv_byte ss _ (sbytes_byte _ _) (by rw [sbytes_len]; omega) x hx
theorem byte_leaf {l : List Int} (h : byteL l) : byteL (0 :: l) := fun x hx => by
  rcases List.mem_cons.1 hx with rfl | hx
  · exact ⟨by decide, by decide⟩
  · exact h x hx
theorem ev_Accuse (i n : Int) (one : List Int) (s1 : List S54) (two : List Int) (s2 : List S54) (h1 : byteL one) (h2 : byteL two) (l1 : s1.length < 1000000) (l2 : s2.length < 1000000) (o1 : ∀ s ∈ s1, okH s.f0) (o2 : ∀ s ∈ s2, okH s.f0) :
    Ev (fun k => proof_Accuse.f k i n one s1 two s2) (accS i n one s1 two s2) := by
  unfold proof_Accuse.f accS
  simp only [sized_some, Option.bind_some]
  by_cases c : 1 ≤ n ∧ n ≤ 4096 ∧ 0 ≤ i ∧ i < n
  · simp only [if_pos c, decide_eq_true c, if_true]
    have hlong : Ev (fun k => proof_Accuse.j0 k i n one s1 two s2 true) (([], [], 3) : List Int × List Int × Int) := Ev.here fun k => by simp only [proof_Accuse.j0]; rw [if_pos trivial]
    by_cases d1 : one.length > 256
    · simp only [if_pos (show (one.length : Int) > 256 by omega), if_pos (show one.length > 256 ∨ two.length > 256 from Or.inl d1)]; exact hlong
    · simp only [if_neg (show ¬ (one.length : Int) > 256 by omega)]
      by_cases d2 : two.length > 256
      · simp only [decide_eq_true (show (two.length : Int) > 256 by omega), if_pos (show one.length > 256 ∨ two.length > 256 from Or.inr d2)]; exact hlong
      · simp only [decide_eq_false (show ¬ (two.length : Int) > 256 by omega), if_neg (show ¬ (one.length > 256 ∨ two.length > 256) by omega)]
        have hno : Ev (fun k => proof_Accuse.j1 k one s1 two s2 true) (([], [], 11) : List Int × List Int × Int) := Ev.here fun k => by simp only [proof_Accuse.j1]; rw [if_pos trivial]
        have hf1 := ev_fits i.toNat n.toNat s1 (by omega) (by omega)
        have hf2 := ev_fits i.toNat n.toNat s2 (by omega) (by omega)
        rw [show ((i.toNat : Nat) : Int) = i by omega, show ((n.toNat : Nat) : Int) = n by omega] at hf1 hf2
        by_cases e : one = two
        · rw [if_pos (Or.inl e)]
          refine Ev.step (fun k => by simp only [proof_Accuse.j0]; rw [if_neg (by decide), if_pos (by rw [e])]) hno
        · refine Ev.step (fun k => by simp only [proof_Accuse.j0]; rw [if_neg (by decide), if_neg (fun q => e ((str_iff h1 h2).1 q))]) (Ev.bind hf1 ?_)
          cases g1 : fitsS i.toNat n.toNat s1 with
          | false => simpa using hno
          | true =>
            simp only [if_true]
            refine Ev.bind hf2 ?_
            cases g2 : fitsS i.toNat n.toNat s2 with
            | false => simpa using hno
            | true =>
              simp only [if_true]
              refine Ev.bind (ev_Follow one s1 (by omega) l1 o1) (Ev.bind (ev_Follow two s2 (by omega) l2 o2) ?_)
              by_cases f : followS one s1 = followS two s2
              · rw [if_neg (by simp [e, f])]
                simp only [bne_eq_false_iff_eq.mpr f]
                have hm := acc_fits g1 g2
                obtain ⟨r, q1, _, _, _, _⟩ := acc_some s1 s2 (0 :: one) (0 :: two) hm o1 o2 (fun q => e (by injection q)) f
                rw [q1]
                have hl : s1.length = s2.length := by have := congrArg List.length hm; simpa using this
                refine Ev.step (fun k => by simp only [proof_Accuse.j1]; rw [if_neg (by decide), leaf_some one (by omega), leaf_some two (by omega)]) ?_
                exact ev_acc_l s1 s2 hl l1 o1 o2 s1.length 0 (0 :: one) (0 :: two) r (by omega) (byte_leaf h1) (byte_leaf h2) (fun q => e (by injection q)) (by simp; omega) (by simp; omega) (by simpa using hm) (by simpa using q1)
              · rw [if_pos (Or.inr (Or.inr (Or.inr f)))]
                simp only [bne_iff_ne.mpr f]; exact hno
  · simp only [if_neg c, decide_eq_false c]
    simpa using Ev.now (([], [], 2) : List Int × List Int × Int)
end Go.Proofs.Ytacjdoekgmmfoaa.PL
