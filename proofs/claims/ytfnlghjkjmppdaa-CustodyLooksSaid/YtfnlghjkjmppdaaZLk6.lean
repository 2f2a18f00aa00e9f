/-
  The texts that the theorem in YtfnlghjkjmppdaaZRowLk rests on, merged (part 7); only what it reaches.
-/
import Derived.Test.YtfnlghjkjmppdaaZLk3
import Derived.Test.YtfnlghjkjmppdaaZLk5
section
namespace Go.Proofs.Ytfnlghjkjmppdaa.PC
open Go.RowKit Go.Proofs.YtfnlghjkjmppdaaW.PrintWords Go.Proofs.YtfnlghjkjmppdaaW.PrintLast Go.Proofs.YtfnlghjkjmppdaaW.PrintMore
set_option linter.unusedVariables false
set_option linter.unusedSimpArgs false
def Ok1 (x : S39) : Prop := 0 ≤ x.f3 ∧ x.f3 ≤ 15 ∧ 1 ≤ x.f4 ∧ x.f4 < 65536 ∧ 1 ≤ x.f5 ∧ x.f5 ≤ 3 ∧ 0 ≤ x.f6 ∧ -1 ≤ x.f7 ∧ x.f7 ≤ 1048576
def Inv (G : List S39) : Prop := Tree G ∧ ∀ n, 1 ≤ n → n ≤ G.length → Ok1 (gr G n)
def servB (day : Int) (G : List S39) (p : Int) (n : Nat) : Bool := (bits .and .i64 p (wrap64 ((2 : Int) ^ (gr G n).f3.toNat)) != 0) && ((bits .and .i64 (gr G n).f5 1 != 0) && (stB day G n && !spB G n))
def keysS (day : Int) (G : List S39) (p : Int) : Nat → List S39
  | 0 => []
  | k + 1 => if servB day G p (k + 1) then keysS day G p k ++ [gr G (k + 1)] else keysS day G p k
def pairB (p : Int) (x y : S39) : Bool := (x.f2 != y.f2) && ((x.f3 != y.f3) || ((bits .and .i64 (bits .or .i64 x.f5 y.f5) 2 != 0) && (bits .andNot .i64 p (wrap64 ((2 : Int) ^ x.f3.toNat)) != 0)))
def innS (p : Int) (x : S39) (a : Int) (ys : List S39) : Int := ys.foldl (fun a y => if pairB p x y then bits .or .i64 a (bits .and .i64 x.f4 y.f4) else a) a
def outS (p : Int) (ks : List S39) : Nat → Int
  | 0 => 0
  | i + 1 => innS p (ks.getD i z39) (outS p ks i) (ks.take i)
def couldS (day : Int) (G : List S39) (p : Int) : Int := outS p (keysS day G p G.length) (keysS day G p G.length).length
theorem keysS_len (day : Int) (G : List S39) (p : Int) : ∀ k, (keysS day G p k).length ≤ k
  | 0 => Nat.le_refl _
  | k + 1 => by
    have := keysS_len day G p k
    unfold keysS
    split
    · rw [List.length_append]; simp; omega
    · omega
theorem keysS_mem {day : Int} {G : List S39} {p : Int} : ∀ {k : Nat} {x : S39}, x ∈ keysS day G p k → ∃ n, 1 ≤ n ∧ n ≤ k ∧ x = gr G n
  | 0, x, h => by simp [keysS] at h
  | k + 1, x, h => by
    unfold keysS at h
    split at h
    · rcases List.mem_append.1 h with h | h
      · obtain ⟨n, h1, h2, h3⟩ := keysS_mem h
        exact ⟨n, h1, by omega, h3⟩
      · simp at h
        exact ⟨k + 1, by omega, by omega, h⟩
    · obtain ⟨n, h1, h2, h3⟩ := keysS_mem h
      exact ⟨n, h1, by omega, h3⟩
theorem row_ad {w : World} {base : Nat} {F : Nat → Prop} {A : Option Addr} {c : Nat} {K : List S39} (h : Kd.R k39 39 w base F (.slice A K.length c) K) (hK : 0 < K.length) : ∃ b, A = some ⟨b, 0, none⟩ := by
  obtain ⟨inner, ho⟩ := Kd.R_own h
  rcases ho.2 with ⟨hv, h0⟩ | ⟨b, cap, cur, hv, _⟩
  · injection hv with h1 h2
    omega
  · injection hv with h1 h2 h3
    exact ⟨b, h1⟩
theorem row_cells {w : World} {base : Nat} {F : Nat → Prop} {b c : Nat} {K : List S39} (h : Kd.R k39 39 w base F (.slice (some ⟨b, 0, none⟩) K.length c) K) (m : Nat) (h2 : m < K.length) :
    w.cell? ⟨b, m * 9, none⟩ = some (.int .i64 (K.getD m z39).f0) ∧ w.cell? ⟨b, m * 9 + 1, none⟩ = some (.int .i64 (K.getD m z39).f1) ∧ w.cell? ⟨b, m * 9 + 2, none⟩ = some (.int .i64 (K.getD m z39).f2) ∧ w.cell? ⟨b, m * 9 + 3, none⟩ = some (.int .i64 (K.getD m z39).f3) ∧ w.cell? ⟨b, m * 9 + 4, none⟩ = some (.int .i64 (K.getD m z39).f4) ∧
      w.cell? ⟨b, m * 9 + 5, none⟩ = some (.int .i64 (K.getD m z39).f5) ∧ w.cell? ⟨b, m * 9 + 6, none⟩ = some (.int .i64 (K.getD m z39).f6) ∧ w.cell? ⟨b, m * 9 + 7, none⟩ = some (.int .i64 (K.getD m z39).f7) ∧ w.cell? ⟨b, m * 9 + 8, none⟩ = some (.bool (K.getD m z39).f8) := by
  obtain ⟨ad, e, q⟩ := at_T39 (Kd.R_reads' h).2.2 (m : Int) (by omega) (by omega)
  cases e
  unfold rd_T39 at q
  rw [Int.toNat_natCast, add_plain] at q
  exact q
theorem getD_mem {K : List S39} {m : Nat} (h : m < K.length) : K.getD m z39 ∈ K := by
  rw [List.getD_eq_getElem?_getD, List.getElem?_eq_getElem h]; exact List.getElem_mem h
theorem take39 (A : Option Addr) (n c i : Nat) (h1 : i ≤ n) (h2 : n ≤ c) (W : World) : (Instr.slice 33 (.slice A n c) none (some (.int .i64 (i : Int))) none).run Try.prog W = .ok (.slice A i c) W := by
  obtain ⟨ti, hi, hs9⟩ : ∃ ti, Try.prog.info? 39 = some ti ∧ ti.size = 9 := by
    have h := info39
    cases q : Try.prog.info? 39 with
    | none => rw [q] at h; simp at h
    | some ti => rw [q] at h; simp at h; exact ⟨ti, rfl, h.2.1⟩
  have hu : Try.prog.underlying 33 = some (.slice 39) := Try.underlying33
  have hel : Try.prog.elem 33 = 39 := by simp [Program.elem, hu]
  have ha : (A.map fun x => x.add 0) = A := by cases A <;> simp [Addr.add]
  rw [run_slice_h W 33 A n c (by rw [hel]; exact hu) .i64 (i : Int) (by omega) (by omega), hel]
  simp [sizeOf, typeInfo, hi, sliced, Result.andThen, ha]
theorem innS_snoc (p : Int) (x : S39) (a : Int) (K : List S39) (j : Nat) (h : j < K.length) : innS p x a (K.take (j + 1)) = if pairB p x (K.getD j z39) then bits .or .i64 (innS p x a (K.take j)) (bits .and .i64 x.f4 (K.getD j z39).f4) else innS p x a (K.take j) := by
  unfold innS
  rw [List.take_succ_eq_append_getElem h, List.foldl_append, List.getD_eq_getElem?_getD, List.getElem?_eq_getElem h]; rfl
theorem keysS_yes {day : Int} {G : List S39} {p : Int} {k : Nat} (h : servB day G p (k + 1) = true) : keysS day G p (k + 1) = keysS day G p k ++ [gr G (k + 1)] := by rw [keysS, if_pos h]
theorem keysS_no {day : Int} {G : List S39} {p : Int} {k : Nat} (h : servB day G p (k + 1) = false) : keysS day G p (k + 1) = keysS day G p k := by rw [keysS, if_neg (by rw [h]; decide)]
theorem could_arg (base g : Nat) (F : Nat → Prop) (w : World) (day : Int) (G : List S39) (E : List S44) (p : Int) (h : BK base F w g day G E) (hI : Inv G) (hp : ¬ (0 ≤ p ∧ p < 65536)) : Calls Try.prog 24 #[.pointer (some ⟨g, 0, none⟩), .int .i64 p] w fun e w' => e = .returned (.tuple #[.int .i64 0, .int .i64 2]) ∧ Below w.heap.size w w' := by
  have hu70 := Try.underlying70
  have hu39 := Try.underlying39
  have HBK := lhid h
  have HI := lhid hI
  have HTR := lhid hI.1
  have HF := lhid (show ∀ k, F k → k < w.heap.size from fun k q => (h.fb k q).2)
  clear h hI
  have hmf : ∀ (fn : Fn) (first cap : Array Value) (w : World), (Instr.makeFunc fn first cap).run Try.prog w = .ok (.func fn first cap) w := fun _ _ _ _ => rfl
  go_enter_defers Try.func24, Try.ntmps24
  go_upto_region 2 with (fail)
  have HB_1 := lhid (Below.refl w.heap.size w)
  have hb := below_alloc (Below.refl w.heap.size w) (.cells #[.int .i64 0] 24)
  have hn := blk_new w (.cells #[.int .i64 0] 24)
  have HZ1 := lhid (show (World.alloc w (.cells #[.int .i64 0] 24)).heap.size = w.heap.size + 1 from by simp)
  generalize hq : World.alloc w (.cells #[.int .i64 0] 24) = w1 at hb hn HZ1 ⊢
  clear hq
  have HBK_2 := lhid (HBK.out.next hb)
  have HB_3 := lhid (below_then HB_1.out HB_1.out.size hb)
  clear HBK HB_1 hb
  have BX_4 := lhid (hn)
  clear hn
  clear hmf
  obtain ⟨AG, cG, AE, cE, ho⟩ := HBK_2.out.opn
  have hc := ho.c0
  clear ho
  go_wp2_with fail
  with_reducible refine (refuse_no _ 1).mono ?_
  rintro e w' ⟨rfl, rfl⟩
  clear hc
  by_cases hp0 : p < 0
  · have hd1 : decide (p < 0) = true := decide_eq_true hp0
    go_wp2_with fail
    with_reducible refine (refuse_yes _ 2).mono ?_
    rintro e w' ⟨rfl, rfl⟩
    refine leaves_cons (f := 50) (args := #[.pointer (some ⟨w.heap.size, 0, none⟩)]) (by simp) (by simp [go_sem]) ?_
    refine (catch50_panicking ⟨w.heap.size, 0, none⟩ 0 2 [] _ (blk_cell BX_4.out 0) (blk_frozen BX_4.out 0)).mono ?_
    rintro e u' w'' ⟨rfl, rfl, w1, hb, rfl⟩
    have hbw := (below_then HB_3.out HB_3.out.size hb).setCell (p := ⟨w.heap.size, 0, none⟩) (Nat.le_refl _) (.int .i64 2)
    have hcw := blk_cell (blk_put (blk_below BX_4.out hb) 0 (.int .i64 2) rfl) 0
    simp [Leaves, settle, results, Try.results24, go_sem, hcw]
    exact hbw
  · have hd1 : decide (p < 0) = false := decide_eq_false hp0
    have hd2 : decide (p ≥ 65536) = true := decide_eq_true (by omega)
    go_wp2_with fail
    with_reducible refine (refuse_yes _ 2).mono ?_
    rintro e w' ⟨rfl, rfl⟩
    refine leaves_cons (f := 50) (args := #[.pointer (some ⟨w.heap.size, 0, none⟩)]) (by simp) (by simp [go_sem]) ?_
    refine (catch50_panicking ⟨w.heap.size, 0, none⟩ 0 2 [] _ (blk_cell BX_4.out 0) (blk_frozen BX_4.out 0)).mono ?_
    rintro e u' w'' ⟨rfl, rfl, w1, hb, rfl⟩
    have hbw := (below_then HB_3.out HB_3.out.size hb).setCell (p := ⟨w.heap.size, 0, none⟩) (Nat.le_refl _) (.int .i64 2)
    have hcw := blk_cell (blk_put (blk_below BX_4.out hb) 0 (.int .i64 2) rfl) 0
    simp [Leaves, settle, results, Try.results24, go_sem, hcw]
    exact hbw
set_option maxHeartbeats 6400000 in
set_option maxRecDepth 100000 in
theorem could_ok (base g : Nat) (F : Nat → Prop) (w : World) (day : Int) (G : List S39) (E : List S44) (p : Int) (h : BK base F w g day G E) (hI : Inv G) (hp0 : 0 ≤ p) (hp1 : p < 65536) : Calls Try.prog 24 #[.pointer (some ⟨g, 0, none⟩), .int .i64 p] w fun e w' => e = .returned (.tuple #[.int .i64 (couldS day G p), .int .i64 0]) ∧ Below w.heap.size w w' := by
  have hu70 := Try.underlying70
  have hu39 := Try.underlying39
  have HBK := lhid h
  have HI := lhid hI
  have HTR := lhid hI.1
  have HF := lhid (show ∀ k, F k → k < w.heap.size from fun k q => (h.fb k q).2)
  clear h hI
  have hmf : ∀ (fn : Fn) (first cap : Array Value) (w : World), (Instr.makeFunc fn first cap).run Try.prog w = .ok (.func fn first cap) w := fun _ _ _ _ => rfl
  go_enter_defers Try.func24, Try.ntmps24
  go_upto_region 2 with (fail)
  have HB_1 := lhid (Below.refl w.heap.size w)
  have hb := below_alloc (Below.refl w.heap.size w) (.cells #[.int .i64 0] 24)
  have hn := blk_new w (.cells #[.int .i64 0] 24)
  have HZ1 := lhid (show (World.alloc w (.cells #[.int .i64 0] 24)).heap.size = w.heap.size + 1 from by simp)
  generalize hq : World.alloc w (.cells #[.int .i64 0] 24) = w1 at hb hn HZ1 ⊢
  clear hq
  have HBK_2 := lhid (HBK.out.next hb)
  have HB_3 := lhid (below_then HB_1.out HB_1.out.size hb)
  clear HBK HB_1 hb
  have BX_4 := lhid (hn)
  clear hn
  clear hmf
  obtain ⟨AG, cG, AE, cE, ho⟩ := HBK_2.out.opn
  have hc := ho.c0
  clear ho
  go_wp2_with fail
  with_reducible refine (refuse_no _ 1).mono ?_
  rintro e w' ⟨rfl, rfl⟩
  clear hc
  have hd1 : decide (p < 0) = false := decide_eq_false (by omega)
  have hd2 : decide (p ≥ 65536) = false := decide_eq_false (by omega)
  go_wp2_with fail
  with_reducible refine (refuse_no _ 2).mono ?_
  rintro e w' ⟨rfl, rfl⟩
  clear hd1 hd2
  obtain ⟨AG, cG, AE, cE, ho⟩ := HBK_2.out.opn
  have hc2 := ho.c2
  have hT := HI.out.1.1
  have HO_5 := lhid (ho)
  clear ho
  go_upto_region 6 with (fail)
  clear hc2
  have HK0 := lhid (Kd.R_nil k39 39 w1 w1.heap.size (fun _ => True))
  have HL0 := lhid (Below.refl w1.heap.size w1)
  go_loopw [6, 8, 38] (fun v y t wr => ∃ i : Nat, i ≤ G.length ∧ t = .int .i64 i ∧ Hid (Kd.R k39 39 wr w1.heap.size (fun _ => True) v (keysS day G p i)) ∧ Hid (Below w1.heap.size w1 wr)) (fun _ _ t _ => G.length - (intOf t).toNat)
  case atStart => exact ⟨0, Nat.zero_le _, rfl, HK0, HL0⟩
  case round =>
    obtain ⟨i, hi, rfl, HKr, HLr⟩ := hrel
    clear HK0 HL0
    obtain ⟨Ak, ck, rfl⟩ := Kd.R_slice HKr.out
    have hkl := keysS_len day G p i
    by_cases hlt : i < G.length
    · have hlt2 : (i : Int) < (G.length : Int) := by omega
      have ho := HO_5.out.next HLr.out
      obtain ⟨b, hA, hFb⟩ := ho.ad (by omega)
      subst hA
      have hcs := ho.cells (i + 1) (by omega) (by omega)
      rw [show i + 1 - 1 = i by omega] at hcs
      have hc2r := ho.c2
      obtain ⟨x, hx⟩ : ∃ x, x = gr G (i + 1) := ⟨_, rfl⟩
      rw [← hx] at hcs
      have HX := lhid hx
      have hok := HI.out.2 (i + 1) (by omega) (by omega)
      rw [← hx] at hok
      have hno : x.f0 = (i : Int) + 1 := by rw [hx, (HI.out.1.2 (i + 1) (by omega) (by omega)).1]; simp
      clear hx ho
      obtain ⟨x0, x1, x2, x3, x4, x5, x6, x7, x8⟩ := hcs
      go_upto_region 8 with (fail)
      try any_goals (exfalso; omega)
      clear x0 x1 x2 x3 x4 x5 x6 x7 x8 hc2r
      have hb := below_alloc (Below.refl wr.heap.size wr) (.cells #[.int .i64 ((i : Int) + 1), .int .i64 x.f1, .int .i64 x.f2, .int .i64 x.f3, .int .i64 x.f4, .int .i64 x.f5, .int .i64 x.f6, .int .i64 x.f7, .bool x.f8] 39)
      have hn := blk_new wr (.cells #[.int .i64 ((i : Int) + 1), .int .i64 x.f1, .int .i64 x.f2, .int .i64 x.f3, .int .i64 x.f4, .int .i64 x.f5, .int .i64 x.f6, .int .i64 x.f7, .bool x.f8] 39)
      have HZ31 := lhid (show (World.alloc wr (.cells #[.int .i64 ((i : Int) + 1), .int .i64 x.f1, .int .i64 x.f2, .int .i64 x.f3, .int .i64 x.f4, .int .i64 x.f5, .int .i64 x.f6, .int .i64 x.f7, .bool x.f8] 39)).heap.size = wr.heap.size + 1 from by simp)
      generalize hq : World.alloc wr (.cells #[.int .i64 ((i : Int) + 1), .int .i64 x.f1, .int .i64 x.f2, .int .i64 x.f3, .int .i64 x.f4, .int .i64 x.f5, .int .i64 x.f6, .int .i64 x.f7, .bool x.f8] 39) = w31 at hb hn HZ31 ⊢
      clear hq
      have HK_6 := lhid (Kd.R_below HKr.out hb)
      have HL_7 := lhid (below_then HLr.out HLr.out.size hb)
      clear HKr HLr hb
      have XB_8 := lhid (hn)
      clear hn
      obtain ⟨gb, hgb⟩ : ∃ q, q = wr.heap.size := ⟨_, rfl⟩
      rw [← hgb] at XB_8 ⊢
      clear hgb
      have hf0 := hok.1
      have hf1 : x.f3 ≤ 64 := by have := hok.2.1; omega
      have HOK := lhid hok
      clear hok
      cases c1 : (bits .and .i64 p (wrap64 ((2 : Int) ^ x.f3.toNat)) != 0)
      · obtain ⟨hx0, hx1, hx2, hx3, hx4, hx5, hx6, hx7, hx8⟩ := nine XB_8.out
        go_wp2_with fail
        go_roundw
        case rel =>
          exact ⟨i + 1, by omega, by simp, lhid (by rw [keysS_no (by unfold servB; rw [← HX.out]; simp [c1])]; exact HK_6.out), HL_7⟩
        case measure => simp [intOf]; omega
      · cases c2 : (bits .and .i64 x.f5 1 != 0)
        · obtain ⟨hx0, hx1, hx2, hx3, hx4, hx5, hx6, hx7, hx8⟩ := nine XB_8.out
          go_wp2_with fail
          go_roundw
          case rel =>
            exact ⟨i + 1, by omega, by simp, lhid (by rw [keysS_no (by unfold servB; rw [← HX.out]; simp [c2])]; exact HK_6.out), HL_7⟩
          case measure => simp [intOf]; omega
        · obtain ⟨hx0, hx1, hx2, hx3, hx4, hx5, hx6, hx7, hx8⟩ := nine XB_8.out
          go_wp2_with fail
          with_reducible refine (stands_calls base g F w31 day G E ((i : Int) + 1) (HO_5.out.next HL_7.out).bk HTR.out (by omega) (by omega)).mono ?_
          rintro e w32 ⟨rfl, hb⟩
          have HK_9 := lhid (Kd.R_below HK_6.out hb)
          have HL_10 := lhid (below_then HL_7.out HL_7.out.size hb)
          have XB_11 := lhid (blk_below XB_8.out hb)
          clear HK_6 HL_7 XB_8 hb
          clear hx0 hx1 hx2 hx3 hx4 hx5 hx6 hx7 hx8
          rw [show ((i : Int) + 1).toNat = i + 1 by omega]
          cases c3 : stB day G (i + 1)
          · go_wp2_with fail
            go_roundw
            case rel =>
              exact ⟨i + 1, by omega, by simp, lhid (by rw [keysS_no (by unfold servB; rw [← HX.out]; simp [c3])]; exact HK_9.out), HL_10⟩
            case measure => simp [intOf]; omega
          · obtain ⟨hx0, hx1, hx2, hx3, hx4, hx5, hx6, hx7, hx8⟩ := nine XB_11.out
            go_wp2_with fail
            with_reducible refine (spent_calls base g F w32 day G E ((i : Int) + 1) (HO_5.out.next HL_10.out).bk HTR.out (by omega) (by omega)).mono ?_
            rintro e w33 ⟨rfl, hb⟩
            have HK_12 := lhid (Kd.R_below HK_9.out hb)
            have HL_13 := lhid (below_then HL_10.out HL_10.out.size hb)
            have XB_14 := lhid (blk_below XB_11.out hb)
            clear HK_9 HL_10 XB_11 hb
            clear hx0 hx1 hx2 hx3 hx4 hx5 hx6 hx7 hx8
            rw [show ((i : Int) + 1).toNat = i + 1 by omega]
            cases c4 : spB G (i + 1)
            · obtain ⟨hx0, hx1, hx2, hx3, hx4, hx5, hx6, hx7, hx8⟩ := nine XB_14.out
              have hT1 := HI.out.1.1
              go_wp2_with (first | ((with_reducible refine gate_builtin (b := .append) (xs := #[.tmp 67, .tmp 69]) rfl ?_); at_builtin; refine Kd.R_append k39 (w0 := w1) w1.heap.size rfl (.tmp 67) (.tmp 69) 33 39 (.agg #[(.int .i64 0), (.int .i64 0), (.int .i64 0), (.int .i64 0), (.int .i64 0), (.int .i64 0), (.int .i64 0), (.int .i64 0), (.bool false)]) 72 rfl Try.underlying33 info39 rfl (by decide) (by omega) (.slice Ak (keysS day G p i).length ck) (keysS day G p i) ⟨(i : Int) + 1, x.f1, x.f2, x.f3, x.f4, x.f5, x.f6, x.f7, x.f8⟩ [.int .i64 ((i : Int) + 1), .int .i64 x.f1, .int .i64 x.f2, .int .i64 x.f3, .int .i64 x.f4, .int .i64 x.f5, .int .i64 x.f6, .int .i64 x.f7, .bool x.f8] (fun _ => True) (fun _ => False) rfl rfl ?aP (fun _ hk => hk.elim) ?aF ?aO ?aB ?aS ?aL ?_; (case aP => exact k39_mkM _ _ _ ⟨(i : Int) + 1, x.f1, x.f2, x.f3, x.f4, x.f5, x.f6, x.f7, x.f8⟩); (case aF => exact fun _ _ => trivial); (case aO => exact HK_12.out); (case aB => exact HL_13.out); (case aS => exact HL_13.out.size); (case aL => omega); intro v8 w8 ho8 hb8 hg8 hat8; obtain ⟨A8, c8, rfl⟩ := Kd.R_slice ho8; have HP8 := lhid ho8; have HB8 := lhid hb8; clear ho8 hb8 hg8 hat8))
              go_roundw
              case rel =>
                exact ⟨i + 1, by omega, by simp, lhid (by rw [keysS_yes (by unfold servB; rw [← HX.out]; simp [c1, c2, c3, c4]), ← HX.out, show x = ⟨(i : Int) + 1, x.f1, x.f2, x.f3, x.f4, x.f5, x.f6, x.f7, x.f8⟩ by rw [← hno]]; have q := HP8.out; rw [List.length_append] at q; exact q), HB8⟩
              case measure => simp [intOf]; omega
            · go_wp2_with fail
              go_roundw
              case rel =>
                exact ⟨i + 1, by omega, by simp, lhid (by rw [keysS_no (by unfold servB; rw [← HX.out]; simp [c4])]; exact HK_12.out), HL_13⟩
              case measure => simp [intOf]; omega
    · have hie : i = G.length := by omega
      subst hie
      have hlt2 : ¬ (G.length : Int) < (G.length : Int) := by omega
      go_upto_region 12 with (fail)
      try any_goals (exfalso; omega)
      obtain ⟨wa, hws⟩ : ∃ q : World, q = wr := ⟨_, rfl⟩
      subst hws
      have HKM := lhid (show ∀ x ∈ keysS day G p G.length, Ok1 x from fun x hx => by obtain ⟨n, q1, q2, rfl⟩ := keysS_mem hx; exact HI.out.2 n q1 q2)
      have hKC : couldS day G p = outS p (keysS day G p G.length) (keysS day G p G.length).length := rfl
      obtain ⟨K, hK⟩ : ∃ K, K = keysS day G p G.length := ⟨_, rfl⟩
      rw [← hK] at HKr hkl HKM hKC ⊢
      clear hK
      have HKC := lhid hKC
      clear hKC
      have hkc := (Kd.R_reads' HKr.out).2.1
      have HS0 := lhid (Below.refl wa.heap.size wa)
      clear hlt2 hlt hi
      go_loopw [4, 74] (fun v t wr => ∃ i : Nat, i ≤ K.length ∧ t = .int .i64 i ∧ v = .int .i64 (outS p K i) ∧ Hid (Below wa.heap.size wa wr)) (fun _ t _ => K.length - (intOf t).toNat)
      case atStart => exact ⟨0, Nat.zero_le _, rfl, rfl, HS0⟩
      case round =>
        obtain ⟨i, hi, rfl, rfl, HSr⟩ := hrel
        obtain ⟨ws, hws⟩ : ∃ q : World, q = wr := ⟨_, rfl⟩
        subst hws
        clear HS0
        by_cases hlt : i < K.length
        · have hlt2 : (i : Int) < (K.length : Int) := by omega
          obtain ⟨kb, hA⟩ := row_ad HKr.out (by omega)
          subst hA
          have hcs := row_cells (Kd.R_below HKr.out HSr.out) i hlt
          have hok := HKM.out _ (getD_mem hlt)
          obtain ⟨x, hx⟩ : ∃ x, x = K.getD i z39 := ⟨_, rfl⟩
          rw [← hx] at hcs hok
          have HX := lhid hx
          clear hx
          obtain ⟨x0, x1, x2, x3, x4, x5, x6, x7, x8⟩ := hcs
          go_upto_region 14 with (fail)
          try any_goals (exfalso; omega)
          clear x0 x1 x2 x3 x4 x5 x6 x7 x8
          have hb := below_alloc (Below.refl ws.heap.size ws) (.cells #[.int .i64 x.f0, .int .i64 x.f1, .int .i64 x.f2, .int .i64 x.f3, .int .i64 x.f4, .int .i64 x.f5, .int .i64 x.f6, .int .i64 x.f7, .bool x.f8] 39)
          have hn := blk_new ws (.cells #[.int .i64 x.f0, .int .i64 x.f1, .int .i64 x.f2, .int .i64 x.f3, .int .i64 x.f4, .int .i64 x.f5, .int .i64 x.f6, .int .i64 x.f7, .bool x.f8] 39)
          have HZ51 := lhid (show (World.alloc ws (.cells #[.int .i64 x.f0, .int .i64 x.f1, .int .i64 x.f2, .int .i64 x.f3, .int .i64 x.f4, .int .i64 x.f5, .int .i64 x.f6, .int .i64 x.f7, .bool x.f8] 39)).heap.size = ws.heap.size + 1 from by simp)
          generalize hq : World.alloc ws (.cells #[.int .i64 x.f0, .int .i64 x.f1, .int .i64 x.f2, .int .i64 x.f3, .int .i64 x.f4, .int .i64 x.f5, .int .i64 x.f6, .int .i64 x.f7, .bool x.f8] 39) = w51 at hb hn HZ51 ⊢
          clear hq
          have HS_15 := lhid (below_then HSr.out HSr.out.size hb)
          clear HSr hb
          have XB_16 := lhid (hn)
          clear hn
          obtain ⟨gb, hgb⟩ : ∃ q, q = ws.heap.size := ⟨_, rfl⟩
          rw [← hgb] at XB_16 ⊢
          clear hgb
          have hf0 := hok.1
          have hf1 : x.f3 ≤ 64 := by have := hok.2.1; omega
          have HOK := lhid hok
          clear hok
          have htk := take39 (some ⟨kb, 0, none⟩) K.length ck i hi hkc
          go_upto_region 15 with (fail)
          try any_goals (exfalso; omega)
          clear htk
          have HT0 := lhid (Below.refl w51.heap.size w51)
          go_loopw [4, 83] (fun v t wr => ∃ j : Nat, j ≤ i ∧ t = .int .i64 j ∧ v = .int .i64 (innS p x (outS p K i) (K.take j)) ∧ Hid (Below w51.heap.size w51 wr)) (fun _ t _ => i - (intOf t).toNat)
          case atStart => exact ⟨0, Nat.zero_le _, rfl, rfl, HT0⟩
          case round =>
            obtain ⟨j, hj, rfl, rfl, HTr⟩ := hrel
            obtain ⟨wt, hws⟩ : ∃ q : World, q = wr := ⟨_, rfl⟩
            subst hws
            clear HT0
            by_cases hlj : j < i
            · have hlj2 : (j : Int) < (i : Int) := by omega
              have hcs := row_cells (Kd.R_below (Kd.R_below HKr.out HS_15.out) HTr.out) j (by omega)
              have XB := lhid (blk_below XB_16.out HTr.out)
              obtain ⟨y, hy⟩ : ∃ y, y = K.getD j z39 := ⟨_, rfl⟩
              rw [← hy] at hcs
              have HY := lhid hy
              clear hy
              obtain ⟨x0, x1, x2, x3, x4, x5, x6, x7, x8⟩ := hcs
              go_upto_region 17 with (fail)
              try any_goals (exfalso; omega)
              clear x0 x1 x2 x3 x4 x5 x6 x7 x8
              have hb := below_alloc (Below.refl wt.heap.size wt) (.cells #[.int .i64 y.f0, .int .i64 y.f1, .int .i64 y.f2, .int .i64 y.f3, .int .i64 y.f4, .int .i64 y.f5, .int .i64 y.f6, .int .i64 y.f7, .bool y.f8] 39)
              have hn := blk_new wt (.cells #[.int .i64 y.f0, .int .i64 y.f1, .int .i64 y.f2, .int .i64 y.f3, .int .i64 y.f4, .int .i64 y.f5, .int .i64 y.f6, .int .i64 y.f7, .bool y.f8] 39)
              have HZ71 := lhid (show (World.alloc wt (.cells #[.int .i64 y.f0, .int .i64 y.f1, .int .i64 y.f2, .int .i64 y.f3, .int .i64 y.f4, .int .i64 y.f5, .int .i64 y.f6, .int .i64 y.f7, .bool y.f8] 39)).heap.size = wt.heap.size + 1 from by simp)
              generalize hq : World.alloc wt (.cells #[.int .i64 y.f0, .int .i64 y.f1, .int .i64 y.f2, .int .i64 y.f3, .int .i64 y.f4, .int .i64 y.f5, .int .i64 y.f6, .int .i64 y.f7, .bool y.f8] 39) = w71 at hb hn HZ71 ⊢
              clear hq
              have HT_17 := lhid (below_then HTr.out HTr.out.size hb)
              have XB_18 := lhid (blk_below XB.out hb)
              clear HTr XB hb
              have YB_19 := lhid (hn)
              clear hn
              obtain ⟨hb2, hgb⟩ : ∃ q, q = wt.heap.size := ⟨_, rfl⟩
              rw [← hgb] at YB_19 ⊢
              clear hgb
              obtain ⟨hx0, hx1, hx2, hx3, hx4, hx5, hx6, hx7, hx8⟩ := nine XB_18.out
              obtain ⟨hy0, hy1, hy2, hy3, hy4, hy5, hy6, hy7, hy8⟩ := nine YB_19.out
              have HSN := lhid (innS_snoc p x (outS p K i) K j (by omega))
              rw [← HY.out] at HSN
              cases c1 : (x.f3 != y.f3) <;> cases c2 : (bits .and .i64 (bits .or .i64 x.f5 y.f5) 2 != 0) <;> cases c3 : (bits .andNot .i64 p (wrap64 ((2 : Int) ^ x.f3.toNat)) != 0) <;> cases c4 : (x.f2 != y.f2) <;> (go_wp2_with fail; go_roundw; (case rel => exact ⟨j + 1, by omega, by simp, by rw [HSN.out]; simp [pairB, c1, c2, c3, c4], HT_17⟩); (case measure => simp [intOf]; omega))
            · have hje : j = i := by omega
              subst hje
              have hlj2 : ¬ (j : Int) < (j : Int) := by omega
              go_wp2_with fail
              try any_goals (exfalso; omega)
              go_roundw
              case rel =>
                exact ⟨j + 1, by omega, by simp, by rw [outS, ← HX.out], lhid (below_then HS_15.out HS_15.out.size HTr.out)⟩
              case measure => simp [intOf]; omega
        · have hie : i = K.length := by omega
          subst hie
          have hlt2 : ¬ (K.length : Int) < (K.length : Int) := by omega
          go_upto_region 23 with (fail)
          try any_goals (exfalso; omega)
          have HLw := lhid (below_then HLr.out HLr.out.size HSr.out)
          have HBw := lhid (below_then HB_3.out HB_3.out.size HLw.out)
          have HXw := lhid (blk_below BX_4.out HLw.out)
          have hxc := blk_cell HXw.out 0
          have hxz : ∀ o, ws.frozen? ⟨w.heap.size, o, none⟩ = false := fun o => blk_frozen HXw.out o
          simp only [List.getElem?_toArray, List.getElem?_cons_zero] at hxc
          rw [← HKC.out]
          go_wp2_with fail
          have hz8 := blk_put HXw.out 0 (.int .i64 0) rfl
          have hg8 : Below w.heap.size w (World.setCell (World.setCell ws ⟨w.heap.size, 0, none⟩ (.int .i64 0)) ⟨w.heap.size, 0, none⟩ (.int .i64 0)).drew := below_box HBw.out (p := ⟨w.heap.size, 0, none⟩) (Nat.le_refl _) (.int .i64 0) (.int .i64 0)
          generalize World.setCell ws ⟨w.heap.size, 0, none⟩ (.int .i64 0) = w8 at hz8 hg8 ⊢
          have hcw := blk_cell (blk_put hz8 0 (.int .i64 0) rfl) 0
          have hc8 := blk_cell hz8 0
          have hf8 := blk_frozen hz8 0
          simp only [List.getElem?_toArray, List.getElem?_cons_zero, Array.setIfInBounds_def, List.size_toArray] at hc8 hcw
          refine leaves_cons (f := 50) (args := #[.pointer (some ⟨w.heap.size, 0, none⟩)]) (by simp) (by simp [go_sem]) ?_
          refine (catch50_idle ⟨w.heap.size, 0, none⟩ 0 w8 (by simpa using hc8) hf8).mono ?_
          rintro e u' w'' ⟨rfl, rfl, rfl⟩
          simp [Leaves, settle, results, Try.results24, go_sem, hcw]
          exact hg8
end Go.Proofs.Ytfnlghjkjmppdaa.PC
namespace Go.Proofs.Ytfnlghjkjmppdaa.PC
open Go.RowKit Go.Proofs.YtfnlghjkjmppdaaW.PrintWords Go.Proofs.YtfnlghjkjmppdaaW.PrintLast Go.Proofs.YtfnlghjkjmppdaaW.PrintMore
set_option linter.unusedVariables false
set_option linter.unusedSimpArgs false
theorem info4 : (Try.prog.info? 4).map (fun i => (i.zero, i.size, i.bytes)) = some (some (.bool false), 1, 1) := by kernel_rfl
theorem drop39 (A : Option Addr) (n c i : Nat) (h1 : i ≤ n) (h2 : n ≤ c) (W : World) : (Instr.slice 33 (.slice A n c) (some (.int .i64 (i : Int))) none none).run Try.prog W = .ok (.slice (if c = i then A else A.map (·.add (i * 9))) (n - i) (c - i)) W := by
  obtain ⟨ti, hi, hs9⟩ : ∃ ti, Try.prog.info? 39 = some ti ∧ ti.size = 9 := by
    have h := info39
    cases q : Try.prog.info? 39 with
    | none => rw [q] at h; simp at h
    | some ti => rw [q] at h; simp at h; exact ⟨ti, rfl, h.2.1⟩
  have hu : Try.prog.underlying 33 = some (.slice 39) := Try.underlying33
  have hel : Try.prog.elem 33 = 39 := by simp [Program.elem, hu]
  rw [run_slice_l W 33 A n c (by rw [hel]; exact hu) .i64 (i : Int) (by omega) (by omega), hel]
  simp [sizeOf, typeInfo, hi, hs9, sliced, Result.andThen]
theorem bool_ad {w : World} {base : Nat} {F : Nat → Prop} {A : Option Addr} {n c : Nat} {xs : List Bool} (h : Kd.R Kd.bool 4 w base F (.slice A n c) xs) (hx : 0 < xs.length) : ∃ b, A = some ⟨b, 0, none⟩ ∧ base ≤ b ∧ ∃ cs, w.heap[b]? = some (.cells cs 4 (0, 0)) := by
  obtain ⟨inner, ho⟩ := Kd.R_own h
  rcases ho.2 with ⟨hv, h0⟩ | ⟨b, cap, cur, hv, _, hh, _⟩
  · injection hv with h1 h2
    omega
  · injection hv with h1 h2 h3
    exact ⟨b, h1, own_base ho b (by rw [h1]; rfl), cur, hh⟩
theorem bool_at {w : World} {base : Nat} {F : Nat → Prop} {b n c : Nat} {xs : List Bool} (h : Kd.R Kd.bool 4 w base F (.slice (some ⟨b, 0, none⟩) n c) xs) (m : Nat) (hm : m < xs.length) : w.cell? ⟨b, m, none⟩ = some (.bool (xs.getD m false)) := by
  obtain ⟨hn, _, hC⟩ := Kd.R_reads' h
  obtain ⟨ad, cs, e, _, hK, hc⟩ := Kd.C_get hC false (m : Int) (by omega) (by omega)
  have hK' : cs = [Value.bool (xs.getD (m : Int).toNat false)] := hK
  subst hK'
  have this := hc 0 _ rfl
  rw [Int.toNat_natCast] at this
  cases e
  have e2 : m * Kd.bool.sz + 0 = m := by show m * 1 + 0 = m; omega
  rw [add_plain, e2] at this
  exact this
def inB (G : List S39) (n k m : Nat) : Bool := decide (m ≤ n + k) && (up G m).contains n
def inL (G : List S39) (n k : Nat) : List Bool := (List.range (G.length + 1)).map (inB G n k)
def belL (G : List S39) (n : Nat) : Nat → List Int
  | 0 => []
  | k + 1 => if (up G (n + k + 1)).contains n then belL G n k ++ [((n + k + 1 : Nat) : Int)] else belL G n k
def belowL (G : List S39) (n : Nat) : List Int := belL G n (G.length - n)
theorem belL_len (G : List S39) (n : Nat) : ∀ k, (belL G n k).length ≤ k
  | 0 => Nat.le_refl _
  | k + 1 => by
    have := belL_len G n k
    unfold belL
    split
    · rw [List.length_append]; simp; omega
    · omega
theorem inL_len (G : List S39) (n k : Nat) : (inL G n k).length = G.length + 1 := by unfold inL; simp
theorem inL_get (G : List S39) (n k m : Nat) (h : m < G.length + 1) : (inL G n k)[m]? = some (inB G n k m) := by
  unfold inL
  rw [List.getElem?_map, List.getElem?_range h]; rfl
theorem inL_getD (G : List S39) (n k m : Nat) (h : m < G.length + 1) : (inL G n k).getD m false = inB G n k m := by
  rw [List.getD_eq_getElem?_getD, inL_get G n k m h]; rfl
theorem inL_zero {G : List S39} (hT : Tree G) {n : Nat} (h1 : 1 ≤ n) (h2 : n ≤ G.length) : (List.replicate (G.length + 1) false).set n true = inL G n 0 := by
  apply List.ext_getElem?
  intro m
  by_cases c : m < G.length + 1
  · rw [inL_get G n 0 m c]
    by_cases c2 : n = m
    · subst c2
      rw [List.getElem?_set_self (by simpa using c)]
      unfold inB
      rw [up_succ hT h1 h2]; simp
    · rw [List.getElem?_set_ne c2, List.getElem?_replicate, if_pos c]
      unfold inB
      by_cases c3 : m ≤ n + 0
      · have : (up G m).contains n = false := by
          rw [Bool.eq_false_iff]
          intro hc
          have := up_mem hT m m (Nat.le_refl _) (by omega) n (by simpa using hc)
          omega
        rw [this]; simp
      · rw [decide_eq_false c3]; rfl
  · rw [List.getElem?_eq_none (by simp; omega), List.getElem?_eq_none (by rw [inL_len]; omega)]
theorem inL_yes {G : List S39} {n k : Nat} (h : (up G (n + k + 1)).contains n = true) (h2 : n + k + 1 ≤ G.length) : (inL G n k).set (n + k + 1) true = inL G n (k + 1) := by
  apply List.ext_getElem?
  intro m
  by_cases c : m < G.length + 1
  · rw [inL_get G n (k + 1) m c]
    by_cases c2 : n + k + 1 = m
    · subst c2
      rw [List.getElem?_set_self (by rw [inL_len]; exact c)]
      unfold inB
      rw [h, decide_eq_true (by omega)]; rfl
    · rw [List.getElem?_set_ne c2, inL_get G n k m c]
      unfold inB
      rw [show decide (m ≤ n + k) = decide (m ≤ n + (k + 1)) from decide_eq_decide.mpr (by omega)]
  · rw [List.getElem?_eq_none (by rw [List.length_set, inL_len]; omega), List.getElem?_eq_none (by rw [inL_len]; omega)]
theorem inL_no {G : List S39} {n k : Nat} (h : (up G (n + k + 1)).contains n = false) : inL G n k = inL G n (k + 1) := by
  apply List.ext_getElem?
  intro m
  by_cases c : m < G.length + 1
  · rw [inL_get G n (k + 1) m c, inL_get G n k m c]
    unfold inB
    by_cases c2 : n + k + 1 = m
    · subst c2; rw [h]; simp
    · rw [show decide (m ≤ n + k) = decide (m ≤ n + (k + 1)) from decide_eq_decide.mpr (by omega)]
  · rw [List.getElem?_eq_none (by rw [inL_len]; omega), List.getElem?_eq_none (by rw [inL_len]; omega)]
theorem in_step {G : List S39} (hT : Tree G) {n k : Nat} (h1 : 1 ≤ n) (h2 : n + k + 1 ≤ G.length) : inB G n k (gr G (n + k + 1)).f1.toNat = (up G (n + k + 1)).contains n := by
  have ht := (hT.2 (n + k + 1) (by omega) h2).2
  unfold inB
  rw [up_succ hT (by omega) h2, decide_eq_true (by omega), List.contains_cons, show (n == n + k + 1) = false from beq_eq_false_iff_ne.mpr (by omega)]
  simp
set_option maxHeartbeats 3200000 in
set_option maxRecDepth 100000 in
theorem below_calls (base g : Nat) (F : Nat → Prop) (w : World) (day : Int) (G : List S39) (E : List S44) (n : Int) (h : BK base F w g day G E) (hT : Tree G) (h1 : 1 ≤ n) (h2 : n ≤ G.length) : Calls Try.prog 64 #[.pointer (some ⟨g, 0, none⟩), .int .i64 n] w fun e w' => ∃ v, e = .returned v ∧ Kd.R (Kd.int .i64) 3 w' w.heap.size (fun _ => True) v (belowL G n.toNat) ∧ Below w.heap.size w w' := by
  have hu70 := Try.underlying70
  have hu39 := Try.underlying39
  obtain ⟨AG, cG, AE, cE, ho⟩ := h.opn
  obtain ⟨b, hA, hFb⟩ := ho.ad (by omega)
  subst hA
  have hl := hT.1
  obtain ⟨m, rfl⟩ : ∃ m : Nat, n = m := ⟨n.toNat, by omega⟩
  have hm1 : 1 ≤ m := by omega
  have hm2 : m ≤ G.length := by omega
  have hcG := ho.cap.1
  have HT := lhid hT
  clear h hT h1 h2
  rw [Int.toNat_natCast]
  have HO_1 := lhid (ho)
  clear ho
  have HB_2 := lhid (Below.refl w.heap.size w)
  go_enter Try.func64, Try.ntmps64
  have hc2 := HO_1.out.c2
  go_upto_region 2 with (((with_reducible refine gate_dst (N := 15) rfl ?_); refine Kd.R_make Kd.bool (w0 := w) w.heap.size 4 rfl (N := 15) rfl 56 _ _ rfl ((G.length : Int) + 1) rfl rfl Try.underlying56 (.bool false) 1 info4 rfl (by decide) (by decide) false (ok := fun _ => True) (okp := fun _ => True) rfl (fun _ hk => hk) trivial (by omega) (by omega) (Below.refl _ _) (Nat.le_refl _) ?_; intro v1 w1 ho1 hb1 hg1 hn1; obtain ⟨A1, c1, rfl⟩ := Kd.R_slice ho1; obtain ⟨gb, hA1, -, -⟩ := bool_ad ho1 (by simp); subst hA1; have HI0 := lhid ho1; have HB0 := lhid hb1; clear ho1 hb1 hg1 hn1))
  have hrl : ((G.length : Int) + 1).toNat = G.length + 1 := by omega
  rw [hrl] at HI0
  have HI1 := lhid (Kd.R_putn HI0.out (m : Int) true)
  rw [Int.toNat_natCast, inL_zero HT.out hm1 hm2] at HI1
  have hc3 := bool_at HI0.out m (by simp; omega)
  obtain ⟨gb', e1, hbge, cs, hgb⟩ := bool_ad HI0.out (by simp)
  cases e1
  have hf3 := blk_frozen hgb m
  simp only [List.length_replicate] at hc3 HI1 HI0
  have HIS := lhid (HB0.out.setCell (p := ⟨gb, m, none⟩) hbge (.bool true))
  have HGB := lhid hbge
  clear hbge
  go_upto_region 3 with (fail)
  try any_goals (exfalso; omega)
  clear hc3 hf3 hgb hrl HI0 HB0
  generalize World.setCell w1 ⟨gb, m, none⟩ (.bool true) = w2 at HI1 HIS ⊢
  have ho2 := HO_1.out.next HIS.out
  have hc22 := ho2.c2
  clear ho2 hc2
  obtain ⟨L, hL⟩ : ∃ L, L = G.length - m := ⟨_, rfl⟩
  have hdr := drop39 (some ⟨b, 0, none⟩) G.length cG m hm2 hcG
  rw [← hL] at hdr
  obtain ⟨A4, hA4⟩ : ∃ q : Option Addr, q = if cG = m then some ⟨b, 0, none⟩ else (some (⟨b, 0, none⟩ : Addr)).map (·.add (m * 9)) := ⟨_, rfl⟩
  rw [← hA4] at hdr
  have HA4 := lhid hA4
  have HL := lhid hL
  clear hA4 hL
  go_upto_region 5 with (fail)
  try any_goals (exfalso; omega)
  clear hdr hc22
  have hL2 : L + m ≤ G.length := by have := HL.out; omega
  have HU0 := lhid (Kd.R_nil (Kd.int .i64) 3 w2 w.heap.size (fun _ => True))
  go_loopw [6, 26] (fun v t wr => ∃ k : Nat, k ≤ L ∧ t = .int .i64 k ∧ Hid (Kd.R (Kd.int .i64) 3 wr w.heap.size (fun _ => True) v (belL G m k)) ∧ Hid (Kd.R Kd.bool 4 wr w.heap.size (fun _ => True) (.slice (some ⟨gb, 0, none⟩) (G.length + 1) c1) (inL G m k)) ∧ Hid (Below w.heap.size w wr)) (fun _ t _ => L - (intOf t).toNat)
  case atStart => exact ⟨0, Nat.zero_le _, rfl, HU0, HI1, HIS⟩
  case round =>
    obtain ⟨k, hk, rfl, HUr, HIr, HBr⟩ := hrel
    clear HU0 HI1 HIS
    obtain ⟨Au, cu, rfl⟩ := Kd.R_slice HUr.out
    by_cases hlt : k < L
    · have hA := HA4.out
      rw [if_neg (by omega), Option.map_some, add_plain] at hA
      have hlt2 : (k : Int) < (L : Int) := by omega
      have ho2 := HO_1.out.next HBr.out
      have hcs := ho2.cells (m + k + 1) (by omega) (by omega)
      rw [show (m + k + 1 - 1) * 9 = m * 9 + k * 9 by omega] at hcs
      have hno := (HT.out.2 (m + k + 1) (by omega) (by omega)).1
      have hab := (HT.out.2 (m + k + 1) (by omega) (by omega)).2
      clear ho2
      have HIS := lhid (in_step HT.out hm1 (show m + k + 1 ≤ G.length by omega))
      obtain ⟨x, hx⟩ : ∃ x, x = gr G (m + k + 1) := ⟨_, rfl⟩
      rw [← hx] at hcs hno hab HIS
      rw [show ((m + k + 1 : Nat) : Int) = (m : Int) + (k : Int) + 1 by omega] at hno hab
      clear hx
      obtain ⟨x0, x1, x2, x3, x4, x5, x6, x7, x8⟩ := hcs
      subst hA
      go_upto_region 7 with (fail)
      try any_goals (exfalso; omega)
      clear x0 x1 x2 x3 x4 x5 x6 x7 x8
      have hb := below_alloc (Below.refl wr.heap.size wr) (.cells #[.int .i64 ((m : Int) + (k : Int) + 1), .int .i64 x.f1, .int .i64 x.f2, .int .i64 x.f3, .int .i64 x.f4, .int .i64 x.f5, .int .i64 x.f6, .int .i64 x.f7, .bool x.f8] 39)
      have hn := blk_new wr (.cells #[.int .i64 ((m : Int) + (k : Int) + 1), .int .i64 x.f1, .int .i64 x.f2, .int .i64 x.f3, .int .i64 x.f4, .int .i64 x.f5, .int .i64 x.f6, .int .i64 x.f7, .bool x.f8] 39)
      have HZ21 := lhid (show (World.alloc wr (.cells #[.int .i64 ((m : Int) + (k : Int) + 1), .int .i64 x.f1, .int .i64 x.f2, .int .i64 x.f3, .int .i64 x.f4, .int .i64 x.f5, .int .i64 x.f6, .int .i64 x.f7, .bool x.f8] 39)).heap.size = wr.heap.size + 1 from by simp)
      generalize hq : World.alloc wr (.cells #[.int .i64 ((m : Int) + (k : Int) + 1), .int .i64 x.f1, .int .i64 x.f2, .int .i64 x.f3, .int .i64 x.f4, .int .i64 x.f5, .int .i64 x.f6, .int .i64 x.f7, .bool x.f8] 39) = w21 at hb hn HZ21 ⊢
      clear hq
      have HU_3 := lhid (Kd.R_below HUr.out hb)
      have HI_4 := lhid (Kd.R_below HIr.out hb)
      have HB_5 := lhid (below_then HBr.out HBr.out.size hb)
      clear HUr HIr HBr hb
      have XB_6 := lhid (hn)
      clear hn
      obtain ⟨nb, hgb⟩ : ∃ q, q = wr.heap.size := ⟨_, rfl⟩
      rw [← hgb] at XB_6 ⊢
      clear hgb
      have hby := bool_at HI_4.out x.f1.toNat (by rw [inL_len]; omega)
      rw [inL_getD _ _ _ _ (by omega), HIS.out] at hby
      cases c : (up G (m + k + 1)).contains m
      · rw [c] at hby
        obtain ⟨hx0, hx1, hx2, hx3, hx4, hx5, hx6, hx7, hx8⟩ := nine XB_6.out
        go_wp2_with fail
        try any_goals (exfalso; omega)
        go_roundw
        case rel =>
          exact ⟨k + 1, by omega, by simp, lhid (by rw [belL, c]; exact HU_3.out), lhid (by rw [← inL_no c]; exact HI_4.out), HB_5⟩
        case measure => simp [intOf]; omega
      · rw [c] at hby
        obtain ⟨hx0, hx1, hx2, hx3, hx4, hx5, hx6, hx7, hx8⟩ := nine XB_6.out
        go_upto_region 8 with (fail)
        clear hby
        obtain ⟨gb', e1, hbge, cs2, hgb2⟩ := bool_ad HI_4.out (by rw [inL_len]; omega)
        cases e1
        have hfz : ∀ o, w21.frozen? ⟨gb, o, none⟩ = false := fun o => blk_frozen hgb2 o
        have hcb := bool_at HI_4.out (m + k + 1) (by rw [inL_len]; omega)
        go_upto_region 9 with (fail)
        try any_goals (exfalso; omega)
        clear hx0 hx1 hx2 hx3 hx4 hx5 hx6 hx7 hx8
        clear hcb hfz
        have hnb : nb ≠ gb := fun e => by have q := XB_6.out; rw [e, hgb2] at q; cases q
        have HI3 := lhid (Kd.R_putn HI_4.out ((m + k + 1 : Nat) : Int) true)
        rw [Int.toNat_natCast, inL_yes c (by omega)] at HI3
        have HU3 := lhid (Kd.R_set HU_3.out hgb2 (by decide) (m + k + 1) (.bool true))
        have HB3 := lhid (HB_5.out.setCell (p := ⟨gb, m + k + 1, none⟩) hbge (.bool true))
        have XB3 := lhid (blk_far XB_6.out (p := ⟨gb, m + k + 1, none⟩) hnb (.bool true))
        generalize World.setCell w21 ⟨gb, m + k + 1, none⟩ (.bool true) = w25 at HI3 HU3 HB3 XB3 ⊢
        clear hgb2 hnb HI_4 HU_3 HB_5 XB_6
        obtain ⟨hx0, hx1, hx2, hx3, hx4, hx5, hx6, hx7, hx8⟩ := nine XB3.out
        have hbl := belL_len G m k
        go_wp2_with (first | ((with_reducible refine gate_builtin (b := .append) (xs := #[.tmp 39, .tmp 42]) rfl ?_); at_builtin; refine Kd.R_append (Kd.int .i64) (w0 := w) w.heap.size rfl (.tmp 39) (.tmp 42) 32 3 (.int .i64 0) 8 rfl Try.underlying32 info3 rfl (by decide) (by omega) (.slice Au (belL G m k).length cu) (belL G m k) ((m : Int) + (k : Int) + 1) [.int .i64 ((m : Int) + (k : Int) + 1)] (fun _ => True) (fun _ => False) rfl rfl ?aP (fun _ hk => hk.elim) ?aF ?aO ?aB ?aS ?aL ?_; (case aP => exact rfl); (case aF => exact fun _ _ => trivial); (case aO => exact HU3.out); (case aB => exact HB3.out); (case aS => exact HB3.out.size); (case aL => omega); intro v8 w8 ho8 hb8 hg8 hat8; obtain ⟨A8, c8, rfl⟩ := Kd.R_slice ho8; have HP8 := lhid ho8; have HB8 := lhid hb8; have HI8 := lhid (Kd.R_grown1 HI3.out rfl hg8 (by rcases own_type_ne (Kd.R_own HU3.out).choose_spec (Kd.R_own HI3.out).choose_spec (by decide) with q | q; rw [q]; exact (by intro z; cases z); exact q)); clear ho8 hb8 hg8 hat8))
        go_roundw
        case rel =>
          exact ⟨k + 1, by omega, by simp, lhid (by rw [belL, c, if_pos rfl]; have q := HP8.out; rw [List.length_append] at q; rw [show ((m + k + 1 : Nat) : Int) = (m : Int) + (k : Int) + 1 by omega]; exact q), HI8, HB8⟩
        case measure => simp [intOf]; omega
    · have hke : k = L := by omega
      subst hke
      have hlt2 : ¬ (k : Int) < (k : Int) := by omega
      have HLk := HL
      clear HL
      go_wp2_with fail
      try any_goals (exfalso; omega)
      go_ret
      exact ⟨_, rfl, by unfold belowL; rw [← HLk.out]; exact HUr.out, HBr.out⟩
end Go.Proofs.Ytfnlghjkjmppdaa.PC
namespace Go.Proofs.Ytfnlghjkjmppdaa.PC
open Go.RowKit Go.Proofs.YtfnlghjkjmppdaaW.PrintWords Go.Proofs.YtfnlghjkjmppdaaW.PrintLast Go.Proofs.YtfnlghjkjmppdaaW.PrintMore
set_option linter.unusedVariables false
set_option linter.unusedSimpArgs false
theorem BO.day {base g : Nat} {F : Nat → Prop} {w : World} {day : Int} {AG AE : Option Addr} {cG cE : Nat} {G : List S39} {E : List S44} (h : BO base F w g day AG cG G AE cE E) (d : Int) : BK base F (w.setCell ⟨g, 1, none⟩ (.int .i64 d)) g d G E := by
  refine ⟨⟨.slice AG G.length cG, .slice AE E.length cE, ?_, ?_, ?_⟩, h.fg, fun k q => by simpa using h.fb k q⟩
  · have := blk_put h.hb 1 (.int .i64 d) rfl
    simpa using this
  · exact Kd.R_set h.rG h.hb (by decide) 1 _
  · exact Kd.R_set h.rE h.hb (by decide) 1 _
theorem R_box {α : Type} {d : Kd α} {e base : Nat} {ok : Nat → Prop} {W : World} {v : Value} {xs : List α} (h : d.R e W base ok v xs) {p : Addr} (hp : p.block < base) (u1 u2 : Value) : d.R e ((W.setCell p u1).setCell p u2).drew base ok v xs :=
  Kd.R_drew (Kd.R_mono (Kd.R_far (Kd.R_far (Kd.R_bound h) (fun k q e => by have := q.2.1; rw [e] at this; omega) u1) (fun k q e => by have := q.2.1; rw [e] at this; omega) u2) (fun k q => q.1))
theorem Next_arg (base g : Nat) (F : Nat → Prop) (w : World) (day : Int) (G : List S39) (E : List S44) (d : Int) (h : BK base F w g day G E) (hd : dayB d = false) : Calls Try.prog 39 #[.pointer (some ⟨g, 0, none⟩), .int .i64 d] w fun e w' => e = .returned (.int .i64 2) ∧ Below w.heap.size w w' := by
  have hu70 := Try.underlying70
  obtain ⟨AG, cG, AE, cE, ho⟩ := h.opn
  have HF := lhid (show ∀ k, F k → k < w.heap.size from fun k q => (h.fb k q).2)
  clear h
  have HO_1 := lhid (ho)
  clear ho
  have HB_2 := lhid (Below.refl w.heap.size w)
  go_enter Try.func39, Try.ntmps39
  have hc0 := HO_1.out.c0
  go_wp2_with fail
  with_reducible refine (custody_day.calls d false w (by rw [day_f]; exact congrArg some hd)).mono ?_
  rintro e w1 ⟨rfl, nd, hq⟩
  have hb := pw_below_drewN (Below.refl w.heap.size w) nd
  rw [← hq] at hb
  clear hq
  have HO_3 := lhid (HO_1.out.next hb)
  have HB_4 := lhid (below_then HB_2.out HB_2.out.size hb)
  clear HO_1 HB_2 hb
  go_wp2_with fail
  go_ret
  exact ⟨rfl, HB_4.out⟩
theorem Next_state (base g : Nat) (F : Nat → Prop) (w : World) (day : Int) (G : List S39) (E : List S44) (d : Int) (h : BK base F w g day G E) (hd : dayB d = true) (hl : d < day) : Calls Try.prog 39 #[.pointer (some ⟨g, 0, none⟩), .int .i64 d] w fun e w' => e = .returned (.int .i64 9) ∧ Below w.heap.size w w' := by
  have hu70 := Try.underlying70
  obtain ⟨AG, cG, AE, cE, ho⟩ := h.opn
  have HF := lhid (show ∀ k, F k → k < w.heap.size from fun k q => (h.fb k q).2)
  clear h
  have HO_1 := lhid (ho)
  clear ho
  have HB_2 := lhid (Below.refl w.heap.size w)
  go_enter Try.func39, Try.ntmps39
  have hc0 := HO_1.out.c0
  go_wp2_with fail
  with_reducible refine (custody_day.calls d true w (by rw [day_f]; exact congrArg some hd)).mono ?_
  rintro e w1 ⟨rfl, nd, hq⟩
  have hb := pw_below_drewN (Below.refl w.heap.size w) nd
  rw [← hq] at hb
  clear hq
  have HO_3 := lhid (HO_1.out.next hb)
  have HB_4 := lhid (below_then HB_2.out HB_2.out.size hb)
  clear HO_1 HB_2 hb
  have hd2 : decide (d < day) = true := decide_eq_true hl
  have hc1 := HO_3.out.c1
  go_wp2_with fail
  go_ret
  exact ⟨rfl, HB_4.out⟩
theorem Next_ok (base g : Nat) (F : Nat → Prop) (w : World) (day : Int) (G : List S39) (E : List S44) (d : Int) (h : BK base F w g day G E) (hd : dayB d = true) (hl : ¬ d < day) : Calls Try.prog 39 #[.pointer (some ⟨g, 0, none⟩), .int .i64 d] w fun e w' => e = .returned (.int .i64 0) ∧ Got base F w w' g d G E := by
  have hu70 := Try.underlying70
  obtain ⟨AG, cG, AE, cE, ho⟩ := h.opn
  have HF := lhid (show ∀ k, F k → k < w.heap.size from fun k q => (h.fb k q).2)
  clear h
  have HO_1 := lhid (ho)
  clear ho
  have HB_2 := lhid (Below.refl w.heap.size w)
  go_enter Try.func39, Try.ntmps39
  have hc0 := HO_1.out.c0
  go_wp2_with fail
  with_reducible refine (custody_day.calls d true w (by rw [day_f]; exact congrArg some hd)).mono ?_
  rintro e w1 ⟨rfl, nd, hq⟩
  have hb := pw_below_drewN (Below.refl w.heap.size w) nd
  rw [← hq] at hb
  clear hq
  have HO_3 := lhid (HO_1.out.next hb)
  have HB_4 := lhid (below_then HB_2.out HB_2.out.size hb)
  clear HO_1 HB_2 hb
  have hd2 : decide (d < day) = false := decide_eq_false (by omega)
  have hc1 := HO_3.out.c1
  have hfz : ∀ o, w1.frozen? ⟨g, o, none⟩ = false := fun o => blk_frozen HO_3.out.hb o
  go_wp2_with fail
  try any_goals (exfalso; omega)
  go_ret
  exact ⟨rfl, F, HO_3.out.day d, fun k q => Or.inl q, (Chg.of_below HB_4.out).set (Or.inr HO_3.out.fg) _⟩
theorem Below_none (base g : Nat) (F : Nat → Prop) (w : World) (day : Int) (G : List S39) (E : List S44) (n : Int) (h : BK base F w g day G E) (hn : ¬ (1 ≤ n ∧ n ≤ G.length)) : Calls Try.prog 32 #[.pointer (some ⟨g, 0, none⟩), .int .i64 n] w fun e w' => e = .returned (.tuple #[.slice none 0 0, .int .i64 6]) ∧ Below w.heap.size w w' := by
  have HBK := lhid h
  clear h
  have hmf : ∀ (fn : Fn) (first cap : Array Value) (w : World), (Instr.makeFunc fn first cap).run Try.prog w = .ok (.func fn first cap) w := fun _ _ _ _ => rfl
  go_enter_defers Try.func32, Try.ntmps32
  go_upto_region 2 with (fail)
  have HB_1 := lhid (Below.refl w.heap.size w)
  have hb := below_alloc (Below.refl w.heap.size w) (.cells #[.int .i64 0] 24)
  have hn := blk_new w (.cells #[.int .i64 0] 24)
  have HZ1 := lhid (show (World.alloc w (.cells #[.int .i64 0] 24)).heap.size = w.heap.size + 1 from by simp)
  generalize hq : World.alloc w (.cells #[.int .i64 0] 24) = w1 at hb hn HZ1 ⊢
  clear hq
  have HBK_2 := lhid (HBK.out.next hb)
  have HB_3 := lhid (below_then HB_1.out HB_1.out.size hb)
  clear HBK HB_1 hb
  have BX_4 := lhid (hn)
  clear hn
  clear hmf
  go_wp2_with fail
  with_reducible refine (get_none base g F w1 day G E n HBK_2.out hn).mono ?_
  rintro e w' ⟨rfl, rfl⟩
  refine leaves_cons (f := 65) (args := #[.pointer (some ⟨w.heap.size, 0, none⟩)]) (by simp) (by simp [go_sem]) ?_
  refine (catch65_panicking ⟨w.heap.size, 0, none⟩ 0 6 [] _ (blk_cell BX_4.out 0) (blk_frozen BX_4.out 0)).mono ?_
  rintro e u' w'' ⟨rfl, rfl, w1, hb, rfl⟩
  have hbw := (below_then HB_3.out HB_3.out.size hb).setCell (p := ⟨w.heap.size, 0, none⟩) (Nat.le_refl _) (.int .i64 6)
  have hcw := blk_cell (blk_put (blk_below BX_4.out hb) 0 (.int .i64 6) rfl) 0
  simp [Leaves, settle, results, Try.results32, go_sem, hcw]
  exact hbw
theorem Below_ok (base g : Nat) (F : Nat → Prop) (w : World) (day : Int) (G : List S39) (E : List S44) (n : Int) (h : BK base F w g day G E) (hT : Tree G) (h1 : 1 ≤ n) (h2 : n ≤ G.length) : Calls Try.prog 32 #[.pointer (some ⟨g, 0, none⟩), .int .i64 n] w fun e w' => ∃ v, e = .returned (.tuple #[v, .int .i64 0]) ∧ Kd.R (Kd.int .i64) 3 w' w.heap.size (fun _ => True) v (belowL G n.toNat) ∧ Below w.heap.size w w' := by
  have HBK := lhid h
  have HT := lhid hT
  have HH := lhid (And.intro h1 h2)
  clear h hT h1 h2
  have hmf : ∀ (fn : Fn) (first cap : Array Value) (w : World), (Instr.makeFunc fn first cap).run Try.prog w = .ok (.func fn first cap) w := fun _ _ _ _ => rfl
  go_enter_defers Try.func32, Try.ntmps32
  go_upto_region 2 with (fail)
  have HB_1 := lhid (Below.refl w.heap.size w)
  have hb := below_alloc (Below.refl w.heap.size w) (.cells #[.int .i64 0] 24)
  have hn := blk_new w (.cells #[.int .i64 0] 24)
  have HZ1 := lhid (show (World.alloc w (.cells #[.int .i64 0] 24)).heap.size = w.heap.size + 1 from by simp)
  generalize hq : World.alloc w (.cells #[.int .i64 0] 24) = w1 at hb hn HZ1 ⊢
  clear hq
  have HBK_2 := lhid (HBK.out.next hb)
  have HB_3 := lhid (below_then HB_1.out HB_1.out.size hb)
  clear HBK HB_1 hb
  have BX_4 := lhid (hn)
  clear hn
  clear hmf
  go_wp2_with fail
  obtain ⟨AG, cG, AE, cE, ho⟩ := HBK_2.out.opn
  obtain ⟨b, hb, _⟩ := ho.ad (by have := HH.out.1; have := HH.out.2; omega)
  rw [hb] at ho
  clear hb
  with_reducible refine (get_some base g F w1 day G E cG AE cE b n ho HH.out.1 HH.out.2 (tree_le HT.out)).mono ?_
  rintro e w' ⟨rfl, rfl⟩
  clear ho
  have HLT0 := lhid (blk_lt BX_4.out)
  go_wp2_with fail
  with_reducible refine (below_calls base g F w1 day G E n HBK_2.out HT.out HH.out.1 HH.out.2).mono ?_
  rintro e w2 ⟨vu, rfl, hU, hb⟩
  have HR := lhid hU
  clear hU
  have HBK_5 := lhid (HBK_2.out.next hb)
  have HB_6 := lhid (below_then HB_3.out HB_3.out.size hb)
  have BX_7 := lhid (blk_below BX_4.out hb)
  clear HBK_2 HB_3 BX_4 hb
  have hxc := blk_cell BX_7.out 0
  have hxz : ∀ o, w2.frozen? ⟨w.heap.size, o, none⟩ = false := fun o => blk_frozen BX_7.out o
  simp only [List.getElem?_toArray, List.getElem?_cons_zero] at hxc
  go_wp2_with fail
  have HR8 := lhid (Kd.R_lower (R_box (p := ⟨w.heap.size, 0, none⟩) HR.out HLT0.out (.int .i64 0) (.int .i64 0)) (Nat.le_of_lt HLT0.out))
  have hz8 := blk_put BX_7.out 0 (.int .i64 0) rfl
  have hg8 : Below w.heap.size w (World.setCell (World.setCell w2 ⟨w.heap.size, 0, none⟩ (.int .i64 0)) ⟨w.heap.size, 0, none⟩ (.int .i64 0)).drew := below_box HB_6.out (p := ⟨w.heap.size, 0, none⟩) (Nat.le_refl _) (.int .i64 0) (.int .i64 0)
  generalize World.setCell w2 ⟨w.heap.size, 0, none⟩ (.int .i64 0) = w8 at hz8 hg8 HR8 ⊢
  have hcw := blk_cell (blk_put hz8 0 (.int .i64 0) rfl) 0
  have hc8 := blk_cell hz8 0
  have hf8 := blk_frozen hz8 0
  simp only [List.getElem?_toArray, List.getElem?_cons_zero, Array.setIfInBounds_def, List.size_toArray] at hc8 hcw
  refine leaves_cons (f := 65) (args := #[.pointer (some ⟨w.heap.size, 0, none⟩)]) (by simp) (by simp [go_sem]) ?_
  refine (catch65_idle ⟨w.heap.size, 0, none⟩ 0 w8 (by simpa using hc8) hf8).mono ?_
  rintro e u' w'' ⟨rfl, rfl, rfl⟩
  simp [Leaves, settle, results, Try.results32, go_sem, hcw]
  exact ⟨HR8.out, hg8⟩
end Go.Proofs.Ytfnlghjkjmppdaa.PC
end
