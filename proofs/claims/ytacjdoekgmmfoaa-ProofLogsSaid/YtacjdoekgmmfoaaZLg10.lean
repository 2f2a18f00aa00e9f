/-
  The texts that the theorem in YtacjdoekgmmfoaaZRowLg rests on, merged (part 11); only what it reaches.
-/
import Derived.Test.YtacjdoekgmmfoaaZLg2
import Derived.Test.YtacjdoekgmmfoaaZLg3
import Derived.Test.YtacjdoekgmmfoaaZLg5
import Derived.Test.YtacjdoekgmmfoaaZLg7
import Derived.Test.YtacjdoekgmmfoaaZLg8
import Derived.Test.YtacjdoekgmmfoaaZLg9
section
namespace Go.Proofs.Ytacjdoekgmmfoaa.PL
open Go.RowKit Go.Proofs.YtacjdoekgmmfoaaW.PrintWords Go.Proofs.YtacjdoekgmmfoaaW.PrintLast Go.Proofs.YtacjdoekgmmfoaaW.PrintMore Go.Proofs.Ytacjdoekgmmfoaa.Opn
set_option linter.unusedVariables false
set_option linter.unusedSimpArgs false
theorem R_keepI {k : IntKind} {e base : Nat} {ok : Nat → Prop} {w W : World} {v : Value} {xs : List Int} (h : (Kd.int k).R e w base ok v xs) (hown : ∀ q, v.ownBlock = some q → W.heap[q]? = w.heap[q]?) : (Kd.int k).R e W base ok v xs := R_keepX h hown (fun q cells t _ ht _ => by have h9 : t ∈ ([] : List Nat) := ht; simp at h9)
def addAll (es more : List (List Int)) : List (List Int) := more.foldl addE es
theorem addAll_next (es more : List (List Int)) (k : Nat) (h : k < more.length) : addAll es (more.take (k + 1)) = addE (addAll es (more.take k)) more[k] := by
  unfold addAll
  rw [List.take_succ_eq_append_getElem h, List.foldl_append]; rfl
theorem addAll_len : ∀ (more es : List (List Int)), (addAll es more).length ≤ es.length + more.length
  | [], es => by simp [addAll]
  | x :: more, es => by
    have h := addAll_len more (addE es x)
    have h2 := addE_len es x
    show (addAll (addE es x) more).length ≤ _
    rw [List.length_cons]; omega
theorem addAll_256 : ∀ (more es : List (List Int)), (∀ x ∈ es, x.length ≤ 256) → ∀ x ∈ addAll es more, x.length ≤ 256
  | [], es, h => h
  | x :: more, es, h => addAll_256 more (addE es x) (addE_256 h x)
set_option maxHeartbeats 12800000 in
set_option maxRecDepth 100000 in
/-- added. -/
theorem added_calls (w00 : World) (M0 P0 : Nat → Prop) (w : World) (g : Nat) (es : List (List Int)) (A : Option Addr) (c : Nat) (Am : Option Addr) (cm : Nat) (more : List (List Int)) (h : ADx w00.heap.size M0 P0 (fun _ => False) w w g es es (.slice A es.length c)) (hb0 : Below w00.heap.size w00 w) (hm : Kd.C (Kd.slice 5 (Kd.int .u8)) w00 Am more.length more) (hmc : more.length ≤ cm) (hle : es.length + more.length ≤ 4000) (hmx : ∀ x ∈ more, x.length ≤ 400) :
    Calls Try.prog 44 #[.pointer (some ⟨g, 0, none⟩), .agg #[.slice A es.length c], .slice Am more.length cm] w fun e w' => ∃ v', e = .returned (.tuple #[.agg #[v'], .bool true]) ∧ ADx w00.heap.size M0 P0 (fun _ => False) w w' g (addAll es more) (addAll es more) v' := by
  have HD := lhid h
  have HM := lhid hm
  have HB0 := lhid hb0
  have HMC := lhid hmc
  have HLE := lhid hle
  have HMX := lhid hmx
  have hu64 := Try.underlying64
  have hu39 := Try.underlying39
  have hu22 := Try.underlying22
  clear h hm hb0 hmc hle hmx
  go_enter Try.func44, Try.ntmps44
  go_upto_region 2 with (fail)
  obtain ⟨rb, hrb⟩ : ∃ x, x = w.heap.size := ⟨_, rfl⟩
  obtain ⟨rc, hrc⟩ : ∃ x, x = w.heap.size + 1 := ⟨_, rfl⟩
  have hb := below_alloc (below_alloc (Below.refl w.heap.size w) (.cells #[.slice A es.length c] 64)) (.cells #[.slice none 0 0] 64)
  have HR1 := lhid (show ((w.alloc (.cells #[.slice A es.length c] 64)).alloc (.cells #[.slice none 0 0] 64)).heap[rb]? = some (.cells #[.slice A es.length c] 64) by rw [hrb]; exact blk_alloc (blk_new _ _) _)
  have HR2 := lhid (show ((w.alloc (.cells #[.slice A es.length c] 64)).alloc (.cells #[.slice none 0 0] 64)).heap[rc]? = some (.cells #[.slice none 0 0] 64) by rw [hrc]; have h1 := blk_new (w.alloc (.cells #[.slice A es.length c] 64)) (.cells #[.slice none 0 0] 64); rwa [show (w.alloc (.cells #[.slice A es.length c] 64)).heap.size = w.heap.size + 1 by simp] at h1)
  have hz2 : ((w.alloc (.cells #[.slice A es.length c] 64)).alloc (.cells #[.slice none 0 0] 64)).heap.size = w.heap.size + 2 := by simp
  have HD1 := lhid (show ADx w00.heap.size M0 P0 (fun q => q = rb ∨ q = rc) w ((w.alloc (.cells #[.slice A es.length c] 64)).alloc (.cells #[.slice none 0 0] 64)) g es es (.slice A es.length c) from ((HD.out.fresh (S := (fun q => q = rb ∨ q = rc)) hb (fun k hk => by rw [hz2]; omega)).drop (fun k hk => .inr hk)))
  have HRB := lhid (show w.heap.size ≤ rb ∧ w.heap.size ≤ rc ∧ rb ≠ rc by omega)
  rw [← hrc, ← hrb]
  clear hrb hrc hb hz2
  generalize (w.alloc (.cells #[.slice A es.length c] 64)).alloc (.cells #[.slice none 0 0] 64) = w1 at HR1 HR2 HD1 ⊢
  go_loopw [8, 9, 10, 11, 12, 13, 14, 15] (fun v _ _ _ _ _ _ _ wr => ∃ (k : Nat) (er : List (List Int)) (A' : Option Addr) (c' : Nat), k ≤ more.length ∧ v = .int .i64 k ∧ Hid (er = (addAll es (more.take k))) ∧ Hid (ADx w00.heap.size M0 P0 (fun q => q = rb ∨ q = rc) w wr g er er (.slice A' er.length c')) ∧ Hid (wr.heap[rb]? = some (.cells #[.slice A' er.length c'] 64)) ∧ Hid (wr.heap[rc]? = some (.cells #[.slice none 0 0] 64))) (fun v _ _ _ _ _ _ _ _ => more.length - (intOf v).toNat)
  case atStart => exact ⟨0, es, A, c, Nat.zero_le _, rfl, lhid rfl, HD1, HR1, HR2⟩
  case round =>
    clear HR1 HR2 HD1
    obtain ⟨k, er, A', c', hk, rfl, HER, HDr, HR1, HR2⟩ := hrel
    by_cases hlt : k < more.length
    · obtain ⟨x, hx⟩ : ∃ x, x = more[k] := ⟨_, rfl⟩
      have HXE := lhid hx
      have HXL := lhid (show x.length ≤ 400 by rw [hx]; exact HMX.out _ (List.getElem_mem hlt))
      have HEL := lhid (show er.length ≤ 4000 by rw [HER.out]; have h1 := addAll_len (more.take k) es; rw [List.length_take] at h1; have := HLE.out; omega)
      obtain ⟨ad, Ai, ci, ei, hx0, hl, hci⟩ := at_L1 HM.out (k : Int) (by omega) (by omega)
      cases ei
      rw [rdL_at more k hlt, ← hx] at hx0 hl hci
      rw [Int.toNat_natCast] at hx0
      have HX0 := lhid hx0
      have HCI := lhid hci
      have HCL := lhid hl
      have HK := lhid hlt
      clear hx0 hci hl hx
      have HBW := lhid (HB0.out.trans HDr.out.bl)
      have hxr := pw_cell_below HBW.out HX0.out
      have hki : (k : Int) < (more.length : Int) := by omega
      have hk0 : (0 : Int) ≤ (k : Int) := by omega
      go_upto_region 5 with (first | ((with_reducible refine gate_dst (N := 22) rfl ?_); refine Kd.R_lit (Kd.int .u8) _ 5 ?hg (N := 22) ?hd (xs := ([] : List Int)) (inner := []) (ok := fun _ => True) (okp := fun _ => True) ?hr ?hp (fun _ hk => hk) trivial (Below.refl _ _) (Nat.le_refl _) (by simp) ?_; (case hd => rfl); (case hg => rfl); (case hr => first | (go_simp; done) | (go_simp; rfl)); (case hp => exact Reps.none _ _); intro v1 w2 ho8 hb hg_ hnew_; clear hg_ hnew_; have HO1 := lhid ho8; have HB1 := lhid hb; have hxr1 := pw_cell_below (HBW.out.trans (hb.mono HBW.out.size)) HX0.out; clear ho8 hb hxr) | ((with_reducible refine gate_builtin (b := .append) (xs := #[.tmp 22, .tmp 26]) rfl ?_); at_builtin; refine Kd.R_append_rows (Kd.int .u8) (w0 := wr) wr.heap.size rfl (.tmp 22) (.tmp 26) 22 5 (.int .u8 0) 1 rfl Try.underlying22 info5 rfl (by decide) (by omega) v1 [] x _ _ _ (fun _ => True) (fun _ => False) rfl rfl ?aO ?aR (fun _ _ h => h) (fun _ h => h.elim) ?aF ?aB ?aS ?aL ?_; (case aR => exact (Kd.C_below HCI.out (HBW.out.trans (HB1.out.mono HBW.out.size)))); (case aB => exact HB1.out); (case aF => exact (fun _ _ => trivial)); (case aO => exact HO1.out); (case aS => exact HB1.out.size); (case aL => have := HXL.out; simp; omega); intro v2 w3 ho hb hg hat; have HO := lhid (show Kd.R (Kd.int .u8) 5 w3 wr.heap.size (fun _ => True) v2 x from ho); have HB3 := lhid hb; clear ho hb hg hat HO1 HB1))
      clear hxr1
      have HD3 := lhid (HDr.out.fresh (S := fun q => v2.ownBlock = some q) HB3.out (fun q hq => ⟨(own_typed HO.out q hq).1, (own_typed HO.out q hq).2.1⟩))
      obtain ⟨Ao, co, rfl⟩ := Kd.R_slice HO.out
      have HR13 := lhid (blk_below HR1.out HB3.out)
      have HR23 := lhid (blk_below HR2.out HB3.out)
      have HN := lhid (show er.length < 4096 by have := HEL.out; omega)
      have HWZ := lhid HDr.out.size
      clear HDr HR1 HR2 HBW HB3
      go_wp2_with fail
      with_reducible refine (ADx.add_calls HD3.out Ao co x (fun W hW => (Kd.R_reads' (R_keepI HO.out (fun q hq => hW q (.inr hq)))).2.2) (Kd.R_reads' HO.out).2.1 HN.out).mono ?_
      rintro e w4 ⟨rfl, hD, hB⟩
      have HD4 := lhid hD
      have HO4 := lhid (R_keepI HO.out (fun q hq => hB q (.inr hq)))
      have HR14 := lhid ((hB rb (.inl (.inl rfl))).trans HR13.out)
      have HR24 := lhid ((hB rc (.inl (.inr rfl))).trans HR23.out)
      have HW4 := lhid (HB0.out.trans hD.bl)
      clear hD hB HD3 HO HR13 HR23
      obtain ⟨y, hy⟩ : ∃ y, y = addV er x := ⟨_, rfl⟩
      rw [← hy]
      have HY := lhid hy
      clear hy
      go_wp2_with fail
      have hb := below_drew1 (Below.refl w4.heap.size w4)
      have HD_1 := lhid (HD4.out.next hb)
      have HO_2 := lhid (Kd.R_below HO4.out hb)
      have HR1_3 := lhid (blk_below HR14.out hb)
      have HR2_4 := lhid (blk_below HR24.out hb)
      have HW_5 := lhid (below_then HW4.out HW4.out.size hb)
      clear HD4 HO4 HR14 HR24 HW4 hb
      refine start_ (n := 14) (S := fun w' => w'.cell? ⟨rb, 0, none⟩ = some (.slice A' er.length c') ∧ w'.cell? (ad.add k) = some (.slice Ai x.length ci)) (ds := [11]) #[false, false, false, false, false, false, false, false, false, false, false, false, false, false] (by kernel_rfl) rfl rfl ⟨((blk_cell HR1_3.out 0).trans rfl), (pw_cell_below HW_5.out HX0.out)⟩ (fun hHeld => ?_)
      generalize w4.drew = w5 at HD_1 HO_2 HR1_3 HR2_4 HW_5 hHeld ⊢
      refine pure_ (i := 1) (N := some 36) (v := ?_) (a' := ?_) #[false, true, false, false, false, false, false, false, false, false, false, false, false, false] rfl rfl (by kernel_rfl) (fun _ _ _ h => h) (Or.inl ⟨by rfl, ?_⟩) ?_ ?_
      rotate_left
      · intro w'
        go_simp
        with_reducible rfl
      rotate_left
      · simp only [Act.put, List.setIfInBounds_toArray, List.set_cons_zero, List.set_cons_succ, i64_w, i32_w]
        rfl
      refine pure_ (i := 2) (N := some 37) (v := ?_) (a' := ?_) #[false, true, true, false, false, false, false, false, false, false, false, false, false, false] rfl rfl (by kernel_rfl) (fun _ _ _ h => h) (Or.inl ⟨by rfl, ?_⟩) ?_ ?_
      rotate_left
      · intro w'
        go_simp
        with_reducible rfl
      rotate_left
      · simp only [Act.put, List.setIfInBounds_toArray, List.set_cons_zero, List.set_cons_succ, i64_w, i32_w]
        rfl
      refine pure_ (i := 3) (N := some 38) (v := ?_) (a' := ?_) #[false, true, true, true, false, false, false, false, false, false, false, false, false, false] rfl rfl (by kernel_rfl) (fun _ _ _ h => h) (Or.inl ⟨by rfl, ?_⟩) ?_ ?_
      rotate_left
      · intro w'
        go_simp
        with_reducible rfl
      rotate_left
      · simp only [Act.put, List.setIfInBounds_toArray, List.set_cons_zero, List.set_cons_succ, i64_w, i32_w]
        rfl
      refine take_ (i := 0) (N := some 35) (v := ?_) (a' := ?_) #[true, true, true, true, false, false, false, false, false, false, false, false, false, false] rfl rfl (by kernel_rfl) (fun _ _ _ h => h) (Or.inl ⟨by rfl, ?_⟩) hHeld ?_ ?_
      rotate_left
      · rintro w' ⟨s0, s1⟩
        go_simp
        with_reducible rfl
      rotate_left
      · simp only [Act.put, List.setIfInBounds_toArray, List.set_cons_zero, List.set_cons_succ, i64_w, i32_w]
        rfl
      refine take_ (i := 4) (N := some 39) (v := ?_) (a' := ?_) #[true, true, true, true, true, false, false, false, false, false, false, false, false, false] rfl rfl (by kernel_rfl) (fun _ _ _ h => h) (Or.inl ⟨by rfl, ?_⟩) hHeld ?_ ?_
      rotate_left
      · rintro w' ⟨s0, s1⟩
        go_simp
        with_reducible rfl
      rotate_left
      · simp only [Act.put, List.setIfInBounds_toArray, List.set_cons_zero, List.set_cons_succ, i64_w, i32_w]
        rfl
      refine join_ (σ := Value × Nat) 3 #[true, true, true, true, true, true, true, true, true, true, true, false, false, false] (fun s_ => [(40, .tuple #[.agg #[s_.1], .int .i64 y.1, .int .i64 y.2]), (34, .tuple #[.agg #[s_.1], .int .i64 y.1, .int .i64 y.2]), (41, .agg #[s_.1]), (42, .int .i64 y.1), (43, .int .i64 y.2), (12, .pointer (some ⟨s_.2, 0, none⟩))]) (fun s_ w' => (w'.cell? ⟨rb, 0, none⟩ = some (.slice A' er.length c') ∧ w'.cell? (ad.add k) = some (.slice Ai x.length ci)) ∧ Hid (Below w5.heap.size w5 w') ∧ Hid (ADx w00.heap.size M0 P0 (fun q => (fun k => (k = rb ∨ k = rc) ∨ (Value.slice Ao x.length co).ownBlock = some k) q ∨ q = s_.2) w w' g (addE er x) (addE er x) s_.1) ∧ Hid (w'.heap[s_.2]? = some (.cells #[.slice none 0 0] 64) ∧ w5.heap.size ≤ s_.2)) ?_ ?_
      rotate_left
      · intro hCont
        refine two_ (i := 5) (j := 10) (Ni := some 40) (Nj := some 12) #[true, true, true, true, true, true, false, false, false, false, false, false, false, false] #[true, true, true, true, true, false, false, false, false, false, true, false, false, false] rfl rfl rfl rfl (by kernel_rfl) (by decide) (by decide) (fun K hK => ?_) (fun K hK => ?_)
        · skip
          refine goes_ Try.func74 (by kernel_rfl) rfl #[.agg #[.slice A' er.length c'], .slice Ai x.length ci] (by rfl) rfl rfl (by (try simp only [List.map_toArray, List.map_cons, List.map_nil]); first | done | rfl) ?_
          with_reducible refine (ADx.ref_calls A' c' HD_1.out Ai ci x (Kd.C_below HCI.out HW_5.out) HCL.out HN.out (by have := HXL.out; omega)).mono ?_
          rintro e wf ⟨v5, rfl, hD5, hb5⟩
          refine ⟨_, rfl, ?_⟩
          rw [← HY.out]
          have HDa := lhid hD5
          have HBa := lhid hb5
          clear hD5 hb5
          refine hK.out _ _ ⟨(pw_cell_below HBa.out ((blk_cell HR1_3.out 0).trans rfl)), (pw_cell_below HBa.out (pw_cell_below HW_5.out HX0.out))⟩ (fun hHeld => ?_)
          clear hK K
          refine norm_ (a' := ?_) ?_ ?_
          rotate_left
          · show Act.put _ (some 40) _ = _
            simp only [Act.put, List.setIfInBounds_toArray, List.set_cons_zero, List.set_cons_succ, i64_w, i32_w]
            rfl
          refine pure_ (i := 6) (N := some 34) (v := ?_) (a' := ?_) #[true, true, true, true, true, true, true, false, false, false, false, false, false, false] rfl rfl (by kernel_rfl) (fun _ _ _ h => h) (Or.inl ⟨by rfl, ?_⟩) ?_ ?_
          rotate_left
          · intro w'
            go_simp
            with_reducible rfl
          rotate_left
          · simp only [Act.put, List.setIfInBounds_toArray, List.set_cons_zero, List.set_cons_succ, i64_w, i32_w]
            rfl
          refine pure_ (i := 7) (N := some 41) (v := ?_) (a' := ?_) #[true, true, true, true, true, true, true, true, false, false, false, false, false, false] rfl rfl (by kernel_rfl) (fun _ _ _ h => h) (Or.inl ⟨by rfl, ?_⟩) ?_ ?_
          rotate_left
          · intro w'
            go_simp
            with_reducible rfl
          rotate_left
          · simp only [Act.put, List.setIfInBounds_toArray, List.set_cons_zero, List.set_cons_succ, i64_w, i32_w]
            rfl
          refine pure_ (i := 8) (N := some 42) (v := ?_) (a' := ?_) #[true, true, true, true, true, true, true, true, true, false, false, false, false, false] rfl rfl (by kernel_rfl) (fun _ _ _ h => h) (Or.inl ⟨by rfl, ?_⟩) ?_ ?_
          rotate_left
          · intro w'
            go_simp
            with_reducible rfl
          rotate_left
          · simp only [Act.put, List.setIfInBounds_toArray, List.set_cons_zero, List.set_cons_succ, i64_w, i32_w]
            rfl
          refine pure_ (i := 9) (N := some 43) (v := ?_) (a' := ?_) #[true, true, true, true, true, true, true, true, true, true, false, false, false, false] rfl rfl (by kernel_rfl) (fun _ _ _ h => h) (Or.inl ⟨by rfl, ?_⟩) ?_ ?_
          rotate_left
          · intro w'
            go_simp
            with_reducible rfl
          rotate_left
          · simp only [Act.put, List.setIfInBounds_toArray, List.set_cons_zero, List.set_cons_succ, i64_w, i32_w]
            rfl
          refine one_ (i := 10) (N := some 12) #[true, true, true, true, true, true, true, true, true, true, true, false, false, false] rfl rfl (by kernel_rfl) (by decide) (fun K hK => ?_)
          refine value_ (w1 := ?_) (v := ?_) (by rfl) rfl ?_ ?_
          rotate_left 2
          · go_simp
            constructor
            · rfl
            · rfl
          have HBb := lhid (below_alloc HBa.out (.cells #[.slice none 0 0] 64))
          have HDb := lhid (HDa.out.fresh (S := fun q => q = wf.heap.size) (below_alloc (Below.refl wf.heap.size wf) (.cells #[.slice none 0 0] 64)) (fun q hq => by subst hq; exact ⟨Nat.le_refl _, by simp⟩))
          have HNb := lhid (And.intro (blk_new wf (.cells #[.slice none 0 0] 64)) HBa.out.size)
          refine hK.out _ _ ⟨(pw_cell_below HBb.out ((blk_cell HR1_3.out 0).trans rfl)), (pw_cell_below HBb.out (pw_cell_below HW_5.out HX0.out))⟩ (fun hHeld => ?_)
          clear hK K
          refine norm_ (a' := ?_) ?_ ?_
          rotate_left
          · show Act.put _ (some 12) _ = _
            simp only [Act.put, List.setIfInBounds_toArray, List.set_cons_zero, List.set_cons_succ, i64_w, i32_w]
            rfl
          exact norm_ (by simp only [putAll, Act.put, List.setIfInBounds_toArray, List.set_cons_zero, List.set_cons_succ]) (hCont (v5, wf.heap.size) _ ⟨hHeld, HBb, HDb, HNb⟩)
        · skip
          refine value_ (w1 := ?_) (v := ?_) (by rfl) rfl ?_ ?_
          rotate_left 2
          · go_simp
            constructor
            · rfl
            · rfl
          have HBa := lhid (below_alloc (Below.refl w5.heap.size w5) (.cells #[.slice none 0 0] 64))
          have HDa := lhid (HD_1.out.fresh (S := fun q => q = w5.heap.size) HBa.out (fun q hq => by subst hq; exact ⟨Nat.le_refl _, by simp⟩))
          have HNa := lhid (blk_new w5 (.cells #[.slice none 0 0] 64))
          refine hK.out _ _ ⟨(pw_cell_below HBa.out ((blk_cell HR1_3.out 0).trans rfl)), (pw_cell_below HBa.out (pw_cell_below HW_5.out HX0.out))⟩ (fun hHeld => ?_)
          clear hK K
          refine norm_ (a' := ?_) ?_ ?_
          rotate_left
          · show Act.put _ (some 12) _ = _
            simp only [Act.put, List.setIfInBounds_toArray, List.set_cons_zero, List.set_cons_succ, i64_w, i32_w]
            rfl
          refine one_ (i := 5) (N := some 40) #[true, true, true, true, true, true, false, false, false, false, true, false, false, false] rfl rfl (by kernel_rfl) (by decide) (fun K hK => ?_)
          refine goes_ Try.func74 (by kernel_rfl) rfl #[.agg #[.slice A' er.length c'], .slice Ai x.length ci] (by rfl) rfl rfl (by (try simp only [List.map_toArray, List.map_cons, List.map_nil]); first | done | rfl) ?_
          with_reducible refine (ADx.ref_calls A' c' HDa.out Ai ci x (Kd.C_below HCI.out (below_then HW_5.out HW_5.out.size HBa.out)) HCL.out HN.out (by have := HXL.out; omega)).mono ?_
          rintro e ws ⟨v5, rfl, hD5, hb5⟩
          refine ⟨_, rfl, ?_⟩
          rw [← HY.out]
          have HDb := lhid hD5
          have HBb := lhid (below_then HBa.out HBa.out.size hb5)
          have HNb := lhid (And.intro (blk_below HNa.out hb5) (Nat.le_refl w5.heap.size))
          clear hD5 hb5
          refine hK.out _ _ ⟨(pw_cell_below HBb.out ((blk_cell HR1_3.out 0).trans rfl)), (pw_cell_below HBb.out (pw_cell_below HW_5.out HX0.out))⟩ (fun hHeld => ?_)
          clear hK K
          refine norm_ (a' := ?_) ?_ ?_
          rotate_left
          · show Act.put _ (some 40) _ = _
            simp only [Act.put, List.setIfInBounds_toArray, List.set_cons_zero, List.set_cons_succ, i64_w, i32_w]
            rfl
          refine pure_ (i := 6) (N := some 34) (v := ?_) (a' := ?_) #[true, true, true, true, true, true, true, false, false, false, true, false, false, false] rfl rfl (by kernel_rfl) (fun _ _ _ h => h) (Or.inl ⟨by rfl, ?_⟩) ?_ ?_
          rotate_left
          · intro w'
            go_simp
            with_reducible rfl
          rotate_left
          · simp only [Act.put, List.setIfInBounds_toArray, List.set_cons_zero, List.set_cons_succ, i64_w, i32_w]
            rfl
          refine pure_ (i := 7) (N := some 41) (v := ?_) (a' := ?_) #[true, true, true, true, true, true, true, true, false, false, true, false, false, false] rfl rfl (by kernel_rfl) (fun _ _ _ h => h) (Or.inl ⟨by rfl, ?_⟩) ?_ ?_
          rotate_left
          · intro w'
            go_simp
            with_reducible rfl
          rotate_left
          · simp only [Act.put, List.setIfInBounds_toArray, List.set_cons_zero, List.set_cons_succ, i64_w, i32_w]
            rfl
          refine pure_ (i := 8) (N := some 42) (v := ?_) (a' := ?_) #[true, true, true, true, true, true, true, true, true, false, true, false, false, false] rfl rfl (by kernel_rfl) (fun _ _ _ h => h) (Or.inl ⟨by rfl, ?_⟩) ?_ ?_
          rotate_left
          · intro w'
            go_simp
            with_reducible rfl
          rotate_left
          · simp only [Act.put, List.setIfInBounds_toArray, List.set_cons_zero, List.set_cons_succ, i64_w, i32_w]
            rfl
          refine pure_ (i := 9) (N := some 43) (v := ?_) (a' := ?_) #[true, true, true, true, true, true, true, true, true, true, true, false, false, false] rfl rfl (by kernel_rfl) (fun _ _ _ h => h) (Or.inl ⟨by rfl, ?_⟩) ?_ ?_
          rotate_left
          · intro w'
            go_simp
            with_reducible rfl
          rotate_left
          · simp only [Act.put, List.setIfInBounds_toArray, List.set_cons_zero, List.set_cons_succ, i64_w, i32_w]
            rfl
          exact norm_ (by simp only [putAll, Act.put, List.setIfInBounds_toArray, List.set_cons_zero, List.set_cons_succ]) (hCont (v5, w5.heap.size) _ ⟨hHeld, HBb, HDb, HNb⟩)
      rintro ⟨v5, bn⟩ w' ⟨hHeld, HBN, HDN, HNN⟩
      obtain ⟨A5, c5, rfl, hc5, -⟩ := HDN.out.V
      refine norm_ (a' := ?_) ?_ ?_
      rotate_left
      · simp only [putAll, Act.put, List.setIfInBounds_toArray, List.set_cons_zero, List.set_cons_succ]
        rfl
      refine last_ (i := 11) (N := none) #[true, true, true, true, true, true, true, true, true, true, true, true, false, false] rfl rfl (by kernel_rfl) (by decide) (fun K hK => ?_)
      have hcn := (blk_cell HNN.out.1 0).trans (show _ = some (Value.slice none 0 0) from rfl)
      have hfn := blk_frozen HNN.out.1 0
      refine skip_ (w1 := ?_) (by rfl) rfl ?_ ?_
      rotate_left
      · go_simp
        rfl
      refine hK.out _ _ ?_
      clear hK K
      refine pure_ (i := 12) (N := some 13) (v := ?_) (a' := ?_) #[true, true, true, true, true, true, true, true, true, true, true, true, true, false] rfl rfl (by kernel_rfl) (fun _ _ _ h => h) (Or.inl ⟨by rfl, ?_⟩) ?_ ?_
      rotate_left
      · intro w'
        go_simp
        with_reducible rfl
      rotate_left
      · simp only [Act.put, List.setIfInBounds_toArray, List.set_cons_zero, List.set_cons_succ, i64_w, i32_w]
        rfl
      refine pure_ (i := 13) (N := some 14) (v := ?_) (a' := ?_) #[true, true, true, true, true, true, true, true, true, true, true, true, true, true] rfl rfl (by kernel_rfl) (fun _ _ _ h => h) (Or.inl ⟨by rfl, ?_⟩) ?_ ?_
      rotate_left
      · intro w'
        go_simp
        with_reducible rfl
      rotate_left
      · simp only [Act.put, List.setIfInBounds_toArray, List.set_cons_zero, List.set_cons_succ, i64_w, i32_w]
        rfl
      refine done_ (by kernel_rfl) ?_
      
      have HGE := lhid (show w.heap.size ≤ bn from Nat.le_trans HD_1.out.size HNN.out.2)
      have HLB := lhid (show w5.heap.size ≤ bn from HNN.out.2)
      have HNB := lhid (show (World.setCell w' ⟨bn, 0, none⟩ (.slice A5 (addE er x).length c5)).heap[bn]? = some (.cells #[(.slice A5 (addE er x).length c5)] 64) from blk_put HNN.out.1 0 (.slice A5 (addE er x).length c5) rfl)
      have HD6 := lhid (show ADx w00.heap.size M0 P0 (fun q => (fun k => (k = rb ∨ k = rc) ∨ (Value.slice Ao x.length co).ownBlock = some k) q ∨ q = bn) w (World.setCell w' ⟨bn, 0, none⟩ (.slice A5 (addE er x).length c5)) g (addE er x) (addE er x) (.slice A5 (addE er x).length c5) from ADx.set (b := bn) HDN.out (.inr rfl) HGE.out 0 (.slice A5 (addE er x).length c5))
      have HLR := lhid (show rb < w5.heap.size ∧ rc < w5.heap.size from ⟨blk_lt HR1_3.out, blk_lt HR2_4.out⟩)
      have HLO := lhid (fun q (hq : (Value.slice Ao x.length co).ownBlock = some q) => (own_typed HO_2.out q hq).2.1)
      have hbn := HBN.out
      clear HD_1 HW_5 hcn hfn HDN HNN
      have HO_6 := lhid (Kd.R_below HO_2.out hbn)
      have HR1_7 := lhid (blk_below HR1_3.out hbn)
      have HR2_8 := lhid (blk_below HR2_4.out hbn)
      clear HO_2 HR1_3 HR2_4 hbn
      have HR16 := lhid (blk_far HR1_7.out (p := ⟨bn, 0, none⟩) (show rb ≠ bn by have := HLR.out; have := HLB.out; omega) (.slice A5 (addE er x).length c5))
      have HR26 := lhid (blk_far HR2_8.out (p := ⟨bn, 0, none⟩) (show rc ≠ bn by have := HLR.out; have := HLB.out; omega) (.slice A5 (addE er x).length c5))
      have HO6 := lhid (R_keepI HO_6.out (W := World.setCell w' ⟨bn, 0, none⟩ (.slice A5 (addE er x).length c5)) (fun q hq => Below.heap_setCell w' _ _ q (show q ≠ bn by have := HLO.out q hq; have := HLB.out; omega)))
      have HW6 := lhid (HB0.out.trans HD6.out.bl)
      clear HLO HLR HLB HO_6 HR1_7 HR2_8
      clear hHeld HBN
      generalize World.setCell w' ⟨bn, 0, none⟩ (.slice A5 (addE er x).length c5) = w6 at HNB HD6 HR16 HR26 HO6 HW6 ⊢
      have d1 : (y.1 != y.1) = false := by simp
      have d2 : (y.2 != y.2) = false := by simp
      have d3 : ((strOfNums x).toList != (strOfNums x).toList) = false := by simp
      go_wp2_with fail
      have hb := below_drew1 (Below.refl w6.heap.size w6)
      have HD_9 := lhid (HD6.out.next hb)
      have HR1_10 := lhid (blk_below HR16.out hb)
      have HR2_11 := lhid (blk_below HR26.out hb)
      have HO_12 := lhid (Kd.R_below HO6.out hb)
      have HW_13 := lhid (below_then HW6.out HW6.out.size hb)
      have HN_14 := lhid (blk_below HNB.out hb)
      clear HD6 HR16 HR26 HO6 HW6 HNB hb
      refine start_ (n := 18) (S := fun w' => w'.cell? (ad.add k) = some (.slice Ai x.length ci) ∧ (convert 22 9 (.slice Ao x.length co)).run Try.prog w' = .ok (.string (strOfNums x)) w' ∧ (convert 22 9 (.slice Ai x.length ci)).run Try.prog w' = .ok (.string (strOfNums x)) w') (ds := []) #[false, false, false, false, false, false, false, false, false, false, false, false, false, false, false, false, false, false] (by kernel_rfl) rfl rfl ⟨(pw_cell_below HW_13.out HX0.out), Kd.C_string (P := Try.prog) (A := Ao) (c := co) Try.underlying22 Try.underlying5 Try.underlying9 ((Kd.R_reads' HO_12.out).2.2), Kd.C_string (P := Try.prog) (A := Ai) (c := ci) Try.underlying22 Try.underlying5 Try.underlying9 (Kd.C_below HCI.out HW_13.out)⟩ (fun hHeld => ?_)
      generalize w6.drew = w7 at HD_9 HR1_10 HR2_11 HO_12 HW_13 HN_14 hHeld ⊢
      refine pure_ (i := 0) (N := some 44) (v := ?_) (a' := ?_) #[true, false, false, false, false, false, false, false, false, false, false, false, false, false, false, false, false, false] rfl rfl (by kernel_rfl) (fun _ _ _ h => h) (Or.inl ⟨by rfl, ?_⟩) ?_ ?_
      rotate_left
      · intro w'
        go_simp
        with_reducible rfl
      rotate_left
      · simp only [Act.put, List.setIfInBounds_toArray, List.set_cons_zero, List.set_cons_succ, i64_w, i32_w]
        rfl
      refine pure_ (i := 1) (N := some 45) (v := ?_) (a' := ?_) #[true, true, false, false, false, false, false, false, false, false, false, false, false, false, false, false, false, false] rfl rfl (by kernel_rfl) (fun _ _ _ h => h) (Or.inl ⟨by rfl, ?_⟩) ?_ ?_
      rotate_left
      · intro w'
        go_simp
        with_reducible rfl
      rotate_left
      · simp only [Act.put, List.setIfInBounds_toArray, List.set_cons_zero, List.set_cons_succ, i64_w, i32_w]
        rfl
      refine pure_ (i := 2) (N := some 46) (v := ?_) (a' := ?_) #[true, true, true, false, false, false, false, false, false, false, false, false, false, false, false, false, false, false] rfl rfl (by kernel_rfl) (fun _ _ _ h => h) (Or.inl ⟨by rfl, ?_⟩) ?_ ?_
      rotate_left
      · intro w'
        go_simp
        with_reducible rfl
      rotate_left
      · simp only [Act.put, List.setIfInBounds_toArray, List.set_cons_zero, List.set_cons_succ, i64_w, i32_w]
        rfl
      refine pure_ (i := 3) (N := some 47) (v := ?_) (a' := ?_) #[true, true, true, true, false, false, false, false, false, false, false, false, false, false, false, false, false, false] rfl rfl (by kernel_rfl) (fun _ _ _ h => h) (Or.inl ⟨by rfl, ?_⟩) ?_ ?_
      rotate_left
      · intro w'
        go_simp
        with_reducible rfl
      rotate_left
      · simp only [Act.put, List.setIfInBounds_toArray, List.set_cons_zero, List.set_cons_succ, i64_w, i32_w]
        rfl
      refine pure_ (i := 4) (N := some 48) (v := ?_) (a' := ?_) #[true, true, true, true, true, false, false, false, false, false, false, false, false, false, false, false, false, false] rfl rfl (by kernel_rfl) (fun _ _ _ h => h) (Or.inl ⟨by rfl, ?_⟩) ?_ ?_
      rotate_left
      · intro w'
        go_simp
        with_reducible rfl
      rotate_left
      · simp only [Act.put, List.setIfInBounds_toArray, List.set_cons_zero, List.set_cons_succ, i64_w, i32_w]
        rfl
      refine pure_ (i := 5) (N := some 49) (v := ?_) (a' := ?_) #[true, true, true, true, true, true, false, false, false, false, false, false, false, false, false, false, false, false] rfl rfl (by kernel_rfl) (fun _ _ _ h => h) (Or.inl ⟨by rfl, ?_⟩) ?_ ?_
      rotate_left
      · intro w'
        go_simp
        with_reducible rfl
      rotate_left
      · simp only [Act.put, List.setIfInBounds_toArray, List.set_cons_zero, List.set_cons_succ, i64_w, i32_w]
        rfl
      refine pure_ (i := 6) (N := some 50) (v := ?_) (a' := ?_) #[true, true, true, true, true, true, true, false, false, false, false, false, false, false, false, false, false, false] rfl rfl (by kernel_rfl) (fun _ _ _ h => h) (Or.inl ⟨by rfl, ?_⟩) ?_ ?_
      rotate_left
      · intro w'
        go_simp
        with_reducible rfl
      rotate_left
      · simp only [Act.put, List.setIfInBounds_toArray, List.set_cons_zero, List.set_cons_succ, i64_w, i32_w]
        rfl
      refine pure_ (i := 7) (N := some 51) (v := ?_) (a' := ?_) #[true, true, true, true, true, true, true, true, false, false, false, false, false, false, false, false, false, false] rfl rfl (by kernel_rfl) (fun _ _ _ h => h) (Or.inl ⟨by rfl, ?_⟩) ?_ ?_
      rotate_left
      · intro w'
        go_simp
        with_reducible rfl
      rotate_left
      · simp only [Act.put, List.setIfInBounds_toArray, List.set_cons_zero, List.set_cons_succ, i64_w, i32_w]
        rfl
      refine pure_ (i := 8) (N := some 52) (v := ?_) (a' := ?_) #[true, true, true, true, true, true, true, true, true, false, false, false, false, false, false, false, false, false] rfl rfl (by kernel_rfl) (fun _ _ _ h => h) (Or.inl ⟨by rfl, ?_⟩) ?_ ?_
      rotate_left
      · intro w'
        go_simp
        with_reducible rfl
      rotate_left
      · simp only [Act.put, List.setIfInBounds_toArray, List.set_cons_zero, List.set_cons_succ, i64_w, i32_w]
        rfl
      refine pure_ (i := 9) (N := some 53) (v := ?_) (a' := ?_) #[true, true, true, true, true, true, true, true, true, true, false, false, false, false, false, false, false, false] rfl rfl (by kernel_rfl) (fun _ _ _ h => h) (Or.inl ⟨by rfl, ?_⟩) ?_ ?_
      rotate_left
      · intro w'
        go_simp
        with_reducible rfl
      rotate_left
      · simp only [Act.put, List.setIfInBounds_toArray, List.set_cons_zero, List.set_cons_succ, i64_w, i32_w]
        rfl
      refine pure_ (i := 11) (N := some 55) (v := ?_) (a' := ?_) #[true, true, true, true, true, true, true, true, true, true, false, true, false, false, false, false, false, false] rfl rfl (by kernel_rfl) (fun _ _ _ h => h) (Or.inl ⟨by rfl, ?_⟩) ?_ ?_
      rotate_left
      · intro w'
        go_simp
        with_reducible rfl
      rotate_left
      · simp only [Act.put, List.setIfInBounds_toArray, List.set_cons_zero, List.set_cons_succ, i64_w, i32_w]
        rfl
      refine pure_ (i := 12) (N := some 56) (v := ?_) (a' := ?_) #[true, true, true, true, true, true, true, true, true, true, false, true, true, false, false, false, false, false] rfl rfl (by kernel_rfl) (fun _ _ _ h => h) (Or.inl ⟨by rfl, ?_⟩) ?_ ?_
      rotate_left
      · intro w'
        go_simp
        with_reducible rfl
      rotate_left
      · simp only [Act.put, List.setIfInBounds_toArray, List.set_cons_zero, List.set_cons_succ, i64_w, i32_w]
        rfl
      refine pure_ (i := 13) (N := some 57) (v := ?_) (a' := ?_) #[true, true, true, true, true, true, true, true, true, true, false, true, true, true, false, false, false, false] rfl rfl (by kernel_rfl) (fun _ _ _ h => h) (Or.inl ⟨by rfl, ?_⟩) ?_ ?_
      rotate_left
      · intro w'
        go_simp
        with_reducible rfl
      rotate_left
      · simp only [Act.put, List.setIfInBounds_toArray, List.set_cons_zero, List.set_cons_succ, i64_w, i32_w]
        rfl
      refine take_ (i := 10) (N := some 54) (v := ?_) (a' := ?_) #[true, true, true, true, true, true, true, true, true, true, true, true, true, true, false, false, false, false] rfl rfl (by kernel_rfl) (fun _ _ _ h => h) (Or.inl ⟨by rfl, ?_⟩) hHeld ?_ ?_
      rotate_left
      · rintro w' ⟨s0, s1, s2⟩
        go_simp
        with_reducible rfl
      rotate_left
      · simp only [Act.put, List.setIfInBounds_toArray, List.set_cons_zero, List.set_cons_succ, i64_w, i32_w]
        rfl
      refine take_ (i := 14) (N := some 58) (v := ?_) (a' := ?_) #[true, true, true, true, true, true, true, true, true, true, true, true, true, true, true, false, false, false] rfl rfl (by kernel_rfl) (fun _ _ _ h => h) (Or.inl ⟨by rfl, ?_⟩) hHeld ?_ ?_
      rotate_left
      · rintro w' ⟨s0, s1, s2⟩
        go_simp
        with_reducible rfl
      rotate_left
      · simp only [Act.put, List.setIfInBounds_toArray, List.set_cons_zero, List.set_cons_succ, i64_w, i32_w]
        rfl
      refine take_ (i := 15) (N := some 59) (v := ?_) (a' := ?_) #[true, true, true, true, true, true, true, true, true, true, true, true, true, true, true, true, false, false] rfl rfl (by kernel_rfl) (fun _ _ _ h => h) (Or.inl ⟨by rfl, ?_⟩) hHeld ?_ ?_
      rotate_left
      · rintro w' ⟨s0, s1, s2⟩
        go_simp
        with_reducible rfl
      rotate_left
      · simp only [Act.put, List.setIfInBounds_toArray, List.set_cons_zero, List.set_cons_succ, i64_w, i32_w]
        rfl
      refine pure_ (i := 16) (N := some 60) (v := ?_) (a' := ?_) #[true, true, true, true, true, true, true, true, true, true, true, true, true, true, true, true, true, false] rfl rfl (by kernel_rfl) (fun _ _ _ h => h) (Or.inl ⟨by rfl, ?_⟩) ?_ ?_
      rotate_left
      · intro w'
        go_simp
        with_reducible rfl
      rotate_left
      · simp only [Act.put, List.setIfInBounds_toArray, List.set_cons_zero, List.set_cons_succ, i64_w, i32_w]
        rfl
      refine pure_ (i := 17) (N := some 61) (v := ?_) (a' := ?_) #[true, true, true, true, true, true, true, true, true, true, true, true, true, true, true, true, true, true] rfl rfl (by kernel_rfl) (fun _ _ _ h => h) (Or.inl ⟨by rfl, ?_⟩) ?_ ?_
      rotate_left
      · intro w'
        go_simp
        with_reducible rfl
      rotate_left
      · simp only [Act.put, List.setIfInBounds_toArray, List.set_cons_zero, List.set_cons_succ, i64_w, i32_w]
        rfl
      refine done_ (by kernel_rfl) ?_
      
      clear d1 d2 d3 hHeld
      clear hc5
      have r1 := (blk_cell HR1_10.out 0).trans (show _ = some (Value.slice A' er.length c') from rfl)
      have f1 := blk_frozen HR1_10.out 0
      have rn := (blk_cell HN_14.out 0).trans (show _ = some (.slice A5 (addE er x).length c5) from rfl)
      go_upto_region 11 with (fail)
      clear r1 f1 rn
      have HR18 := lhid (show (World.setCell w7 ⟨rb, 0, none⟩ (.slice A5 (addE er x).length c5)).heap[rb]? = some (.cells #[(.slice A5 (addE er x).length c5)] 64) from blk_put HR1_10.out 0 (.slice A5 (addE er x).length c5) rfl)
      have HR28 := lhid (blk_far HR2_11.out (p := ⟨rb, 0, none⟩) (show rc ≠ rb from fun e => HRB.out.2.2 e.symm) (.slice A5 (addE er x).length c5))
      have HO8 := lhid (R_keepI HO_12.out (W := World.setCell w7 ⟨rb, 0, none⟩ (.slice A5 (addE er x).length c5)) (fun q hq => Below.heap_setCell w7 _ _ q (show q ≠ rb by rintro rfl; obtain ⟨cs, hcs⟩ := Kd.R_typed HO_12.out _ hq; exact blk_ne hcs HR1_10.out (by decide) rfl)))
      have HD8 := lhid ((ADx.set (b := rb) HD_9.out (.inl (.inl (.inl rfl))) HRB.out.1 0 (.slice A5 (addE er x).length c5)).drop (B' := fun q => (q = rb ∨ q = rc) ∨ (Value.slice Ao x.length co).ownBlock = some q) (fun q z => .inl z))
      clear HD_9 HR1_10 HR2_11 HO_12 HW_13 HN_14
      generalize World.setCell w7 ⟨rb, 0, none⟩ (.slice A5 (addE er x).length c5) = w8 at HR18 HR28 HO8 HD8 ⊢
      obtain ⟨m, hm⟩ : ∃ m, m = x.length := ⟨_, rfl⟩
      rw [← hm] at HO8 HD8 HXL ⊢
      have HM8 := lhid hm.symm
      clear hm
      obtain ⟨wa, hwa⟩ : ∃ q : World, q = wr := ⟨_, rfl⟩
      subst hwa
      go_loopw [15] (fun v wr => ∃ (j : Nat) (xs : List Int), j ≤ m ∧ v = .int .i64 j ∧ Hid (xs.length = m) ∧ Hid (Kd.R (Kd.int .u8) 5 wr wa.heap.size (fun _ => True) (.slice Ao m co) xs) ∧ Hid (wr.heap[rb]? = some (.cells #[(.slice A5 (addE er x).length c5)] 64)) ∧ Hid (wr.heap[rc]? = some (.cells #[.slice none 0 0] 64)) ∧ Hid (ADx w00.heap.size M0 P0 (fun q => (q = rb ∨ q = rc) ∨ (Value.slice Ao m co).ownBlock = some q) w wr g (addE er x) (addE er x) (.slice A5 (addE er x).length c5))) (fun v _ => m - (intOf v).toNat)
      case atStart => exact ⟨0, x, Nat.zero_le _, rfl, HM8, HO8, HR18, HR28, HD8⟩
      case round =>
        clear HM8 HO8 HR18 HR28 HD8
        obtain ⟨j, xs, hj, rfl, HXS, HOr, HR1r, HR2r, HDr⟩ := hrel
        by_cases hlj : j < m
        · have hji : (j : Int) < (m : Int) := by omega
          have hj0 : (0 : Int) ≤ (j : Int) := by omega
          have hm400 : (m : Int) ≤ 400 := by have := HXL.out; omega
          obtain ⟨ab, c2, hv, hab, _, _⟩ := Kd.R_form HOr.out (by have h1 := HXS.out; omega)
          injection hv with hv1 hv2 hv3
          subst hv1 hv3
          clear hv2
          have HAB := lhid hab
          clear hab
          have HNG := lhid (show rb ≠ ab ∧ rc ≠ ab from ⟨by rintro rfl; obtain ⟨cs, hcs⟩ := Kd.R_typed HOr.out rb rfl; exact blk_ne hcs HR1r.out (by decide) rfl, by rintro rfl; obtain ⟨cs, hcs⟩ := Kd.R_typed HOr.out rc rfl; exact blk_ne hcs HR2r.out (by decide) rfl⟩)
          obtain ⟨dc, df⟩ := Kd.R_celln (0 : Int) HOr.out (j : Int) (by omega) (by omega)
          rw [Int.toNat_natCast] at dc df
          go_upto_region 12 with (fail)
          have HO2 := lhid (show Kd.R (Kd.int .u8) 5 (World.setCell wr ⟨ab, j, none⟩ (.int .u8 ((rdOf 0 xs (j : Int) + 1) % 256))) wa.heap.size (fun _ => True) (.slice (some ⟨ab, 0, none⟩) m co) (xs.set j ((rdOf 0 xs (j : Int) + 1) % 256)) from by have h1 := Kd.R_putn HOr.out (j : Int) ((rdOf 0 xs (j : Int) + 1) % 256); rwa [Int.toNat_natCast] at h1)
          have HR12 := lhid (blk_far HR1r.out (p := ⟨ab, j, none⟩) HNG.out.1 (.int .u8 ((rdOf 0 xs (j : Int) + 1) % 256)))
          have HR22 := lhid (blk_far HR2r.out (p := ⟨ab, j, none⟩) HNG.out.2 (.int .u8 ((rdOf 0 xs (j : Int) + 1) % 256)))
          have HD2 := lhid (ADx.set (b := ab) HDr.out (.inr rfl) (Nat.le_trans HWZ.out HAB.out) j (.int .u8 ((rdOf 0 xs (j : Int) + 1) % 256)))
          clear dc df HOr HR1r HR2r HDr
          generalize World.setCell wr ⟨ab, j, none⟩ (.int .u8 ((rdOf 0 xs (j : Int) + 1) % 256)) = w30 at HO2 HR12 HR22 HD2 ⊢
          go_wp2_with fail
          go_roundw
          case rel => exact ⟨j + 1, _, by omega, by simp, lhid (by rw [List.length_set]; exact HXS.out), HO2, HR12, HR22, HD2⟩
          case measure => simp [intOf]; omega
        have hne : m = j := by omega
        subst hne
        clear hj hlj
        have HD9 := lhid (HDr.out.drop (B' := (fun q => q = rb ∨ q = rc)) (fun q z => .inl z))
        have HE9 := lhid (show addE er x = addAll es (more.take (k + 1)) by rw [addAll_next _ _ _ HK.out, ← HER.out, ← HXE.out])
        have hk4 : (k : Int) < 4000 := by have := HLE.out; omega
        go_wp2_with fail
        go_roundw
        case rel => exact ⟨k + 1, addE er x, A5, c5, by omega, by simp, HE9, HD9, HR1r, HR2r⟩
        case measure => simp [intOf]; omega
    have hne : more.length = k := by omega
    subst hne
    clear hk hlt
    rw [List.take_length] at HER
    have her := HER.out
    subst her
    have r1 := (blk_cell HR1.out 0).trans (show _ = some (Value.slice A' (addAll es more).length c') from rfl)
    have r2 := (blk_cell HR2.out 0).trans (show _ = some (Value.slice none 0 0) from rfl)
    have f2 := blk_frozen HR2.out 0
    go_wp2_with fail
    clear r1 r2 f2
    have h9 := blk_put HR2.out 0 (.slice A' (addAll es more).length c') rfl
    have q9 := (blk_cell h9 0).trans (show _ = some (.slice A' (addAll es more).length c') from rfl)
    have HD9 := lhid ((ADx.set (b := rc) HDr.out (.inr rfl) HRB.out.2.1 0 (.slice A' (addAll es more).length c')).drop (B' := fun _ => False) (fun q z => z.elim))
    have H9 := lhid h9
    clear h9 q9
    generalize World.setCell wr ⟨rc, 0, none⟩ (.slice A' (addAll es more).length c') = w9 at H9 HD9 ⊢
    refine bodyPost_ret (results_ct rfl _ _ rc 64 #[(.slice A' (addAll es more).length c')] (0, 0) _ rfl H9.out Try.underlying64 rfl (by kernel_rfl)) rfl ?_
    exact ⟨_, rfl, HD9.out⟩
end Go.Proofs.Ytacjdoekgmmfoaa.PL
end
section
namespace Go.Proofs.Ytacjdoekgmmfoaa.PL
open Go.RowKit Go.Proofs.YtacjdoekgmmfoaaW.PrintWords Go.Proofs.YtacjdoekgmmfoaaW.PrintLast Go.Proofs.YtacjdoekgmmfoaaW.PrintMore Go.Proofs.Ytacjdoekgmmfoaa.Opn
set_option linter.unusedVariables false
set_option linter.unusedSimpArgs false
set_option maxHeartbeats 12800000 in
set_option maxRecDepth 100000 in
/-- logged. -/
theorem logged_calls (base : Nat) (w : World) (g : Nat) (es : List (List Int)) (ls : List Int) (A : Option Addr) (c : Nat) (i n : Int) (hg : LG base w g es ls) (hC : Kd.C (Kd.slice 5 (Kd.int .u8)) w A es.length es) (hc : es.length ≤ c) (hls : ls = es.map leafS) (hl : es.length ≤ 4096) (hx : ∀ x ∈ es, x.length ≤ 256) :
    Calls Try.prog 45 #[.pointer (some ⟨g, 0, none⟩), .agg #[.slice A es.length c], .int .i64 i, .int .i64 n] w fun e w' => e = .returned (.bool true) ∧ Below w.heap.size w w' := by
  subst hls
  have HG := lhid hg
  have HC := lhid hC
  have HCC := lhid hc
  have HL := lhid hl
  have HX := lhid hx
  have HOK := lhid (leafs_ok es)
  have HLL := lhid (show (es.map leafS).length ≤ 4096 by rw [List.length_map]; exact hl)
  have HB := lhid (Below.refl w.heap.size w)
  have hu64 := Try.underlying64
  have hu39 := Try.underlying39
  have hu46 := Try.underlying46
  have hu22 := Try.underlying22
  clear hg hC hl hx
  obtain ⟨ls, hls⟩ : ∃ x, x = es.map leafS := ⟨_, rfl⟩
  rw [← hls] at HG HOK HLL
  have HLS := lhid hls
  clear hls
  have HG0 := HG
  have HC0 := HC
  go_enter Try.func45, Try.ntmps45
  go_wp2_with fail
  obtain ⟨rb, hrb⟩ : ∃ x, x = w.heap.size := ⟨_, rfl⟩
  have hb := below_alloc (Below.refl w.heap.size w) (.cells #[.slice A es.length c] 64)
  have HR := lhid (show (w.alloc (.cells #[.slice A es.length c] 64)).heap[rb]? = some (.cells #[.slice A es.length c] 64) by rw [hrb]; exact blk_new _ _)
  rw [← hrb]
  clear hrb
  have HG_1 := lhid (HG.out.next hb)
  have HC_2 := lhid (Kd.C_below HC.out hb)
  have HB_3 := lhid (below_then HB.out HB.out.size hb)
  clear HG HC HB hb
  generalize World.alloc w (.cells #[.slice A es.length c] 64) = w1 at HR HG_1 HC_2 HB_3 ⊢
  with_reducible refine (rootAtL HG_1.out HLL.out HOK.out n).mono ?_
  rintro e w2 ⟨rfl, hb⟩
  have HG_4 := lhid (HG_1.out.next hb)
  have HC_5 := lhid (Kd.C_below HC_2.out hb)
  have HB_6 := lhid (below_then HB_3.out HB_3.out.size hb)
  have HR_7 := lhid (blk_below HR.out hb)
  clear HG_1 HC_2 HB_3 HR hb
  have r0 := (blk_cell HR_7.out 0).trans (show _ = some (Value.slice A es.length c) from rfl)
  go_wp2_with fail
  obtain ⟨k1, hk1⟩ := Ev.rounds (ev_rRootAt HL.out HX.out n)
  rw [← HLS.out] at hk1
  have HK1 := lhid hk1
  clear hk1 r0
  with_reducible refine (kimberliteref07_Log_RootAt.calls k1 A c es n (rootV ls n).1 (rootV ls n).2 _ HC_5.out HCC.out HK1.out).mono ?_
  rintro e w3 ⟨rfl, hb⟩
  have HG_8 := lhid (HG_4.out.next hb)
  have HC_9 := lhid (Kd.C_below HC_5.out hb)
  have HB_10 := lhid (below_then HB_6.out HB_6.out.size hb)
  have HR_11 := lhid (blk_below HR_7.out hb)
  clear HG_4 HC_5 HB_6 HR_7 hb
  have r0 := (blk_cell HR_11.out 0).trans (show _ = some (Value.slice A es.length c) from rfl)
  obtain ⟨x1, hx1⟩ : ∃ x, x = rootV ls n := ⟨_, rfl⟩
  rw [← hx1]
  clear hx1 HK1
  have HLN := lhid (show ls.length = es.length by rw [HLS.out, List.length_map])
  have d1 : ((es.length : Int) != (es.length : Int)) = false := by simp
  have d2 : (top ls != top ls) = false := by simp
  have d3 : (x1.1 != x1.1) = false := by simp
  have d4 : (x1.2 != x1.2) = false := by simp
  obtain ⟨k2, hk2⟩ := Ev.rounds (ev_TopL es HL.out HX.out)
  rw [← HLS.out] at hk2
  have HK2 := lhid hk2
  clear hk2
  go_wp2_with fail
  clear r0
  have hb := below_drew1 (Below.refl w3.heap.size w3)
  have HG_12 := lhid (HG_8.out.next hb)
  have HC_13 := lhid (Kd.C_below HC_9.out hb)
  have HB_14 := lhid (below_then HB_10.out HB_10.out.size hb)
  have HR_15 := lhid (blk_below HR_11.out hb)
  clear HG_8 HC_9 HB_10 HR_11 hb
  refine start_ (n := 24) (S := fun w' => w'.cell? ⟨rb, 0, none⟩ = some (.slice A es.length c)) (ds := []) #[false, false, false, false, false, false, false, false, false, false, false, false, false, false, false, false, false, false, false, false, false, false, false, false] (by kernel_rfl) rfl rfl (((blk_cell HR_15.out 0).trans rfl)) (fun hHeld => ?_)
  generalize w3.drew = w4 at HG_12 HC_13 HB_14 HR_15 hHeld ⊢
  refine pure_ (i := 0) (N := some 32) (v := ?_) (a' := ?_) #[true, false, false, false, false, false, false, false, false, false, false, false, false, false, false, false, false, false, false, false, false, false, false, false] rfl rfl (by kernel_rfl) (fun _ _ _ h => h) (Or.inl ⟨by rfl, ?_⟩) ?_ ?_
  rotate_left
  · intro w'
    go_simp
    with_reducible rfl
  rotate_left
  · simp only [Act.put, List.setIfInBounds_toArray, List.set_cons_zero, List.set_cons_succ, i64_w, i32_w]
    rfl
  refine pure_ (i := 2) (N := some 34) (v := ?_) (a' := ?_) #[true, false, true, false, false, false, false, false, false, false, false, false, false, false, false, false, false, false, false, false, false, false, false, false] rfl rfl (by kernel_rfl) (fun _ _ _ h => h) (Or.inl ⟨by rfl, ?_⟩) ?_ ?_
  rotate_left
  · intro w'
    go_simp
    with_reducible rfl
  rotate_left
  · simp only [Act.put, List.setIfInBounds_toArray, List.set_cons_zero, List.set_cons_succ, i64_w, i32_w]
    rfl
  refine take_ (i := 3) (N := some 35) (v := ?_) (a' := ?_) #[true, false, true, true, false, false, false, false, false, false, false, false, false, false, false, false, false, false, false, false, false, false, false, false] rfl rfl (by kernel_rfl) (fun _ _ _ h => h) (Or.inl ⟨by rfl, ?_⟩) hHeld ?_ ?_
  rotate_left
  · intro w' s0
    go_simp
    with_reducible rfl
  rotate_left
  · simp only [Act.put, List.setIfInBounds_toArray, List.set_cons_zero, List.set_cons_succ, i64_w, i32_w]
    rfl
  refine pure_ (i := 4) (N := some 36) (v := ?_) (a' := ?_) #[true, false, true, true, true, false, false, false, false, false, false, false, false, false, false, false, false, false, false, false, false, false, false, false] rfl rfl (by kernel_rfl) (fun _ _ _ h => h) (Or.inl ⟨by rfl, ?_⟩) ?_ ?_
  rotate_left
  · intro w'
    go_simp
    with_reducible rfl
  rotate_left
  · simp only [Act.put, List.setIfInBounds_toArray, List.set_cons_zero, List.set_cons_succ, i64_w, i32_w]
    rfl
  refine one_ (i := 1) (N := some 33) #[true, true, true, true, true, false, false, false, false, false, false, false, false, false, false, false, false, false, false, false, false, false, false, false] rfl rfl (by kernel_rfl) (by decide) (fun K hK => ?_)
  refine goes_ Try.func52 (by kernel_rfl) rfl #[.pointer (some ⟨g, 0, none⟩)] (by rfl) rfl rfl (by (try simp only [List.map_toArray, List.map_cons, List.map_nil]); first | done | rfl) ?_
  with_reducible refine (len_calls base _ g es ls HG_12.out).mono ?_
  rintro e w' ⟨rfl, rfl⟩
  refine ⟨_, rfl, ?_⟩
  refine hK.out _ _ (((blk_cell HR_15.out 0).trans rfl)) (fun hHeld => ?_)
  clear hK K
  refine norm_ (a' := ?_) ?_ ?_
  rotate_left
  · show Act.put _ (some 33) _ = _
    simp only [Act.put, List.setIfInBounds_toArray, List.set_cons_zero, List.set_cons_succ, i64_w, i32_w]
    rfl
  refine pure_ (i := 5) (N := some 37) (v := ?_) (a' := ?_) #[true, true, true, true, true, true, false, false, false, false, false, false, false, false, false, false, false, false, false, false, false, false, false, false] rfl rfl (by kernel_rfl) (fun _ _ _ h => h) (Or.inl ⟨by rfl, ?_⟩) ?_ ?_
  rotate_left
  · intro w'
    go_simp
    with_reducible rfl
  rotate_left
  · simp only [Act.put, List.setIfInBounds_toArray, List.set_cons_zero, List.set_cons_succ, i64_w, i32_w]
    rfl
  refine pure_ (i := 6) (N := some 38) (v := ?_) (a' := ?_) #[true, true, true, true, true, true, true, false, false, false, false, false, false, false, false, false, false, false, false, false, false, false, false, false] rfl rfl (by kernel_rfl) (fun _ _ _ h => h) (Or.inl ⟨by rfl, ?_⟩) ?_ ?_
  rotate_left
  · intro w'
    go_simp
    with_reducible rfl
  rotate_left
  · simp only [Act.put, List.setIfInBounds_toArray, List.set_cons_zero, List.set_cons_succ, i64_w, i32_w]
    rfl
  refine pure_ (i := 7) (N := some 39) (v := ?_) (a' := ?_) #[true, true, true, true, true, true, true, true, false, false, false, false, false, false, false, false, false, false, false, false, false, false, false, false] rfl rfl (by kernel_rfl) (fun _ _ _ h => h) (Or.inl ⟨by rfl, ?_⟩) ?_ ?_
  rotate_left
  · intro w'
    go_simp
    with_reducible rfl
  rotate_left
  · simp only [Act.put, List.setIfInBounds_toArray, List.set_cons_zero, List.set_cons_succ, i64_w, i32_w]
    rfl
  refine pure_ (i := 9) (N := some 41) (v := ?_) (a' := ?_) #[true, true, true, true, true, true, true, true, false, true, false, false, false, false, false, false, false, false, false, false, false, false, false, false] rfl rfl (by kernel_rfl) (fun _ _ _ h => h) (Or.inl ⟨by rfl, ?_⟩) ?_ ?_
  rotate_left
  · intro w'
    go_simp
    with_reducible rfl
  rotate_left
  · simp only [Act.put, List.setIfInBounds_toArray, List.set_cons_zero, List.set_cons_succ, i64_w, i32_w]
    rfl
  refine take_ (i := 10) (N := some 42) (v := ?_) (a' := ?_) #[true, true, true, true, true, true, true, true, false, true, true, false, false, false, false, false, false, false, false, false, false, false, false, false] rfl rfl (by kernel_rfl) (fun _ _ _ h => h) (Or.inl ⟨by rfl, ?_⟩) hHeld ?_ ?_
  rotate_left
  · intro w' s0
    go_simp
    with_reducible rfl
  rotate_left
  · simp only [Act.put, List.setIfInBounds_toArray, List.set_cons_zero, List.set_cons_succ, i64_w, i32_w]
    rfl
  refine one_ (i := 8) (N := some 40) #[true, true, true, true, true, true, true, true, true, true, true, false, false, false, false, false, false, false, false, false, false, false, false, false] rfl rfl (by kernel_rfl) (by decide) (fun K hK => ?_)
  refine goes_ Try.func53 (by kernel_rfl) rfl #[.pointer (some ⟨g, 0, none⟩)] (by rfl) rfl rfl (by (try simp only [List.map_toArray, List.map_cons, List.map_nil]); first | done | rfl) ?_
  with_reducible refine (rootL HG_12.out HLL.out HOK.out).mono ?_
  rintro e w5 ⟨rfl, hb⟩
  refine ⟨_, rfl, ?_⟩
  have HG_16 := lhid (HG_12.out.next hb)
  have HC_17 := lhid (Kd.C_below HC_13.out hb)
  have HB_18 := lhid (below_then HB_14.out HB_14.out.size hb)
  have HR_19 := lhid (blk_below HR_15.out hb)
  clear HG_12 HC_13 HB_14 HR_15 hb
  refine hK.out _ _ (((blk_cell HR_19.out 0).trans rfl)) (fun hHeld => ?_)
  clear hK K
  refine norm_ (a' := ?_) ?_ ?_
  rotate_left
  · show Act.put _ (some 40) _ = _
    simp only [Act.put, List.setIfInBounds_toArray, List.set_cons_zero, List.set_cons_succ, i64_w, i32_w]
    rfl
  refine one_ (i := 11) (N := some 43) #[true, true, true, true, true, true, true, true, true, true, true, true, false, false, false, false, false, false, false, false, false, false, false, false] rfl rfl (by kernel_rfl) (by decide) (fun K hK => ?_)
  refine goes_ Try.func66 (by kernel_rfl) rfl #[.slice A es.length c] (by rfl) rfl rfl (by (try simp only [List.map_toArray, List.map_cons, List.map_nil]); first | done | rfl) ?_
  with_reducible refine (kimberliteref07_Top.calls k2 A c es (top ls) _ HC_17.out HCC.out HK2.out).mono ?_
  rintro e w6 ⟨rfl, hb⟩
  refine ⟨_, rfl, ?_⟩
  have HG_20 := lhid (HG_16.out.next hb)
  have HC_21 := lhid (Kd.C_below HC_17.out hb)
  have HB_22 := lhid (below_then HB_18.out HB_18.out.size hb)
  have HR_23 := lhid (blk_below HR_19.out hb)
  clear HG_16 HC_17 HB_18 HR_19 hb
  refine hK.out _ _ (((blk_cell HR_23.out 0).trans rfl)) (fun hHeld => ?_)
  clear hK K
  refine norm_ (a' := ?_) ?_ ?_
  rotate_left
  · show Act.put _ (some 43) _ = _
    simp only [Act.put, List.setIfInBounds_toArray, List.set_cons_zero, List.set_cons_succ, i64_w, i32_w]
    rfl
  refine pure_ (i := 12) (N := some 44) (v := ?_) (a' := ?_) #[true, true, true, true, true, true, true, true, true, true, true, true, true, false, false, false, false, false, false, false, false, false, false, false] rfl rfl (by kernel_rfl) (fun _ _ _ h => h) (Or.inl ⟨by rfl, ?_⟩) ?_ ?_
  rotate_left
  · intro w'
    go_simp
    with_reducible rfl
  rotate_left
  · simp only [Act.put, List.setIfInBounds_toArray, List.set_cons_zero, List.set_cons_succ, i64_w, i32_w]
    rfl
  refine pure_ (i := 13) (N := some 45) (v := ?_) (a' := ?_) #[true, true, true, true, true, true, true, true, true, true, true, true, true, true, false, false, false, false, false, false, false, false, false, false] rfl rfl (by kernel_rfl) (fun _ _ _ h => h) (Or.inl ⟨by rfl, ?_⟩) ?_ ?_
  rotate_left
  · intro w'
    go_simp
    with_reducible rfl
  rotate_left
  · simp only [Act.put, List.setIfInBounds_toArray, List.set_cons_zero, List.set_cons_succ, i64_w, i32_w]
    rfl
  refine pure_ (i := 14) (N := some 46) (v := ?_) (a' := ?_) #[true, true, true, true, true, true, true, true, true, true, true, true, true, true, true, false, false, false, false, false, false, false, false, false] rfl rfl (by kernel_rfl) (fun _ _ _ h => h) (Or.inl ⟨by rfl, ?_⟩) ?_ ?_
  rotate_left
  · intro w'
    go_simp
    with_reducible rfl
  rotate_left
  · simp only [Act.put, List.setIfInBounds_toArray, List.set_cons_zero, List.set_cons_succ, i64_w, i32_w]
    rfl
  refine pure_ (i := 15) (N := some 47) (v := ?_) (a' := ?_) #[true, true, true, true, true, true, true, true, true, true, true, true, true, true, true, true, false, false, false, false, false, false, false, false] rfl rfl (by kernel_rfl) (fun _ _ _ h => h) (Or.inl ⟨by rfl, ?_⟩) ?_ ?_
  rotate_left
  · intro w'
    go_simp
    with_reducible rfl
  rotate_left
  · simp only [Act.put, List.setIfInBounds_toArray, List.set_cons_zero, List.set_cons_succ, i64_w, i32_w]
    rfl
  refine pure_ (i := 16) (N := some 48) (v := ?_) (a' := ?_) #[true, true, true, true, true, true, true, true, true, true, true, true, true, true, true, true, true, false, false, false, false, false, false, false] rfl rfl (by kernel_rfl) (fun _ _ _ h => h) (Or.inl ⟨by rfl, ?_⟩) ?_ ?_
  rotate_left
  · intro w'
    go_simp
    with_reducible rfl
  rotate_left
  · simp only [Act.put, List.setIfInBounds_toArray, List.set_cons_zero, List.set_cons_succ, i64_w, i32_w]
    rfl
  refine pure_ (i := 17) (N := some 49) (v := ?_) (a' := ?_) #[true, true, true, true, true, true, true, true, true, true, true, true, true, true, true, true, true, true, false, false, false, false, false, false] rfl rfl (by kernel_rfl) (fun _ _ _ h => h) (Or.inl ⟨by rfl, ?_⟩) ?_ ?_
  rotate_left
  · intro w'
    go_simp
    with_reducible rfl
  rotate_left
  · simp only [Act.put, List.setIfInBounds_toArray, List.set_cons_zero, List.set_cons_succ, i64_w, i32_w]
    rfl
  refine pure_ (i := 18) (N := some 50) (v := ?_) (a' := ?_) #[true, true, true, true, true, true, true, true, true, true, true, true, true, true, true, true, true, true, true, false, false, false, false, false] rfl rfl (by kernel_rfl) (fun _ _ _ h => h) (Or.inl ⟨by rfl, ?_⟩) ?_ ?_
  rotate_left
  · intro w'
    go_simp
    with_reducible rfl
  rotate_left
  · simp only [Act.put, List.setIfInBounds_toArray, List.set_cons_zero, List.set_cons_succ, i64_w, i32_w]
    rfl
  refine pure_ (i := 19) (N := some 51) (v := ?_) (a' := ?_) #[true, true, true, true, true, true, true, true, true, true, true, true, true, true, true, true, true, true, true, true, false, false, false, false] rfl rfl (by kernel_rfl) (fun _ _ _ h => h) (Or.inl ⟨by rfl, ?_⟩) ?_ ?_
  rotate_left
  · intro w'
    go_simp
    with_reducible rfl
  rotate_left
  · simp only [Act.put, List.setIfInBounds_toArray, List.set_cons_zero, List.set_cons_succ, i64_w, i32_w]
    rfl
  refine pure_ (i := 20) (N := some 52) (v := ?_) (a' := ?_) #[true, true, true, true, true, true, true, true, true, true, true, true, true, true, true, true, true, true, true, true, true, false, false, false] rfl rfl (by kernel_rfl) (fun _ _ _ h => h) (Or.inl ⟨by rfl, ?_⟩) ?_ ?_
  rotate_left
  · intro w'
    go_simp
    with_reducible rfl
  rotate_left
  · simp only [Act.put, List.setIfInBounds_toArray, List.set_cons_zero, List.set_cons_succ, i64_w, i32_w]
    rfl
  refine pure_ (i := 21) (N := some 53) (v := ?_) (a' := ?_) #[true, true, true, true, true, true, true, true, true, true, true, true, true, true, true, true, true, true, true, true, true, true, false, false] rfl rfl (by kernel_rfl) (fun _ _ _ h => h) (Or.inl ⟨by rfl, ?_⟩) ?_ ?_
  rotate_left
  · intro w'
    go_simp
    with_reducible rfl
  rotate_left
  · simp only [Act.put, List.setIfInBounds_toArray, List.set_cons_zero, List.set_cons_succ, i64_w, i32_w]
    rfl
  refine pure_ (i := 22) (N := some 54) (v := ?_) (a' := ?_) #[true, true, true, true, true, true, true, true, true, true, true, true, true, true, true, true, true, true, true, true, true, true, true, false] rfl rfl (by kernel_rfl) (fun _ _ _ h => h) (Or.inl ⟨by rfl, ?_⟩) ?_ ?_
  rotate_left
  · intro w'
    go_simp
    with_reducible rfl
  rotate_left
  · simp only [Act.put, List.setIfInBounds_toArray, List.set_cons_zero, List.set_cons_succ, i64_w, i32_w]
    rfl
  refine pure_ (i := 23) (N := some 55) (v := ?_) (a' := ?_) #[true, true, true, true, true, true, true, true, true, true, true, true, true, true, true, true, true, true, true, true, true, true, true, true] rfl rfl (by kernel_rfl) (fun _ _ _ h => h) (Or.inl ⟨by rfl, ?_⟩) ?_ ?_
  rotate_left
  · intro w'
    go_simp
    with_reducible rfl
  rotate_left
  · simp only [Act.put, List.setIfInBounds_toArray, List.set_cons_zero, List.set_cons_succ, i64_w, i32_w]
    rfl
  refine done_ (by kernel_rfl) ?_
  
  go_wp2_with fail
  clear d1 d2 d3 d4 hHeld HK2
  with_reducible refine (entryL HG_20.out HX.out i).mono ?_
  rintro e w7 ⟨va, rfl, hR, hb⟩
  have HA_24 := lhid (Kd.R_lower hR HB_22.out.size)
  clear hR
  have HG_25 := lhid (HG_20.out.next hb)
  have HC_26 := lhid (Kd.C_below HC_21.out hb)
  have HB_27 := lhid (below_then HB_22.out HB_22.out.size hb)
  have HR_28 := lhid (blk_below HR_23.out hb)
  clear HG_20 HC_21 HB_22 HR_23 hb
  obtain ⟨ev, hev⟩ : ∃ x, x = entryV es i := ⟨_, rfl⟩
  rw [← hev] at HA_24 ⊢
  have HEV := lhid hev
  clear hev
  obtain ⟨Aa, ca, rfl⟩ := Kd.R_slice HA_24.out
  have r0 := (blk_cell HR_28.out 0).trans (show _ = some (Value.slice A es.length c) from rfl)
  go_wp2_with fail
  with_reducible refine (kimberliteref07_Log_Entry.calls (fun k => k < w7.heap.size) A c es i ev.1 ev.2 _ (Kd.V_mk HCC.out (Kd.C_F (Kd.heap_slice 5 (Kd.heap_int .u8)) HC_26.out)) (by rw [HEV.out]; exact rEntryV es i)).mono ?_
  rintro e w8 ⟨vb, rfl, hV, hb⟩
  have HG_29 := lhid (HG_25.out.next hb)
  have HC_30 := lhid (Kd.C_below HC_26.out hb)
  have HB_31 := lhid (below_then HB_27.out HB_27.out.size hb)
  have HR_32 := lhid (blk_below HR_28.out hb)
  have HA_33 := lhid (Kd.R_below HA_24.out hb)
  clear HG_25 HC_26 HB_27 HR_28 HA_24 hb
  clear r0
  obtain ⟨Ab, cb, rfl⟩ := Kd.V_slice hV
  have HVB := lhid (Kd.V_reads' hV).2.2
  clear hV
  have s1 := Kd.C_string (P := Try.prog) (A := Aa) (c := ca) Try.underlying22 Try.underlying5 Try.underlying9 (Kd.R_reads' HA_33.out).2.2
  have s2 := Kd.C_string (P := Try.prog) (A := Ab) (c := cb) Try.underlying22 Try.underlying5 Try.underlying9 HVB.out
  have d1 : ((strOfNums ev.1).toList != (strOfNums ev.1).toList) = false := by simp
  have d2 : (ev.2 != ev.2) = false := by simp
  go_upto_region 10 with (fail)
  clear s1 s2 d1 d2 HVB
  have hlv := entry_256 HX.out i
  rw [← HEV.out] at hlv
  have HLV := lhid hlv
  clear hlv HEV hHeld
  obtain ⟨xa, hxa⟩ : ∃ x, x = ev.1 := ⟨_, rfl⟩
  rw [← hxa] at HA_33 HLV ⊢
  clear hxa
  obtain ⟨m, hm⟩ : ∃ m, m = xa.length := ⟨_, rfl⟩
  have HM := lhid hm.symm
  rw [← hm] at HA_33 HLV ⊢
  clear hm
  go_loopw [15] (fun v wr => ∃ (k : Nat) (xs : List Int), k ≤ m ∧ v = .int .i64 k ∧ Hid (xs.length = m) ∧ Hid (Kd.R (Kd.int .u8) 5 wr w.heap.size (fun _ => True) (.slice Aa m ca) xs) ∧ Hid (wr.heap[rb]? = some (.cells #[.slice A es.length c] 64)) ∧ Hid (Below w.heap.size w wr)) (fun v _ => m - (intOf v).toNat)
  case atStart => exact ⟨0, xa, Nat.zero_le _, rfl, HM, HA_33, HR_32, HB_31⟩
  case round =>
    clear HM HG_29 HC_30 HB_31 HR_32 HA_33
    obtain ⟨k, xs, hk, rfl, HM, HAr, HRr, HBr⟩ := hrel
    by_cases hlt : k < m
    · have hki : (k : Int) < (m : Int) := by omega
      have hk0 : (0 : Int) ≤ (k : Int) := by omega
      have hm256 : (m : Int) ≤ 256 := by have := HLV.out; omega
      obtain ⟨ab, c2, hv, hab, _, _⟩ := Kd.R_form HAr.out (by have h1 := HM.out; omega)
      injection hv with hv1 hv2 hv3
      subst hv1 hv3
      clear hv2
      have HAB := lhid hab
      clear hab
      have HNG := lhid (show rb ≠ ab by rintro rfl; obtain ⟨cs, hcs⟩ := Kd.R_typed HAr.out rb rfl; exact blk_ne hcs HRr.out (by decide) rfl)
      obtain ⟨dc, df⟩ := Kd.R_celln (0 : Int) HAr.out (k : Int) (by omega) (by omega)
      rw [Int.toNat_natCast] at dc df
      go_upto_region 11 with (fail)
      have HA2 := lhid (show Kd.R (Kd.int .u8) 5 (World.setCell wr ⟨ab, k, none⟩ (.int .u8 ((rdOf 0 xs (k : Int) + 1) % 256))) w.heap.size (fun _ => True) (.slice (some ⟨ab, 0, none⟩) m ca) (xs.set k ((rdOf 0 xs (k : Int) + 1) % 256)) from by have h1 := Kd.R_putn HAr.out (k : Int) ((rdOf 0 xs (k : Int) + 1) % 256); rwa [Int.toNat_natCast] at h1)
      have HR2 := lhid (blk_far HRr.out (p := ⟨ab, k, none⟩) HNG.out (.int .u8 ((rdOf 0 xs (k : Int) + 1) % 256)))
      have HB2 := lhid (HBr.out.setCell (p := ⟨ab, k, none⟩) HAB.out (.int .u8 ((rdOf 0 xs (k : Int) + 1) % 256)))
      clear dc df HAr HRr HBr
      generalize World.setCell wr ⟨ab, k, none⟩ (.int .u8 ((rdOf 0 xs (k : Int) + 1) % 256)) = w30 at HA2 HR2 HB2 ⊢
      go_wp2_with fail
      go_roundw
      case rel => exact ⟨k + 1, _, by omega, by simp, lhid (by rw [List.length_set]; exact HM.out), HA2, HR2, HB2⟩
      case measure => simp [intOf]; omega
    have hne : m = k := by omega
    subst hne
    clear hk hlt HAr HM HLV
    have HG9 := lhid (HG0.out.next HBr.out)
    have HC9 := lhid (Kd.C_below HC0.out HBr.out)
    go_wp2_with fail
    with_reducible refine (incL HG9.out HLL.out HOK.out i n).mono ?_
    rintro e w21 ⟨vs, rfl, hR, hb⟩
    have HS_34 := lhid (Kd.R_lower hR HBr.out.size)
    clear hR
    have HG_35 := lhid (HG9.out.next hb)
    have HC_36 := lhid (Kd.C_below HC9.out hb)
    have HR_37 := lhid (blk_below HRr.out hb)
    have HB_38 := lhid (below_then HBr.out HBr.out.size hb)
    clear HG9 HC9 HRr HBr hb
    obtain ⟨x3, hx3⟩ : ∃ x, x = incV ls i n := ⟨_, rfl⟩
    rw [← hx3] at HS_34 ⊢
    obtain ⟨As, cs, rfl⟩ := Kd.R_slice HS_34.out
    obtain ⟨k3, hk3⟩ := Ev.rounds (ev_rLInc HL.out HX.out i n)
    rw [← HLS.out, ← hx3] at hk3
    have HK3 := lhid hk3
    have HL3 := lhid (show x3.1.length < 100 by rw [hx3]; exact inc_len ls HLL.out i n)
    clear hk3 hx3
    have r0 := (blk_cell HR_37.out 0).trans (show _ = some (Value.slice A es.length c) from rfl)
    go_wp2_with fail
    with_reducible refine (kimberliteref07_Log_Include.calls k3 A c es i n x3.1 x3.2 _ HC_36.out HCC.out HK3.out).mono ?_
    rintro e w22 ⟨vt, rfl, hR, hb⟩
    have HT_39 := lhid (Kd.R_lower hR HB_38.out.size)
    clear hR
    have HG_40 := lhid (HG_35.out.next hb)
    have HC_41 := lhid (Kd.C_below HC_36.out hb)
    have HR_42 := lhid (blk_below HR_37.out hb)
    have HB_43 := lhid (below_then HB_38.out HB_38.out.size hb)
    have HS_44 := lhid (Kd.R_below HS_34.out hb)
    clear HG_35 HC_36 HR_37 HB_38 HS_34 hb
    clear r0 HK3
    obtain ⟨At, ct, rfl⟩ := Kd.R_slice HT_39.out
    obtain ⟨k4, hk4⟩ := Ev.rounds (ev_steps x3.1 (by have := HL3.out; omega))
    have HK4 := lhid hk4
    clear hk4
    go_wp2_with fail
    with_reducible refine (kimberlitelaw07_steps.calls k4 As cs x3.1 At ct x3.1 true _ (Kd.R_reads' HS_44.out).2.2 (Kd.R_reads' HS_44.out).2.1 (Kd.R_reads' HT_39.out).2.2 (Kd.R_reads' HT_39.out).2.1 HK4.out).mono ?_
    rintro e w23 ⟨rfl, nd, hq⟩
    have hb := pw_below_drewN (Below.refl w22.heap.size w22) nd
    rw [← hq] at hb
    clear hq
    have HG_45 := lhid (HG_40.out.next hb)
    have HC_46 := lhid (Kd.C_below HC_41.out hb)
    have HR_47 := lhid (blk_below HR_42.out hb)
    have HB_48 := lhid (below_then HB_43.out HB_43.out.size hb)
    have HS_49 := lhid (Kd.R_below HS_44.out hb)
    have HT_50 := lhid (Kd.R_below HT_39.out hb)
    clear HG_40 HC_41 HR_42 HB_43 HS_44 HT_39 hb
    have d2 : (x3.2 != x3.2) = false := by simp
    clear HK4 HL3
    go_wp2_with fail
    with_reducible refine (extL HG_45.out HLL.out HOK.out i n).mono ?_
    rintro e w24 ⟨vh, rfl, hR, hb⟩
    have HH_51 := lhid (Kd.R_lower hR HB_48.out.size)
    clear hR
    have HG_52 := lhid (HG_45.out.next hb)
    have HC_53 := lhid (Kd.C_below HC_46.out hb)
    have HR_54 := lhid (blk_below HR_47.out hb)
    have HB_55 := lhid (below_then HB_48.out HB_48.out.size hb)
    clear HG_45 HC_46 HR_47 HB_48 hb
    clear d2
    obtain ⟨x5, hx5⟩ : ∃ x, x = extV ls i n := ⟨_, rfl⟩
    rw [← hx5] at HH_51 ⊢
    obtain ⟨Ah, ch, rfl⟩ := Kd.R_slice HH_51.out
    obtain ⟨k5, hk5⟩ := Ev.rounds (ev_rLExt HL.out HX.out i n)
    rw [← HLS.out, ← hx5] at hk5
    have HK5 := lhid hk5
    have HL5 := lhid (show x5.1.length < 100 by rw [hx5]; exact ext_len' ls HLL.out i n)
    clear hk5 hx5
    have r0 := (blk_cell HR_54.out 0).trans (show _ = some (Value.slice A es.length c) from rfl)
    go_wp2_with fail
    with_reducible refine (kimberliteref07_Log_Extend.calls k5 A c es i n x5.1 x5.2 _ HC_53.out HCC.out HK5.out).mono ?_
    rintro e w25 ⟨vg, rfl, hR, hb⟩
    have HK_56 := lhid (Kd.R_lower hR HB_55.out.size)
    clear hR
    have HG_57 := lhid (HG_52.out.next hb)
    have HC_58 := lhid (Kd.C_below HC_53.out hb)
    have HR_59 := lhid (blk_below HR_54.out hb)
    have HB_60 := lhid (below_then HB_55.out HB_55.out.size hb)
    have HH_61 := lhid (Kd.R_below HH_51.out hb)
    clear HG_52 HC_53 HR_54 HB_55 HH_51 hb
    clear r0 HK5
    obtain ⟨Ag, cg, rfl⟩ := Kd.R_slice HK_56.out
    obtain ⟨k6, hk6⟩ := Ev.rounds (ev_hashes x5.1 (by have := HL5.out; omega))
    have HK6 := lhid hk6
    clear hk6
    go_wp2_with fail
    with_reducible refine (kimberlitelaw07_hashes.calls k6 Ah ch x5.1 Ag cg x5.1 true _ (Kd.R_reads' HH_61.out).2.2 (Kd.R_reads' HH_61.out).2.1 (Kd.R_reads' HK_56.out).2.2 (Kd.R_reads' HK_56.out).2.1 HK6.out).mono ?_
    rintro e w26 ⟨rfl, nd, hq⟩
    have hb := pw_below_drewN (Below.refl w25.heap.size w25) nd
    rw [← hq] at hb
    clear hq
    have HG_62 := lhid (HG_57.out.next hb)
    have HC_63 := lhid (Kd.C_below HC_58.out hb)
    have HR_64 := lhid (blk_below HR_59.out hb)
    have HB_65 := lhid (below_then HB_60.out HB_60.out.size hb)
    have HH_66 := lhid (Kd.R_below HH_61.out hb)
    have HK_67 := lhid (Kd.R_below HK_56.out hb)
    clear HG_57 HC_58 HR_59 HB_60 HH_61 HK_56 hb
    have d2 : (x5.2 == x5.2) = true := by simp
    go_wp2_with fail
    go_ret
    exact ⟨rfl, HB_65.out⟩
end Go.Proofs.Ytacjdoekgmmfoaa.PL
end
section
namespace Go.Proofs.Ytacjdoekgmmfoaa.PL
open Go.RowKit Go.Proofs.YtacjdoekgmmfoaaW.PrintWords Go.Proofs.YtacjdoekgmmfoaaW.PrintLast Go.Proofs.YtacjdoekgmmfoaaW.PrintMore Go.Proofs.Ytacjdoekgmmfoaa.Opn
set_option linter.unusedVariables false
set_option linter.unusedSimpArgs false
section
variable {base g gd lo hi : Nat} {M0 P0 B M P O : Nat → Prop} {w0 w W : World} {es er : List (List Int)} {v : Value}
theorem ADx.keep (h : ADx base M0 P0 B w0 w g es er v) : KeepX M0 w0 w := by
  obtain ⟨O, M, P, h⟩ := h
  exact h.kp
theorem ADx.start (h : LX base O M w g es (es.map leafS)) (hV : Kd.V (Kd.slice 5 (Kd.int .u8)) 22 w base P v er) (hpm : ∀ k, P k → ¬ M k) (hbz : base ≤ w.heap.size) : ADx base M P (fun _ => False) w w g es er v :=
  ⟨_, _, _, h.bound', Kd.V_bound hV, fun k q => ⟨q.1.2, q.2⟩, fun k q z => hpm k q.1 z.1.1, fun k q => q.2, fun k q => q.2, fun k q => .inl q.1.1, fun k q => .inl q.1, fun k q => q.elim, KeepX.refl _ _, Below.refl _ _, hbz⟩
/-- A log and the reference's that wait: the log's calls write to blocks from lo to hi alone, the reference's lie below. -/
def DD (base lo hi : Nat) (P : Nat → Prop) (w : World) (g : Nat) (es : List (List Int)) (v : Value) : Prop := ∃ O M, LX base O M w g es (es.map leafS) ∧ (∀ k, M k → lo ≤ k ∧ k < hi) ∧ Kd.V (Kd.slice 5 (Kd.int .u8)) 22 w base P v es ∧ (∀ k, P k → k < lo)
theorem DD.next (h : DD base lo hi P w g es v) (hb : Below w.heap.size w W) : DD base lo hi P W g es v := by
  obtain ⟨O, M, h1, h2, h3, h4⟩ := h
  exact ⟨O, M, h1.next hb, h2, Kd.V_below h3 hb, h4⟩
theorem DD.beside (h : DD base lo hi P w g es v) (hk : KeepX M w W) (hM : ∀ k, M k → k < lo ∧ ¬ P k) : DD base lo hi P W g es v := by
  obtain ⟨O, M', h1, h2, h3, h4⟩ := h
  exact ⟨O, M', h1.beside hk (fun k q z => by have := h2 k q; have := hM k z; omega), h2, Kd.V_step h3 (fun k q hlt => hk.2 k hlt (.inl fun z => (hM k z).2 q)), h4⟩
theorem DD.start (h : DD base lo hi P w g es v) (hbz : base ≤ w.heap.size) : ADx base (fun k => lo ≤ k ∧ k < hi) P (fun _ => False) w w g es es v := by
  obtain ⟨O, M, h1, h2, h3, h4⟩ := h
  exact ADx.start (h1.mono (fun _ q => q) h2) h3 (fun k q z => by have := h4 k q; omega) hbz
/-- A log and the reference's that wait: none of their blocks that matter lies from lo to hi. -/
def LL (base lo hi : Nat) (w : World) (g : Nat) (es : List (List Int)) (v : Value) : Prop := ∃ O M P, LX base O M w g es (es.map leafS) ∧ (∀ k, M k → ¬ (lo ≤ k ∧ k < hi)) ∧ Kd.V (Kd.slice 5 (Kd.int .u8)) 22 w base P v es ∧ (∀ k, P k → ¬ (lo ≤ k ∧ k < hi))
theorem LL.next (h : LL base lo hi w g es v) (hb : Below w.heap.size w W) : LL base lo hi W g es v := by
  obtain ⟨O, M, P, h1, h2, h3, h4⟩ := h
  exact ⟨O, M, P, h1.next hb, h2, Kd.V_below h3 hb, h4⟩
theorem LL.beside (h : LL base lo hi w g es v) (hk : KeepX (fun k => lo ≤ k ∧ k < hi) w W) : LL base lo hi W g es v := by
  obtain ⟨O, M, P, h1, h2, h3, h4⟩ := h
  exact ⟨O, M, P, h1.beside hk h2, h2, Kd.V_step h3 (fun k q hlt => hk.2 k hlt (.inl (h4 k q))), h4⟩
theorem LL.lg (h : LL base lo hi w g es v) : LG base w g es (es.map leafS) := by
  obtain ⟨O, M, P, h1, _⟩ := h
  exact h1.lg
theorem LL.V (h : LL base lo hi w g es v) : ∃ A c, v = .slice A es.length c ∧ es.length ≤ c ∧ Kd.C (Kd.slice 5 (Kd.int .u8)) w A es.length es := by
  obtain ⟨O, M, P, _, _, ⟨A, c, rfl, hc, hf⟩, _⟩ := h
  exact ⟨A, c, rfl, hc, Kd.F_now hf⟩
theorem ADx.ll (h : ADx base M P B w0 w g es es v) (hM : ∀ k, M k → k < lo) (hP : ∀ k, P k → k < lo) (hhi : hi ≤ w0.heap.size) : LL base lo hi w g es v := by
  obtain ⟨O, M', P', h⟩ := h
  refine ⟨O, M', P', h.lx, fun k q z => ?_, h.rv, fun k q z => ?_⟩
  · rcases h.m0 k q with y | y
    · have := hM k y; omega
    · omega
  · rcases h.p0 k q with y | y
    · have := hP k y; omega
    · omega
/-- l.Copy. -/
theorem ADx.copy_calls (h : ADx base M0 P0 B w0 w g es es v) (hb : Below w.heap.size w W) (hn : es.length ≤ 4096) :
    Calls Try.prog 46 #[.pointer (some ⟨g, 0, none⟩)] W fun e w' => (∃ gd, e = .returned (.pointer (some ⟨gd, 0, none⟩)) ∧ ∃ M P, (∀ k, P k → k < w.heap.size) ∧ (∀ k, M k → k < w.heap.size ∧ ¬ P k) ∧ ADx base M P (fun _ => False) w' w' g es es v ∧ DD base W.heap.size w'.heap.size P w' gd es v) ∧ Below W.heap.size W w' := by
  obtain ⟨O, M, P, h⟩ := h
  refine (copyX_calls base O M W g es (es.map leafS) (h.lx.next hb) hn (by rw [List.length_map]; exact hn)).mono ?_
  rintro e w' ⟨gd, rfl, hL, hb2⟩
  have hbz : base ≤ w'.heap.size := Nat.le_trans h.bz (Nat.le_trans h.kp.1 (Nat.le_trans hb.size hb2.size))
  have hV := Kd.V_below (Kd.V_below h.rv hb) hb2
  refine ⟨⟨gd, rfl, M, P, h.pb, fun k q => ⟨h.ob k (h.mo k q), fun z => h.pm k z q⟩, ADx.start ((h.lx.next hb).next hb2) hV h.pm hbz, ⟨_, _, hL.bound', fun k q => ⟨q.1.1, q.2⟩, hV, fun k q => Nat.lt_of_lt_of_le (h.pb k q) hb.size⟩⟩, hb2⟩
end
theorem blk_keepX {M : Nat → Prop} {w W : World} {b : Nat} {o : Obj} (h : w.heap[b]? = some o) (hk : KeepX M w W) (hM : ¬ M b) : W.heap[b]? = some o := (hk.2 b (blk_lt h) (.inl hM)).trans h
end Go.Proofs.Ytacjdoekgmmfoaa.PL
end
section
namespace Go.Proofs.Ytacjdoekgmmfoaa.PL
open Go.RowKit Go.Proofs.YtacjdoekgmmfoaaW.PrintWords Go.Proofs.YtacjdoekgmmfoaaW.PrintLast Go.Proofs.YtacjdoekgmmfoaaW.PrintMore Go.Proofs.Ytacjdoekgmmfoaa.Opn
set_option linter.unusedVariables false
set_option linter.unusedSimpArgs false
set_option maxHeartbeats 12800000 in
set_option maxRecDepth 100000 in
theorem kimberlitelaw07_ProofLogs.calls (k : Nat) (A0 : Option Addr) (c0 : Nat) (l0 : List (List Int)) (A1 : Option Addr) (c1 : Nat) (l1 : List (List Int)) (A2 : Option Addr) (c2 : Nat) (l2 : List (List Int)) (a3 a4 : Int) (w : World) (hr0 : Kd.C (Kd.slice 5 (Kd.int .u8)) w A0 l0.length l0) (hc0 : l0.length ≤ c0) (hr1 : Kd.C (Kd.slice 5 (Kd.int .u8)) w A1 l1.length l1) (hc1 : l1.length ≤ c1) (hr2 : Kd.C (Kd.slice 5 (Kd.int .u8)) w A2 l2.length l2) (hc2 : l2.length ≤ c2) (h : kimberlitelaw07_ProofLogs.ok l0 l1 l2 a3 a4) :
    Calls Try.prog 11 #[.slice A0 l0.length c0, .slice A1 l1.length c1, .slice A2 l2.length c2, .int .i64 a3, .int .i64 a4] w fun e w' => e = .returned (.bool true) ∧ Below w.heap.size w w' := by
  have HR0 := lhid hr0
  have HC0 := lhid hc0
  have HR1 := lhid hr1
  have HC1 := lhid hc1
  have HR2 := lhid hr2
  have HC2 := lhid hc2
  clear hr0 hc0 hr1 hc1 hr2 hc2 h
  have hu64 := Try.underlying64
  obtain ⟨t0, ht, hft⟩ := few_ev l0
  obtain ⟨k0, hk⟩ := Ev.rounds ht
  have HK0 := lhid hk
  have HFT0 := lhid hft
  clear ht hk hft
  obtain ⟨t1, ht, hft⟩ := few_ev l1
  obtain ⟨k1, hk⟩ := Ev.rounds ht
  have HK1 := lhid hk
  have HFT1 := lhid hft
  clear ht hk hft
  obtain ⟨t2, ht, hft⟩ := few_ev l2
  obtain ⟨k2, hk⟩ := Ev.rounds ht
  have HK2 := lhid hk
  have HFT2 := lhid hft
  clear ht hk hft
  go_enter Try.func11, Try.ntmps11
  have HB_1 := lhid (Below.refl w.heap.size w)
  go_wp2_with fail
  with_reducible refine (kimberlitelaw07_few.calls k0 A0 c0 l0 t0 w HR0.out HC0.out HK0.out).mono ?_
  rintro e w1 ⟨rfl, nd, hq⟩
  have hb := pw_below_drewN (Below.refl w.heap.size w) nd
  rw [← hq] at hb
  clear hq
  have HB_2 := lhid (below_then HB_1.out HB_1.out.size hb)
  clear HB_1 hb
  cases t0
  · go_wp2_with fail
    with_reducible refine (kimberlitelaw07_alive.calls 0 true _ rfl).mono ?_
    rintro e w2 ⟨rfl, hb⟩
    have HB_3 := lhid (below_then HB_2.out HB_2.out.size hb)
    clear HB_2 hb
    go_wp2_with fail
    go_ret
    exact ⟨rfl, HB_3.out⟩
  go_wp2_with fail
  with_reducible refine (kimberlitelaw07_few.calls k1 A1 c1 l1 t1 _ (Kd.C_below HR1.out HB_2.out) HC1.out HK1.out).mono ?_
  rintro e w2 ⟨rfl, nd, hq⟩
  have hb := pw_below_drewN (Below.refl w1.heap.size w1) nd
  rw [← hq] at hb
  clear hq
  have HB_4 := lhid (below_then HB_2.out HB_2.out.size hb)
  clear HB_2 hb
  cases t1
  · go_wp2_with fail
    with_reducible refine (kimberlitelaw07_alive.calls 0 true _ rfl).mono ?_
    rintro e w3 ⟨rfl, hb⟩
    have HB_5 := lhid (below_then HB_4.out HB_4.out.size hb)
    clear HB_4 hb
    go_wp2_with fail
    go_ret
    exact ⟨rfl, HB_5.out⟩
  go_wp2_with fail
  with_reducible refine (kimberlitelaw07_few.calls k2 A2 c2 l2 t2 _ (Kd.C_below HR2.out HB_4.out) HC2.out HK2.out).mono ?_
  rintro e w3 ⟨rfl, nd, hq⟩
  have hb := pw_below_drewN (Below.refl w2.heap.size w2) nd
  rw [← hq] at hb
  clear hq
  have HB_6 := lhid (below_then HB_4.out HB_4.out.size hb)
  clear HB_4 hb
  cases t2
  · go_wp2_with fail
    with_reducible refine (kimberlitelaw07_alive.calls 0 true _ rfl).mono ?_
    rintro e w4 ⟨rfl, hb⟩
    have HB_7 := lhid (below_then HB_6.out HB_6.out.size hb)
    clear HB_6 hb
    go_wp2_with fail
    go_ret
    exact ⟨rfl, HB_7.out⟩
  obtain ⟨hl1, hl2⟩ := HFT0.out (by first | rfl | trivial)
  have HL0 := lhid hl1
  have HX0 := lhid hl2
  clear hl1 hl2 HFT0 HK0
  obtain ⟨hl1, hl2⟩ := HFT1.out (by first | rfl | trivial)
  have HL1 := lhid hl1
  have HX1 := lhid hl2
  clear hl1 hl2 HFT1 HK1
  obtain ⟨hl1, hl2⟩ := HFT2.out (by first | rfl | trivial)
  have HL2 := lhid hl1
  have HX2 := lhid hl2
  clear hl1 hl2 HFT2 HK2
  go_wp2_with fail
  with_reducible refine (new_calls _).mono ?_
  rintro e w4 ⟨rfl, hG, hb⟩
  have hgl : w.heap.size ≤ w3.heap.size := HB_6.out.size
  generalize hg : w3.heap.size = g at hG hb hgl ⊢
  have HA := lhid (show ADx w.heap.size (fun k => g ≤ k) (fun _ => False) (fun _ => False) w4 w4 g [] [] (.slice none 0 0) from by subst hg; exact ADx.start ((LG.lx_new hG).lower hgl) (Kd.V_nil (Kd.slice 5 (Kd.int .u8)) 22 _ _ _) (fun k q => q.elim) (Nat.le_trans hgl hb.size))
  rw [← hg] at hb
  clear hG hgl
  have HB_8 := lhid (below_then HB_6.out HB_6.out.size hb)
  clear HB_6 hb
  clear hg
  go_wp2_with fail
  have hcl : Calls Try.prog 44 #[.pointer (some ⟨g, 0, none⟩), .agg #[.slice none 0 0], .slice A0 l0.length c0] w4 _ := added_calls w _ _ w4 g [] none 0 A0 c0 l0 HA.out HB_8.out HR0.out HC0.out (by have := HL0.out; simp only [List.length_nil]; omega) HX0.out
  with_reducible refine hcl.mono ?_
  rintro e w5 ⟨v1, rfl, hA⟩
  clear hcl
  obtain ⟨e1, he⟩ : ∃ x, x = addAll [] l0 := ⟨_, rfl⟩
  rw [← he] at hA
  have HLe1 := lhid (show e1.length ≤ 100 by rw [he]; have h1 := addAll_len l0 []; have h2 := HL0.out; simp only [List.length_nil] at h1; omega)
  have HXe1 := lhid (show ∀ x ∈ e1, x.length ≤ 256 by rw [he]; exact addAll_256 l0 [] (fun x hx => by simp at hx))
  clear he
  obtain ⟨B1, d1, rfl, hBc, hBC⟩ := hA.V
  have HA1 := lhid hA
  have HBc1 := lhid hBc
  have HRC := lhid hBC
  have HLG := lhid hA.lg
  have HB5 := lhid (HB_8.out.trans hA.bl)
  have HZ := lhid (Below.refl w5.heap.size w5)
  clear hA hBc hBC HA HB_8
  go_upto_region 7 with (fail)
  have hb := below_alloc (Below.refl w5.heap.size w5) (.cells #[(.slice B1 e1.length d1)] 64)
  have B12 := lhid (show (World.alloc w5 (.cells #[(.slice B1 e1.length d1)] 64)).heap[w5.heap.size]? = some (.cells #[(.slice B1 e1.length d1)] 64) from blk_new _ _)
  have HRC_9 := lhid (Kd.C_below HRC.out hb)
  have HLG_10 := lhid (HLG.out.next hb)
  have HB_11 := lhid (below_then HB5.out HB5.out.size hb)
  have HZ_12 := lhid (below_then HZ.out HZ.out.size hb)
  clear HRC HLG HB5 HZ hb
  generalize World.alloc w5 (.cells #[(.slice B1 e1.length d1)] 64) = w6 at B12 HRC_9 HLG_10 HB_11 HZ_12 ⊢
  have r0 := (blk_cell B12.out 0).trans (show _ = some (.slice B1 e1.length d1) from rfl)
  go_wp2_with fail
  with_reducible refine (logged_calls w.heap.size _ g e1 _ B1 d1 a3 a4 HLG_10.out HRC_9.out HBc1.out rfl (by have := HLe1.out; omega) HXe1.out).mono ?_
  rintro e w7 ⟨rfl, hb⟩
  have HRC_13 := lhid (Kd.C_below HRC_9.out hb)
  have HLG_14 := lhid (HLG_10.out.next hb)
  have HB_15 := lhid (below_then HB_11.out HB_11.out.size hb)
  have HZ_16 := lhid (below_then HZ_12.out HZ_12.out.size hb)
  have B12_17 := lhid (blk_below B12.out hb)
  clear HRC_9 HLG_10 HB_11 HZ_12 B12 hb
  clear r0
  have r0 := (blk_cell B12_17.out 0).trans (show _ = some (.slice B1 e1.length d1) from rfl)
  go_wp2_with fail
  with_reducible refine (logged_calls w.heap.size _ g e1 _ B1 d1 a3 (e1.length : Int) HLG_14.out HRC_13.out HBc1.out rfl (by have := HLe1.out; omega) HXe1.out).mono ?_
  rintro e w8 ⟨rfl, hb⟩
  have HRC_18 := lhid (Kd.C_below HRC_13.out hb)
  have HLG_19 := lhid (HLG_14.out.next hb)
  have HB_20 := lhid (below_then HB_15.out HB_15.out.size hb)
  have HZ_21 := lhid (below_then HZ_16.out HZ_16.out.size hb)
  have B12_22 := lhid (blk_below B12_17.out hb)
  clear HRC_13 HLG_14 HB_15 HZ_16 B12_17 hb
  clear r0
  go_wp2_with fail
  with_reducible refine (ADx.copy_calls HA1.out HZ_21.out (by have := HLe1.out; omega)).mono ?_
  rintro e w9 ⟨⟨gd, rfl, M1, P1, hP1, hM1, hA2, hD⟩, hb⟩
  have HP1 := lhid hP1
  have HM1 := lhid hM1
  have HA2 := lhid hA2
  have HD := lhid hD
  have HZS := lhid (show w5.heap.size ≤ w8.heap.size from HZ_21.out.size)
  clear hP1 hM1 hA2 hD HA1 HRC_18 HLG_19 HZ_21
  have HB_23 := lhid (below_then HB_20.out HB_20.out.size hb)
  have B12_24 := lhid (blk_below B12_22.out hb)
  clear HB_20 B12_22 hb
  have r0 := (blk_cell B12_24.out 0).trans (show _ = some (.slice B1 e1.length d1) from rfl)
  go_wp2_with fail
  clear r0
  with_reducible refine (added_calls w M1 P1 w9 g e1 B1 d1 A1 c1 l1 HA2.out HB_23.out HR1.out HC1.out (by have := HL1.out; have := HLe1.out; omega) HX1.out).mono ?_
  rintro e w10 ⟨v2, rfl, hA⟩
  obtain ⟨e2, he⟩ : ∃ x, x = addAll e1 l1 := ⟨_, rfl⟩
  rw [← he] at hA
  have HLe2 := lhid (show e2.length ≤ 200 by rw [he]; have h1 := addAll_len l1 e1; have h2 := HL1.out; have h3 := HLe1.out; omega)
  have HXe2 := lhid (show ∀ x ∈ e2, x.length ≤ 256 by rw [he]; exact addAll_256 l1 e1 HXe1.out)
  clear he
  have HD10 := lhid (HD.out.beside hA.keep (fun k q => ⟨Nat.lt_of_lt_of_le (HM1.out k q).1 HZS.out, (HM1.out k q).2⟩))
  have HB12 := lhid (blk_keepX B12_24.out hA.keep (fun z => Nat.lt_irrefl _ (HM1.out _ z).1))
  have HLL := lhid (hA.ll (lo := w8.heap.size) (hi := w9.heap.size) (fun k q => Nat.lt_of_lt_of_le (HM1.out k q).1 HZS.out) (fun k q => Nat.lt_of_lt_of_le (HP1.out k q) HZS.out) (Nat.le_refl _))
  have HB10 := lhid (HB_23.out.trans hA.bl)
  have HZ9 := lhid (show w9.heap.size ≤ w10.heap.size from hA.size)
  obtain ⟨B2, d2, rfl, hBc, -⟩ := hA.V
  have HBc2 := lhid hBc
  clear hA hBc HA2 HD HB_23 B12_24
  go_upto_region 13 with (fail)
  have hb := below_alloc (Below.refl w10.heap.size w10) (.cells #[(.slice B2 e2.length d2)] 64)
  have B15 := lhid (show (World.alloc w10 (.cells #[(.slice B2 e2.length d2)] 64)).heap[w10.heap.size]? = some (.cells #[(.slice B2 e2.length d2)] 64) from blk_new _ _)
  have HD_25 := lhid (HD10.out.next hb)
  have B12_26 := lhid (blk_below HB12.out hb)
  have HLL_27 := lhid (HLL.out.next hb)
  have HB_28 := lhid (below_then HB10.out HB10.out.size hb)
  clear HD10 HB12 HLL HB10 hb
  generalize World.alloc w10 (.cells #[(.slice B2 e2.length d2)] 64) = w11 at B15 HD_25 B12_26 HLL_27 HB_28 ⊢
  have r0 := (blk_cell B12_26.out 0).trans (show _ = some (.slice B1 e1.length d1) from rfl)
  go_wp2_with fail
  clear r0
  with_reducible refine (added_calls w _ P1 w11 gd e1 B1 d1 A2 c2 l2 (HD_25.out.start HB_28.out.size) HB_28.out HR2.out HC2.out (by have := HL2.out; have := HLe1.out; omega) HX2.out).mono ?_
  rintro e w12 ⟨v3, rfl, hA⟩
  obtain ⟨e3, he⟩ : ∃ x, x = addAll e1 l2 := ⟨_, rfl⟩
  rw [← he] at hA
  have HLe3 := lhid (show e3.length ≤ 200 by rw [he]; have h1 := addAll_len l2 e1; have h2 := HL2.out; have h3 := HLe1.out; omega)
  have HXe3 := lhid (show ∀ x ∈ e3, x.length ≤ 256 by rw [he]; exact addAll_256 l2 e1 HXe1.out)
  clear he
  have HLL12 := lhid (HLL_27.out.beside hA.keep)
  have HB15 := lhid (blk_keepX B15.out hA.keep (fun z => by have := z.2; have := HZ9.out; omega))
  have HB13 := lhid (HB_28.out.trans hA.bl)
  obtain ⟨B3, d3, rfl, hBc, hBC⟩ := hA.V
  have HBc3 := lhid hBc
  have HTC := lhid hBC
  have HTG := lhid hA.lg
  clear hA hBc hBC HD_25 B12_26 HLL_27 HB_28 B15
  have HSG := lhid HLL12.out.lg
  have HSC := lhid (show Kd.C (Kd.slice 5 (Kd.int .u8)) w12 B2 e2.length e2 by obtain ⟨A', c', hv, _, hC⟩ := HLL12.out.V; injection hv with h1 h2 h3; subst h1; exact hC)
  clear HLL12
  go_upto_region 16 with (fail)
  have hb := below_alloc (Below.refl w12.heap.size w12) (.cells #[(.slice B3 e3.length d3)] 64)
  have B16 := lhid (show (World.alloc w12 (.cells #[(.slice B3 e3.length d3)] 64)).heap[w12.heap.size]? = some (.cells #[(.slice B3 e3.length d3)] 64) from blk_new _ _)
  have HSG_29 := lhid (HSG.out.next hb)
  have HSC_30 := lhid (Kd.C_below HSC.out hb)
  have HTG_31 := lhid (HTG.out.next hb)
  have HTC_32 := lhid (Kd.C_below HTC.out hb)
  have B15_33 := lhid (blk_below HB15.out hb)
  have HB_34 := lhid (below_then HB13.out HB13.out.size hb)
  clear HSG HSC HTG HTC HB15 HB13 hb
  generalize World.alloc w12 (.cells #[(.slice B3 e3.length d3)] 64) = w13 at B16 HSG_29 HSC_30 HTG_31 HTC_32 B15_33 HB_34 ⊢
  have r0 := (blk_cell B15_33.out 0).trans (show _ = some (.slice B2 e2.length d2) from rfl)
  go_wp2_with fail
  with_reducible refine (logged_calls w.heap.size _ g e2 _ B2 d2 a3 a4 HSG_29.out HSC_30.out HBc2.out rfl (by have := HLe2.out; omega) HXe2.out).mono ?_
  rintro e w14 ⟨rfl, hb⟩
  have HSG_35 := lhid (HSG_29.out.next hb)
  have HSC_36 := lhid (Kd.C_below HSC_30.out hb)
  have HTG_37 := lhid (HTG_31.out.next hb)
  have HTC_38 := lhid (Kd.C_below HTC_32.out hb)
  have B15_39 := lhid (blk_below B15_33.out hb)
  have HB_40 := lhid (below_then HB_34.out HB_34.out.size hb)
  have B16_41 := lhid (blk_below B16.out hb)
  clear HSG_29 HSC_30 HTG_31 HTC_32 B15_33 HB_34 B16 hb
  clear r0
  have r0 := (blk_cell B16_41.out 0).trans (show _ = some (.slice B3 e3.length d3) from rfl)
  go_wp2_with fail
  with_reducible refine (logged_calls w.heap.size _ gd e3 _ B3 d3 a3 a4 HTG_37.out HTC_38.out HBc3.out rfl (by have := HLe3.out; omega) HXe3.out).mono ?_
  rintro e w15 ⟨rfl, hb⟩
  have HSG_42 := lhid (HSG_35.out.next hb)
  have HSC_43 := lhid (Kd.C_below HSC_36.out hb)
  have HTG_44 := lhid (HTG_37.out.next hb)
  have HTC_45 := lhid (Kd.C_below HTC_38.out hb)
  have B15_46 := lhid (blk_below B15_39.out hb)
  have HB_47 := lhid (below_then HB_40.out HB_40.out.size hb)
  have B16_48 := lhid (blk_below B16_41.out hb)
  clear HSG_35 HSC_36 HTG_37 HTC_38 B15_39 HB_40 B16_41 hb
  clear r0
  have r0 := (blk_cell B15_46.out 0).trans (show _ = some (.slice B2 e2.length d2) from rfl)
  go_wp2_with fail
  with_reducible refine (logged_calls w.heap.size _ g e2 _ B2 d2 a3 (l0.length : Int) HSG_42.out HSC_43.out HBc2.out rfl (by have := HLe2.out; omega) HXe2.out).mono ?_
  rintro e w16 ⟨rfl, hb⟩
  have HSG_49 := lhid (HSG_42.out.next hb)
  have HSC_50 := lhid (Kd.C_below HSC_43.out hb)
  have HTG_51 := lhid (HTG_44.out.next hb)
  have HTC_52 := lhid (Kd.C_below HTC_45.out hb)
  have B15_53 := lhid (blk_below B15_46.out hb)
  have HB_54 := lhid (below_then HB_47.out HB_47.out.size hb)
  have B16_55 := lhid (blk_below B16_48.out hb)
  clear HSG_42 HSC_43 HTG_44 HTC_45 B15_46 HB_47 B16_48 hb
  clear r0
  have r0 := (blk_cell B16_55.out 0).trans (show _ = some (.slice B3 e3.length d3) from rfl)
  go_wp2_with fail
  with_reducible refine (logged_calls w.heap.size _ gd e3 _ B3 d3 a3 (l0.length : Int) HTG_51.out HTC_52.out HBc3.out rfl (by have := HLe3.out; omega) HXe3.out).mono ?_
  rintro e w17 ⟨rfl, hb⟩
  have HSG_56 := lhid (HSG_49.out.next hb)
  have HSC_57 := lhid (Kd.C_below HSC_50.out hb)
  have HTG_58 := lhid (HTG_51.out.next hb)
  have HTC_59 := lhid (Kd.C_below HTC_52.out hb)
  have B15_60 := lhid (blk_below B15_53.out hb)
  have HB_61 := lhid (below_then HB_54.out HB_54.out.size hb)
  have B16_62 := lhid (blk_below B16_55.out hb)
  clear HSG_49 HSC_50 HTG_51 HTC_52 B15_53 HB_54 B16_55 hb
  clear r0
  go_wp2_with fail
  with_reducible refine (kimberlitelaw07_alive.calls 0 true _ rfl).mono ?_
  rintro e w18 ⟨rfl, hb⟩
  have HSG_63 := lhid (HSG_56.out.next hb)
  have HSC_64 := lhid (Kd.C_below HSC_57.out hb)
  have HTG_65 := lhid (HTG_58.out.next hb)
  have HTC_66 := lhid (Kd.C_below HTC_59.out hb)
  have B15_67 := lhid (blk_below B15_60.out hb)
  have HB_68 := lhid (below_then HB_61.out HB_61.out.size hb)
  have B16_69 := lhid (blk_below B16_62.out hb)
  clear HSG_56 HSC_57 HTG_58 HTC_59 B15_60 HB_61 B16_62 hb
  go_wp2_with fail
  go_ret
  exact ⟨rfl, HB_68.out⟩
theorem proofLogs_pure : kimberlitelaw07_ProofLogs.Pure2 := fun _ _ _ _ _ h0 h1 h2 h3 h4 => ⟨0, h0, h1, h2, h3, h4, trivial⟩
end Go.Proofs.Ytacjdoekgmmfoaa.PL
end
