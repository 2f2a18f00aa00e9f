/- CustodyNobody: every method of a book that is none. The law's function walked by hand. -/
import Derived.Test.YtfnlghjkjmppdaaPCxPureCustodyNobody
import Derived.Test.YtfnlghjkjmppdaaCLw
import Derived.Test.YtfnlghjkjmppdaaPCx2
namespace Go.Proofs.Ytfnlghjkjmppdaa.PC
open Go.RowKit Go.Proofs.YtfnlghjkjmppdaaW.PrintWords Go.Proofs.YtfnlghjkjmppdaaW.PrintLast Go.Proofs.YtfnlghjkjmppdaaW.PrintMore Go.Proofs.Ytfnlghjkjmppdaa.Opn
set_option linter.unusedVariables false
set_option linter.unusedSimpArgs false
set_option maxHeartbeats 12800000 in
set_option maxRecDepth 100000 in
theorem kimberlitelaw06_CustodyNobody.calls (k : Nat) (a0_0 a0_1 a0_2 a0_3 a0_4 a0_5 a0_6 a0_7 a0_8 a0_9 a0_10 : Int) (a1 : Bool) (w : World) (h : kimberlitelaw06_CustodyNobody.ok a0_0 a0_1 a0_2 a0_3 a0_4 a0_5 a0_6 a0_7 a0_8 a0_9 a0_10 a1) : Calls Try.prog 13 #[.agg #[.int .u8 a0_0, .int .i64 a0_1, .int .i64 a0_2, .int .i64 a0_3, .int .i64 a0_4, .int .i64 a0_5, .int .i64 a0_6, .int .i64 a0_7, .int .i64 a0_8, .int .i64 a0_9, .int .i64 a0_10], .bool a1] w fun e w' => e = .returned (.bool true) ∧ Below w.heap.size w w' := by
  have hu70 := Try.underlying70
  have hu37 := Try.underlying37
  have hu39 := Try.underlying39
  clear h
  have HB_1 := lhid (Below.refl w.heap.size w)
  go_enter Try.func13, Try.ntmps13
  go_upto_region 2 with (fail)
  have hb := below_alloc (Below.refl w.heap.size w) (.cells #[.int .u8 a0_0, .int .i64 a0_1, .int .i64 a0_2, .int .i64 a0_3, .int .i64 a0_4, .int .i64 a0_5, .int .i64 a0_6, .int .i64 a0_7, .int .i64 a0_8, .int .i64 a0_9, .int .i64 a0_10] 37)
  have hn := blk_new w (.cells #[.int .u8 a0_0, .int .i64 a0_1, .int .i64 a0_2, .int .i64 a0_3, .int .i64 a0_4, .int .i64 a0_5, .int .i64 a0_6, .int .i64 a0_7, .int .i64 a0_8, .int .i64 a0_9, .int .i64 a0_10] 37)
  have HZ1 := lhid (show (World.alloc w (.cells #[.int .u8 a0_0, .int .i64 a0_1, .int .i64 a0_2, .int .i64 a0_3, .int .i64 a0_4, .int .i64 a0_5, .int .i64 a0_6, .int .i64 a0_7, .int .i64 a0_8, .int .i64 a0_9, .int .i64 a0_10] 37)).heap.size = w.heap.size + 1 from by simp)
  generalize hq : World.alloc w (.cells #[.int .u8 a0_0, .int .i64 a0_1, .int .i64 a0_2, .int .i64 a0_3, .int .i64 a0_4, .int .i64 a0_5, .int .i64 a0_6, .int .i64 a0_7, .int .i64 a0_8, .int .i64 a0_9, .int .i64 a0_10] 37) = w1 at hb hn HZ1 ⊢
  clear hq
  have HB_2 := lhid (below_then HB_1.out HB_1.out.size hb)
  clear HB_1 hb
  have XB_3 := lhid (hn)
  clear hn
  obtain ⟨xb, hxb⟩ : ∃ q, q = w.heap.size := ⟨_, rfl⟩
  rw [← hxb] at XB_3 ⊢
  clear hxb
  cases a1
  · go_upto_region 4 with (fail)
    have HN_4 := lhid (show NoBook w1 (.pointer none) from Or.inl rfl)
    obtain ⟨y0, y1, y2, y3, y4, y5, y6, y7, y8, y9, y10⟩ := cells11 XB_3.out
    go_wp2_with fail
    with_reducible refine (grant_nil w1 (.pointer none) a0_3 a0_6 a0_7 a0_8 a0_9 HN_4.out).mono ?_
    rintro e w2 ⟨rfl, hb⟩
    have HB_5 := lhid (below_then HB_2.out HB_2.out.size hb)
    have XB_6 := lhid (blk_below XB_3.out hb)
    have HN_7 := lhid (HN_4.out.next hb)
    clear HB_2 XB_3 HN_4 hb
    clear y0 y1 y2 y3 y4 y5 y6 y7 y8 y9 y10
    obtain ⟨y0, y1, y2, y3, y4, y5, y6, y7, y8, y9, y10⟩ := cells11 XB_6.out
    go_wp2_with fail
    with_reducible refine (Pass_nil w2 (.pointer none) a0_1 a0_3 a0_4 a0_6 a0_7 a0_8 a0_9 HN_7.out).mono ?_
    rintro e w3 ⟨rfl, hb⟩
    have HB_8 := lhid (below_then HB_5.out HB_5.out.size hb)
    have XB_9 := lhid (blk_below XB_6.out hb)
    have HN_10 := lhid (HN_7.out.next hb)
    clear HB_5 XB_6 HN_7 hb
    clear y0 y1 y2 y3 y4 y5 y6 y7 y8 y9 y10
    obtain ⟨y0, y1, y2, y3, y4, y5, y6, y7, y8, y9, y10⟩ := cells11 XB_9.out
    go_wp2_with fail
    with_reducible refine (Revoke_nil w3 (.pointer none) a0_1 a0_3 HN_10.out).mono ?_
    rintro e w4 ⟨rfl, hb⟩
    have HB_11 := lhid (below_then HB_8.out HB_8.out.size hb)
    have XB_12 := lhid (blk_below XB_9.out hb)
    have HN_13 := lhid (HN_10.out.next hb)
    clear HB_8 XB_9 HN_10 hb
    clear y0 y1 y2 y3 y4 y5 y6 y7 y8 y9 y10
    obtain ⟨y0, y1, y2, y3, y4, y5, y6, y7, y8, y9, y10⟩ := cells11 XB_12.out
    go_wp2_with fail
    with_reducible refine (Get_nil w4 (.pointer none) a0_1 HN_13.out).mono ?_
    rintro e w5 ⟨rfl, hb⟩
    have HB_14 := lhid (below_then HB_11.out HB_11.out.size hb)
    have XB_15 := lhid (blk_below XB_12.out hb)
    have HN_16 := lhid (HN_13.out.next hb)
    clear HB_11 XB_12 HN_13 hb
    clear y0 y1 y2 y3 y4 y5 y6 y7 y8 y9 y10
    obtain ⟨y0, y1, y2, y3, y4, y5, y6, y7, y8, y9, y10⟩ := cells11 XB_15.out
    go_upto_region 8 with (fail)
    clear y0 y1 y2 y3 y4 y5 y6 y7 y8 y9 y10
    have hb := below_alloc (Below.refl w5.heap.size w5) (.cells #[.int .i64 0, .int .i64 0, .int .i64 0, .int .i64 0, .int .i64 0, .int .i64 0, .int .i64 0, .int .i64 0, .bool false] 39)
    have hn := blk_new w5 (.cells #[.int .i64 0, .int .i64 0, .int .i64 0, .int .i64 0, .int .i64 0, .int .i64 0, .int .i64 0, .int .i64 0, .bool false] 39)
    have HZ6 := lhid (show (World.alloc w5 (.cells #[.int .i64 0, .int .i64 0, .int .i64 0, .int .i64 0, .int .i64 0, .int .i64 0, .int .i64 0, .int .i64 0, .bool false] 39)).heap.size = w5.heap.size + 1 from by simp)
    generalize hq : World.alloc w5 (.cells #[.int .i64 0, .int .i64 0, .int .i64 0, .int .i64 0, .int .i64 0, .int .i64 0, .int .i64 0, .int .i64 0, .bool false] 39) = w6 at hb hn HZ6 ⊢
    clear hq
    have HB_17 := lhid (below_then HB_14.out HB_14.out.size hb)
    have XB_18 := lhid (blk_below XB_15.out hb)
    have HN_19 := lhid (HN_16.out.next hb)
    clear HB_14 XB_15 HN_16 hb
    have XG_20 := lhid (hn)
    clear hn
    obtain ⟨gb, hgb⟩ : ∃ q, q = w5.heap.size := ⟨_, rfl⟩
    rw [← hgb] at XG_20 ⊢
    clear hgb
    obtain ⟨y0, y1, y2, y3, y4, y5, y6, y7, y8, y9, y10⟩ := cells11 XB_18.out
    go_wp2_with fail
    with_reducible refine (Stands_nil w6 (.pointer none) a0_1 HN_19.out).mono ?_
    rintro e w7 ⟨rfl, hb⟩
    have HB_21 := lhid (below_then HB_17.out HB_17.out.size hb)
    have XB_22 := lhid (blk_below XB_18.out hb)
    have HN_23 := lhid (HN_19.out.next hb)
    have XG_24 := lhid (blk_below XG_20.out hb)
    clear HB_17 XB_18 HN_19 XG_20 hb
    clear y0 y1 y2 y3 y4 y5 y6 y7 y8 y9 y10
    obtain ⟨y0, y1, y2, y3, y4, y5, y6, y7, y8, y9, y10⟩ := cells11 XB_22.out
    go_wp2_with fail
    with_reducible refine (Below_nil w7 (.pointer none) a0_1 HN_23.out).mono ?_
    rintro e w8 ⟨rfl, hb⟩
    have HB_25 := lhid (below_then HB_21.out HB_21.out.size hb)
    have XB_26 := lhid (blk_below XB_22.out hb)
    have HN_27 := lhid (HN_23.out.next hb)
    have XG_28 := lhid (blk_below XG_24.out hb)
    clear HB_21 XB_22 HN_23 XG_24 hb
    clear y0 y1 y2 y3 y4 y5 y6 y7 y8 y9 y10
    obtain ⟨y0, y1, y2, y3, y4, y5, y6, y7, y8, y9, y10⟩ := cells11 XB_26.out
    go_wp2_with fail
    with_reducible refine (could_nil w8 (.pointer none) a0_10 HN_27.out).mono ?_
    rintro e w9 ⟨rfl, hb⟩
    have HB_29 := lhid (below_then HB_25.out HB_25.out.size hb)
    have XB_30 := lhid (blk_below XB_26.out hb)
    have HN_31 := lhid (HN_27.out.next hb)
    have XG_32 := lhid (blk_below XG_28.out hb)
    clear HB_25 XB_26 HN_27 XG_28 hb
    clear y0 y1 y2 y3 y4 y5 y6 y7 y8 y9 y10
    obtain ⟨hx0, hx1, hx2, hx3, hx4, hx5, hx6, hx7, hx8⟩ := nine XG_32.out
    go_upto_region 13 with (fail)
    clear hx0 hx1 hx2 hx3 hx4 hx5 hx6 hx7 hx8
    obtain ⟨y0, y1, y2, y3, y4, y5, y6, y7, y8, y9, y10⟩ := cells11 XB_30.out
    go_wp2_with fail
    with_reducible refine (open_nil w9 (.pointer none) a0_10 a0_1 a0_3 a0_2 a0_4 HN_31.out).mono ?_
    rintro e w10 ⟨rfl, hb⟩
    have HB_33 := lhid (below_then HB_29.out HB_29.out.size hb)
    have XB_34 := lhid (blk_below XB_30.out hb)
    have HN_35 := lhid (HN_31.out.next hb)
    have XG_36 := lhid (blk_below XG_32.out hb)
    clear HB_29 XB_30 HN_31 XG_32 hb
    clear y0 y1 y2 y3 y4 y5 y6 y7 y8 y9 y10
    obtain ⟨y0, y1, y2, y3, y4, y5, y6, y7, y8, y9, y10⟩ := cells11 XB_34.out
    go_wp2_with fail
    with_reducible refine (Next_nil w10 (.pointer none) a0_10 HN_35.out).mono ?_
    rintro e w' ⟨rfl, rfl⟩
    clear y0 y1 y2 y3 y4 y5 y6 y7 y8 y9 y10
    go_wp2_with fail
    with_reducible refine (day_nil w10 (.pointer none) HN_35.out).mono ?_
    rintro e w' ⟨rfl, rfl⟩
    go_wp2_with fail
    with_reducible refine (entries_nil w10 (.pointer none) HN_35.out).mono ?_
    rintro e w11 ⟨rfl, hb⟩
    have HB_37 := lhid (below_then HB_33.out HB_33.out.size hb)
    have XB_38 := lhid (blk_below XB_34.out hb)
    have HN_39 := lhid (HN_35.out.next hb)
    have XG_40 := lhid (blk_below XG_36.out hb)
    clear HB_33 XB_34 HN_35 XG_36 hb
    go_wp2_with fail
    with_reducible refine (Copy_nil w11 (.pointer none) HN_39.out).mono ?_
    rintro e w' ⟨rfl, rfl⟩
    go_wp2_with fail
    with_reducible refine (alive_calls w11).mono ?_
    rintro e w912 ⟨rfl, hb⟩
    have HB_41 := lhid (below_then HB_37.out HB_37.out.size hb)
    have XB_42 := lhid (blk_below XB_38.out hb)
    have HN_43 := lhid (HN_39.out.next hb)
    have XG_44 := lhid (blk_below XG_40.out hb)
    clear HB_37 XB_38 HN_39 XG_40 hb
    go_wp2_with fail
    go_ret
    exact ⟨rfl, HB_41.out⟩
  · go_upto_region 4 with (fail)
    have hb := below_alloc (Below.refl w1.heap.size w1) (.cells #[.bool false, .int .i64 0, .slice none 0 0, .slice none 0 0] 70)
    have hn := blk_new w1 (.cells #[.bool false, .int .i64 0, .slice none 0 0, .slice none 0 0] 70)
    have HZ2 := lhid (show (World.alloc w1 (.cells #[.bool false, .int .i64 0, .slice none 0 0, .slice none 0 0] 70)).heap.size = w1.heap.size + 1 from by simp)
    generalize hq : World.alloc w1 (.cells #[.bool false, .int .i64 0, .slice none 0 0, .slice none 0 0] 70) = w2 at hb hn HZ2 ⊢
    clear hq
    have HB_45 := lhid (below_then HB_2.out HB_2.out.size hb)
    have XB_46 := lhid (blk_below XB_3.out hb)
    clear HB_2 XB_3 hb
    have XN_47 := lhid (hn)
    clear hn
    obtain ⟨nb, hnb⟩ : ∃ q, q = w1.heap.size := ⟨_, rfl⟩
    rw [← hnb] at XN_47 ⊢
    clear hnb
    have HN_48 := lhid (show NoBook w2 (.pointer (some ⟨nb, 0, none⟩)) from Or.inr ⟨nb, rfl, XN_47.out⟩)
    obtain ⟨y0, y1, y2, y3, y4, y5, y6, y7, y8, y9, y10⟩ := cells11 XB_46.out
    go_wp2_with fail
    with_reducible refine (grant_nil w2 (.pointer (some ⟨nb, 0, none⟩)) a0_3 a0_6 a0_7 a0_8 a0_9 HN_48.out).mono ?_
    rintro e w3 ⟨rfl, hb⟩
    have HB_49 := lhid (below_then HB_45.out HB_45.out.size hb)
    have XB_50 := lhid (blk_below XB_46.out hb)
    have XN_51 := lhid (blk_below XN_47.out hb)
    have HN_52 := lhid (HN_48.out.next hb)
    clear HB_45 XB_46 XN_47 HN_48 hb
    clear y0 y1 y2 y3 y4 y5 y6 y7 y8 y9 y10
    obtain ⟨y0, y1, y2, y3, y4, y5, y6, y7, y8, y9, y10⟩ := cells11 XB_50.out
    go_wp2_with fail
    with_reducible refine (Pass_nil w3 (.pointer (some ⟨nb, 0, none⟩)) a0_1 a0_3 a0_4 a0_6 a0_7 a0_8 a0_9 HN_52.out).mono ?_
    rintro e w4 ⟨rfl, hb⟩
    have HB_53 := lhid (below_then HB_49.out HB_49.out.size hb)
    have XB_54 := lhid (blk_below XB_50.out hb)
    have XN_55 := lhid (blk_below XN_51.out hb)
    have HN_56 := lhid (HN_52.out.next hb)
    clear HB_49 XB_50 XN_51 HN_52 hb
    clear y0 y1 y2 y3 y4 y5 y6 y7 y8 y9 y10
    obtain ⟨y0, y1, y2, y3, y4, y5, y6, y7, y8, y9, y10⟩ := cells11 XB_54.out
    go_wp2_with fail
    with_reducible refine (Revoke_nil w4 (.pointer (some ⟨nb, 0, none⟩)) a0_1 a0_3 HN_56.out).mono ?_
    rintro e w5 ⟨rfl, hb⟩
    have HB_57 := lhid (below_then HB_53.out HB_53.out.size hb)
    have XB_58 := lhid (blk_below XB_54.out hb)
    have XN_59 := lhid (blk_below XN_55.out hb)
    have HN_60 := lhid (HN_56.out.next hb)
    clear HB_53 XB_54 XN_55 HN_56 hb
    clear y0 y1 y2 y3 y4 y5 y6 y7 y8 y9 y10
    obtain ⟨y0, y1, y2, y3, y4, y5, y6, y7, y8, y9, y10⟩ := cells11 XB_58.out
    go_wp2_with fail
    with_reducible refine (Get_nil w5 (.pointer (some ⟨nb, 0, none⟩)) a0_1 HN_60.out).mono ?_
    rintro e w6 ⟨rfl, hb⟩
    have HB_61 := lhid (below_then HB_57.out HB_57.out.size hb)
    have XB_62 := lhid (blk_below XB_58.out hb)
    have XN_63 := lhid (blk_below XN_59.out hb)
    have HN_64 := lhid (HN_60.out.next hb)
    clear HB_57 XB_58 XN_59 HN_60 hb
    clear y0 y1 y2 y3 y4 y5 y6 y7 y8 y9 y10
    obtain ⟨y0, y1, y2, y3, y4, y5, y6, y7, y8, y9, y10⟩ := cells11 XB_62.out
    go_upto_region 8 with (fail)
    clear y0 y1 y2 y3 y4 y5 y6 y7 y8 y9 y10
    have hb := below_alloc (Below.refl w6.heap.size w6) (.cells #[.int .i64 0, .int .i64 0, .int .i64 0, .int .i64 0, .int .i64 0, .int .i64 0, .int .i64 0, .int .i64 0, .bool false] 39)
    have hn := blk_new w6 (.cells #[.int .i64 0, .int .i64 0, .int .i64 0, .int .i64 0, .int .i64 0, .int .i64 0, .int .i64 0, .int .i64 0, .bool false] 39)
    have HZ7 := lhid (show (World.alloc w6 (.cells #[.int .i64 0, .int .i64 0, .int .i64 0, .int .i64 0, .int .i64 0, .int .i64 0, .int .i64 0, .int .i64 0, .bool false] 39)).heap.size = w6.heap.size + 1 from by simp)
    generalize hq : World.alloc w6 (.cells #[.int .i64 0, .int .i64 0, .int .i64 0, .int .i64 0, .int .i64 0, .int .i64 0, .int .i64 0, .int .i64 0, .bool false] 39) = w7 at hb hn HZ7 ⊢
    clear hq
    have HB_65 := lhid (below_then HB_61.out HB_61.out.size hb)
    have XB_66 := lhid (blk_below XB_62.out hb)
    have XN_67 := lhid (blk_below XN_63.out hb)
    have HN_68 := lhid (HN_64.out.next hb)
    clear HB_61 XB_62 XN_63 HN_64 hb
    have XG_69 := lhid (hn)
    clear hn
    obtain ⟨gb, hgb⟩ : ∃ q, q = w6.heap.size := ⟨_, rfl⟩
    rw [← hgb] at XG_69 ⊢
    clear hgb
    obtain ⟨y0, y1, y2, y3, y4, y5, y6, y7, y8, y9, y10⟩ := cells11 XB_66.out
    go_wp2_with fail
    with_reducible refine (Stands_nil w7 (.pointer (some ⟨nb, 0, none⟩)) a0_1 HN_68.out).mono ?_
    rintro e w8 ⟨rfl, hb⟩
    have HB_70 := lhid (below_then HB_65.out HB_65.out.size hb)
    have XB_71 := lhid (blk_below XB_66.out hb)
    have XN_72 := lhid (blk_below XN_67.out hb)
    have HN_73 := lhid (HN_68.out.next hb)
    have XG_74 := lhid (blk_below XG_69.out hb)
    clear HB_65 XB_66 XN_67 HN_68 XG_69 hb
    clear y0 y1 y2 y3 y4 y5 y6 y7 y8 y9 y10
    obtain ⟨y0, y1, y2, y3, y4, y5, y6, y7, y8, y9, y10⟩ := cells11 XB_71.out
    go_wp2_with fail
    with_reducible refine (Below_nil w8 (.pointer (some ⟨nb, 0, none⟩)) a0_1 HN_73.out).mono ?_
    rintro e w9 ⟨rfl, hb⟩
    have HB_75 := lhid (below_then HB_70.out HB_70.out.size hb)
    have XB_76 := lhid (blk_below XB_71.out hb)
    have XN_77 := lhid (blk_below XN_72.out hb)
    have HN_78 := lhid (HN_73.out.next hb)
    have XG_79 := lhid (blk_below XG_74.out hb)
    clear HB_70 XB_71 XN_72 HN_73 XG_74 hb
    clear y0 y1 y2 y3 y4 y5 y6 y7 y8 y9 y10
    obtain ⟨y0, y1, y2, y3, y4, y5, y6, y7, y8, y9, y10⟩ := cells11 XB_76.out
    go_wp2_with fail
    with_reducible refine (could_nil w9 (.pointer (some ⟨nb, 0, none⟩)) a0_10 HN_78.out).mono ?_
    rintro e w10 ⟨rfl, hb⟩
    have HB_80 := lhid (below_then HB_75.out HB_75.out.size hb)
    have XB_81 := lhid (blk_below XB_76.out hb)
    have XN_82 := lhid (blk_below XN_77.out hb)
    have HN_83 := lhid (HN_78.out.next hb)
    have XG_84 := lhid (blk_below XG_79.out hb)
    clear HB_75 XB_76 XN_77 HN_78 XG_79 hb
    clear y0 y1 y2 y3 y4 y5 y6 y7 y8 y9 y10
    obtain ⟨hx0, hx1, hx2, hx3, hx4, hx5, hx6, hx7, hx8⟩ := nine XG_84.out
    go_upto_region 13 with (fail)
    clear hx0 hx1 hx2 hx3 hx4 hx5 hx6 hx7 hx8
    obtain ⟨y0, y1, y2, y3, y4, y5, y6, y7, y8, y9, y10⟩ := cells11 XB_81.out
    go_wp2_with fail
    with_reducible refine (open_nil w10 (.pointer (some ⟨nb, 0, none⟩)) a0_10 a0_1 a0_3 a0_2 a0_4 HN_83.out).mono ?_
    rintro e w11 ⟨rfl, hb⟩
    have HB_85 := lhid (below_then HB_80.out HB_80.out.size hb)
    have XB_86 := lhid (blk_below XB_81.out hb)
    have XN_87 := lhid (blk_below XN_82.out hb)
    have HN_88 := lhid (HN_83.out.next hb)
    have XG_89 := lhid (blk_below XG_84.out hb)
    clear HB_80 XB_81 XN_82 HN_83 XG_84 hb
    clear y0 y1 y2 y3 y4 y5 y6 y7 y8 y9 y10
    obtain ⟨y0, y1, y2, y3, y4, y5, y6, y7, y8, y9, y10⟩ := cells11 XB_86.out
    go_wp2_with fail
    with_reducible refine (Next_nil w11 (.pointer (some ⟨nb, 0, none⟩)) a0_10 HN_88.out).mono ?_
    rintro e w' ⟨rfl, rfl⟩
    clear y0 y1 y2 y3 y4 y5 y6 y7 y8 y9 y10
    go_wp2_with fail
    with_reducible refine (day_nil w11 (.pointer (some ⟨nb, 0, none⟩)) HN_88.out).mono ?_
    rintro e w' ⟨rfl, rfl⟩
    go_wp2_with fail
    with_reducible refine (entries_nil w11 (.pointer (some ⟨nb, 0, none⟩)) HN_88.out).mono ?_
    rintro e w12 ⟨rfl, hb⟩
    have HB_90 := lhid (below_then HB_85.out HB_85.out.size hb)
    have XB_91 := lhid (blk_below XB_86.out hb)
    have XN_92 := lhid (blk_below XN_87.out hb)
    have HN_93 := lhid (HN_88.out.next hb)
    have XG_94 := lhid (blk_below XG_89.out hb)
    clear HB_85 XB_86 XN_87 HN_88 XG_89 hb
    go_wp2_with fail
    with_reducible refine (Copy_nil w12 (.pointer (some ⟨nb, 0, none⟩)) HN_93.out).mono ?_
    rintro e w' ⟨rfl, rfl⟩
    go_wp2_with fail
    with_reducible refine (alive_calls w12).mono ?_
    rintro e w913 ⟨rfl, hb⟩
    have HB_95 := lhid (below_then HB_90.out HB_90.out.size hb)
    have XB_96 := lhid (blk_below XB_91.out hb)
    have XN_97 := lhid (blk_below XN_92.out hb)
    have HN_98 := lhid (HN_93.out.next hb)
    have XG_99 := lhid (blk_below XG_94.out hb)
    clear HB_90 XB_91 XN_92 HN_93 XG_94 hb
    go_wp2_with fail
    go_ret
    exact ⟨rfl, HB_95.out⟩
theorem custodyNobody_pure : kimberlitelaw06_CustodyNobody.Pure2 := fun _ _ _ _ _ _ _ _ _ _ _ _ h0 h1 => ⟨0, h0, h1, trivial⟩
end Go.Proofs.Ytfnlghjkjmppdaa.PC
