/- Lemmas of the proof (RAL), on an abstract machine. Conditions: none. -/
import Derived.Test.YtodmjmkakgamlaaDoorRAS
import Derived.Test.YtodmjmkakgamlaaDoorRAF0
import Derived.Test.YtodmjmkakgamlaaDoorRAF1
import Derived.Test.YtodmjmkakgamlaaDoorRAF2
import Derived.Test.YtodmjmkakgamlaaDoorRAF3
import Derived.Test.YtodmjmkakgamlaaDoorRow
import Derived.Test.YtodmjmkakgamlaaDoorRows
set_option linter.unusedVariables false
set_option linter.unusedSimpArgs false
set_option maxRecDepth 100000
set_option maxHeartbeats 4000000
namespace Go.Proofs.YtodmjmkakgamlaaDoor
open Go.Proofs.AM
def tb : Tab := ⟨lk [(17, 3), (33, 4), (49, 9), (66, 94), (82, 78), (100, 50), (155, 52), (163, 37), (226, 47), (257, 5), (273, 30), (338, 121), (354, 113), (372, 66), (427, 68), (435, 33), (482, 63), (529, 48), (561, 84)], lk [(1, 73), (2, 74), (3, 54), (4, 55), (5, 39), (6, 16), (12, 84), (13, 76), (14, 40), (15, 58), (16, 59), (17, 42), (18, 75), (19, 56), (20, 57), (21, 41), (64, 85), (65, 77), (66, 78), (67, 61), (68, 62), (69, 44), (70, 20), (76, 49), (79, 70), (80, 33), (81, 52), (82, 36), (127, 81), (128, 68), (129, 69), (130, 51), (153, 86), (154, 82), (155, 83), (156, 71), (157, 72), (158, 53), (159, 26), (194, 28), (195, 17), (196, 9), (189, 4), (197, 31), (198, 21), (199, 12), (190, 6), (200, 38), (201, 27), (202, 15), (193, 8), (337, 10), (388, 29), (368, 18), (403, 60), (398, 43), (389, 30), (369, 19), (338, 11), (260, 5), (339, 13), (350, 35), (393, 50), (376, 34), (352, 23), (392, 37), (391, 25), (371, 24), (340, 14), (261, 7), (259, 3), (370, 22)], [(0, shNames)], [(1, (Go.Lib.pow10Tab.map fun z => Value.int .u64 z).toArray)]⟩
theorem g_laws_szPtS : GoodC Tryd.prog tb c_bi9 := goodK mix d_bi9 all_nil
theorem g_laws_szTag : GoodC Tryd.prog tb c_bk9 := goodK mix d_bk9 all_nil
theorem g_laws_szShape : GoodC Tryd.prog tb c_bj9 := goodK mix d_bj9 (all_cons g_laws_szPtS all_nil)
theorem g_laws_szTagS : GoodC Tryd.prog tb c_bl9 := goodK mix d_bl9 (all_cons g_laws_szTag all_nil)
theorem g_laws_szFeat : GoodC Tryd.prog tb c_bg9 := goodK mix d_bg9 (all_cons g_laws_szShape (all_cons g_laws_szTagS all_nil))
theorem g_laws_szIntS : GoodC Tryd.prog tb c_bh9 := goodK mix d_bh9 all_nil
theorem g_spec_l1Num : GoodC Tryd.prog tb c_ck9 := goodK mix d_ck9 all_nil
theorem g_spec_l1Pts : GoodC Tryd.prog tb c_cl9 := goodK mix d_cl9 (all_cons g_spec_l1Num all_nil)
theorem g_spec_WordOk : GoodC Tryd.prog tb c_ci9 := goodK mix d_ci9 all_nil
theorem g_spec_ShapeOk : GoodC Tryd.prog tb c_cf9 := goodK mix d_cf9 (all_cons g_spec_l1Pts all_nil)
theorem g_spec_l2Tags : GoodC Tryd.prog tb c_cp9 := goodK mix d_cp9 (all_cons g_spec_WordOk all_nil)
theorem g_spec_FeatOk : GoodC Tryd.prog tb c_cb9 := goodK mix d_cb9 (all_cons g_spec_WordOk (all_cons g_spec_ShapeOk (all_cons g_spec_l2Tags all_nil)))
theorem g_spec_l1Same : GoodC Tryd.prog tb c_cm9 := goodK mix d_cm9 all_nil
theorem g_spec_ShapeSame : GoodC Tryd.prog tb c_cg9 := goodK mix d_cg9 (all_cons g_spec_l1Same all_nil)
theorem g_spec_l2Same : GoodC Tryd.prog tb c_co9 := goodK mix d_co9 all_nil
theorem g_spec_FeatSame : GoodC Tryd.prog tb c_cc9 := goodK mix d_cc9 (all_cons g_spec_ShapeSame (all_cons g_spec_l2Same all_nil))
theorem g_laws_toPt : GoodC Tryd.prog tb c_bs9 := goodK mix d_bs9 all_nil
theorem g_laws_toPtS : GoodC Tryd.prog tb c_bt9 := goodK mix d_bt9 (all_cons g_laws_toPt all_nil)
theorem g_laws_toTag : GoodC Tryd.prog tb c_bv9 := goodK mix d_bv9 all_nil
theorem g_laws_toShape : GoodC Tryd.prog tb c_bu9 := goodK mix d_bu9 (all_cons g_laws_toPtS all_nil)
theorem g_laws_toTagS : GoodC Tryd.prog tb c_bw9 := goodK mix d_bw9 (all_cons g_laws_toTag all_nil)
theorem g_laws_toFeat : GoodC Tryd.prog tb c_bq9 := goodK mix d_bq9 (all_cons g_laws_toShape (all_cons g_laws_toTagS all_nil))
theorem g_laws_toIntS : GoodC Tryd.prog tb c_br9 := goodK mix d_br9 all_nil
theorem g_impl_within : GoodC Tryd.prog tb c_ap9 := goodK mix d_ap9 all_nil
theorem g_impl_ptOk : GoodC Tryd.prog tb c_an9 := goodK mix d_an9 (all_cons g_impl_within all_nil)
theorem g_impl_WordOk : GoodC Tryd.prog tb c_al9 := goodK mix d_al9 (all_cons g_impl_within all_nil)
theorem g_impl_ShapeOk : GoodC Tryd.prog tb c_ai9 := goodK mix d_ai9 (all_cons g_impl_ptOk (all_cons g_impl_within all_nil))
theorem g_impl_FeatOk : GoodC Tryd.prog tb c_ae9 := goodK mix d_ae9 (all_cons g_impl_WordOk (all_cons g_impl_ShapeOk all_nil))
theorem g_slices_Equal_impl_Pt_impl_Pt : GoodC Tryd.prog tb c_bx9 := goodK mix d_bx9 all_nil
theorem g_impl_ShapeSame : GoodC Tryd.prog tb c_aj9 := goodK mix d_aj9 (all_cons g_slices_Equal_impl_Pt_impl_Pt all_nil)
theorem g_slices_Equal_impl_Tag_impl_Tag : GoodC Tryd.prog tb c_by9 := goodK mix d_by9 all_nil
theorem g_impl_FeatSame : GoodC Tryd.prog tb c_af9 := goodK mix d_af9 (all_cons g_impl_ShapeSame (all_cons g_slices_Equal_impl_Tag_impl_Tag all_nil))
theorem g_laws_eqPt : GoodC Tryd.prog tb c_ax9 := goodK mix d_ax9 all_nil
theorem g_laws_eqPtS : GoodC Tryd.prog tb c_ay9 := goodK mix d_ay9 (all_cons g_laws_eqPt all_nil)
theorem g_laws_eqTag : GoodC Tryd.prog tb c_ba9 := goodK mix d_ba9 all_nil
theorem g_laws_eqShape : GoodC Tryd.prog tb c_az9 := goodK mix d_az9 (all_cons g_laws_eqPtS all_nil)
theorem g_laws_eqTagS : GoodC Tryd.prog tb c_bb9 := goodK mix d_bb9 (all_cons g_laws_eqTag all_nil)
theorem g_laws_eqFeat : GoodC Tryd.prog tb c_av9 := goodK mix d_av9 (all_cons g_laws_eqShape (all_cons g_laws_eqTagS all_nil))
theorem g_laws_eqIntS : GoodC Tryd.prog tb c_aw9 := goodK mix d_aw9 all_nil
theorem g_laws_szChange : GoodC Tryd.prog tb c_bc9 := goodK mix d_bc9 (all_cons g_laws_szFeat all_nil)
theorem g_laws_szChangeS : GoodC Tryd.prog tb c_bd9 := goodK mix d_bd9 (all_cons g_laws_szChange all_nil)
theorem g_laws_szEntry : GoodC Tryd.prog tb c_be9 := goodK mix d_be9 (all_cons g_laws_szIntS (all_cons g_laws_szChangeS all_nil))
theorem g_laws_szEntryS : GoodC Tryd.prog tb c_bf9 := goodK mix d_bf9 (all_cons g_laws_szEntry all_nil)
theorem g_laws_toChange : GoodC Tryd.prog tb c_bm9 := goodK mix d_bm9 (all_cons g_laws_toFeat all_nil)
theorem g_laws_toChangeS : GoodC Tryd.prog tb c_bn9 := goodK mix d_bn9 (all_cons g_laws_toChange all_nil)
theorem g_laws_toEntry : GoodC Tryd.prog tb c_bo9 := goodK mix d_bo9 (all_cons g_laws_toIntS (all_cons g_laws_toChangeS all_nil))
theorem g_laws_toEntryS : GoodC Tryd.prog tb c_bp9 := goodK mix d_bp9 (all_cons g_laws_toEntry all_nil)
theorem g_laws_eqChange : GoodC Tryd.prog tb c_ar9 := goodK mix d_ar9 (all_cons g_laws_eqFeat all_nil)
theorem g_laws_eqChangeS : GoodC Tryd.prog tb c_as9 := goodK mix d_as9 (all_cons g_laws_eqChange all_nil)
theorem g_laws_eqEntry : GoodC Tryd.prog tb c_at9 := goodK mix d_at9 (all_cons g_laws_eqIntS (all_cons g_laws_eqChangeS all_nil))
theorem g_laws_eqEntryS : GoodC Tryd.prog tb c_au9 := goodK mix d_au9 (all_cons g_laws_eqEntry all_nil)
theorem g_spec_l12Dec : ∀ fuel, GoodC Tryd.prog tb (c_cj9 fuel)
 | 0 => goodC mix [] all_nil (ir := if_cj9) (kss := ks_cj9) (by kernel_rfl) (fun G H a b h => absurd (show (none : Option _) = some b from h) (fun e => nomatch e))
 | fuel + 1 => goodK mix (d_cj9 fuel) (all_cons (g_spec_l12Dec fuel) all_nil)
theorem g_spec_l4One : GoodC Tryd.prog tb c_cq9 := goodK mix d_cq9 (all_cons g_spec_WordOk (all_cons g_spec_FeatSame (all_cons g_spec_FeatOk all_nil)))
theorem g_spec_DiffOk : GoodC Tryd.prog tb c_bz9 := goodK mix d_bz9 (all_cons g_spec_l4One all_nil)
theorem g_spec_l1Word : GoodC Tryd.prog tb c_cn9 := goodK mix d_cn9 all_nil
theorem g_spec_ShapeText : GoodC Tryd.prog tb c_ch9 := goodK mix d_ch9 (all_cons g_spec_ShapeOk (all_cons g_spec_l1Word (all_cons (g_spec_l12Dec rounds) all_nil)))
theorem g_spec_FeatText : GoodC Tryd.prog tb c_cd9 := goodK mix d_cd9 (all_cons g_spec_FeatOk (all_cons g_spec_ShapeText all_nil))
theorem g_spec_l4Word : GoodC Tryd.prog tb c_cr9 := goodK mix d_cr9 (all_cons g_spec_FeatText all_nil)
theorem g_spec_DiffText : GoodC Tryd.prog tb c_ca9 := goodK mix d_ca9 (all_cons g_spec_DiffOk (all_cons g_spec_l4Word all_nil))
theorem g_spec_PackText : GoodC Tryd.prog tb c_ce9 := goodK mix d_ce9 (all_cons (g_spec_l12Dec rounds) (all_cons g_spec_DiffText all_nil))
theorem g_strconv_Itoa : GoodC Tryd.prog tb c_cs9 := itoa_g (by kernel_rfl) (List.Mem.head _)
theorem g_impl_Change_same : GoodC Tryd.prog tb c_aa9 := goodK mix d_aa9 (all_cons g_impl_FeatSame all_nil)
theorem g_impl_noFeat : GoodC Tryd.prog tb c_am9 := goodK mix d_am9 all_nil
theorem g_impl_sideOk : GoodC Tryd.prog tb c_ao9 := goodK mix d_ao9 (all_cons g_impl_noFeat (all_cons g_impl_FeatOk all_nil))
theorem g_impl_DiffOk : GoodC Tryd.prog tb c_ab9 := goodK mix d_ab9 (all_cons g_impl_WordOk (all_cons g_impl_sideOk (all_cons g_impl_Change_same all_nil)))
theorem g_impl_Shape_text : GoodC Tryd.prog tb c_ak9 := goodK mix d_ak9 (all_cons g_strconv_Itoa all_nil)
theorem g_impl_FeatText : GoodC Tryd.prog tb c_ag9 := goodK mix d_ag9 (all_cons g_impl_FeatOk (all_cons g_impl_Shape_text all_nil))
theorem g_impl_DiffText_1 : GoodC Tryd.prog tb c_ad9 := goodK mix d_ad9 (all_cons g_impl_FeatText all_nil)
theorem g_impl_DiffText : GoodC Tryd.prog tb c_ac9 := goodK mix d_ac9 (all_cons g_impl_DiffOk (all_cons g_impl_DiffText_1 all_nil))
theorem g_impl_PackText : GoodC Tryd.prog tb c_ah9 := goodK mix d_ah9 (all_cons g_strconv_Itoa (all_cons g_impl_DiffText all_nil))
theorem g_laws_FnExactPackText : GoodC Tryd.prog tb c_aq9 := goodK mix d_aq9 (all_cons g_laws_szEntryS (all_cons g_laws_toEntryS (all_cons g_spec_PackText (all_cons g_impl_PackText (all_cons g_laws_eqEntryS all_nil)))))
end Go.Proofs.YtodmjmkakgamlaaDoor