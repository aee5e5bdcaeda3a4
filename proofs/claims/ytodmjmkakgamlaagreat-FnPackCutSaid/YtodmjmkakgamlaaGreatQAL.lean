/- Lemmas of the proof (QAL), on an abstract machine. Conditions: none. -/
import Derived.Test.YtodmjmkakgamlaaGreatQAS
import Derived.Test.YtodmjmkakgamlaaGreatQAF0
import Derived.Test.YtodmjmkakgamlaaGreatQAF1
import Derived.Test.YtodmjmkakgamlaaGreatQAF2
import Derived.Test.YtodmjmkakgamlaaGreatQAF3
import Derived.Test.YtodmjmkakgamlaaGreatQAF4
import Derived.Test.YtodmjmkakgamlaaGreatQAF5
import Derived.Test.YtodmjmkakgamlaaGreatQAF6
import Derived.Test.YtodmjmkakgamlaaGreatQAF7
import Derived.Test.YtodmjmkakgamlaaGreatQAF8
import Derived.Test.YtodmjmkakgamlaaGreatQAF9
import Derived.Test.YtodmjmkakgamlaaGreatRow
import Derived.Test.YtodmjmkakgamlaaGreatRows
set_option linter.unusedVariables false
set_option linter.unusedSimpArgs false
set_option maxRecDepth 100000
set_option maxHeartbeats 4000000
namespace Go.Proofs.YtodmjmkakgamlaaGreat
open Go.Proofs.AM
def tb : Tab := ⟨lk [(17, 3), (33, 4), (49, 9), (66, 175), (82, 156), (100, 106), (115, 65), (130, 34), (155, 108), (163, 61), (210, 29), (226, 103), (257, 5), (273, 58), (290, 97), (338, 246), (354, 239), (372, 182), (387, 132), (402, 89), (427, 184), (435, 87), (466, 39), (482, 179), (513, 216), (529, 104), (545, 63)], lk [(12, 211), (13, 192), (14, 84), (15, 169), (16, 170), (17, 131), (18, 175), (19, 138), (20, 139), (21, 93), (22, 172), (23, 173), (24, 134), (25, 32), (26, 78), (27, 85), (28, 86), (29, 171), (30, 133), (31, 83), (32, 208), (33, 35), (37, 81), (38, 91), (39, 137), (47, 151), (52, 92), (60, 182), (61, 183), (76, 28), (79, 186), (80, 72), (81, 156), (82, 117), (127, 158), (128, 119), (129, 120), (130, 66), (325, 135), (220, 88), (358, 87), (330, 37), (85, 128), (86, 62), (83, 127), (84, 126), (87, 73), (88, 74), (77, 130), (78, 129), (89, 75), (90, 76), (91, 123), (92, 69), (93, 64), (94, 77), (96, 30), (123, 122), (124, 121), (125, 67), (126, 65), (150, 31), (316, 27), (321, 60), (326, 116), (362, 150), (365, 152), (366, 153), (356, 111), (387, 185), (397, 209), (386, 184), (363, 149), (372, 155), (341, 115), (361, 113), (335, 112), (227, 147), (224, 180), (327, 179), (364, 82), (367, 154), (336, 114), (377, 181), (357, 148), (355, 110), (317, 59), (331, 38), (329, 36), (228, 9), (388, 132), (368, 79), (350, 96), (393, 157), (376, 118), (352, 63), (344, 34), (346, 41), (375, 90), (347, 40), (290, 11), (373, 61), (343, 26), (285, 6), (353, 68), (354, 71), (332, 70), (309, 29), (286, 7), (374, 80), (345, 33), (287, 8), (284, 3), (106, 125), (359, 124)]⟩
theorem g_spec_l1Num : GoodC Tryz.prog tb c_cw9 := goodK mix d_cw9 all_nil
theorem g_spec_l1Pts : GoodC Tryz.prog tb c_cy9 := goodK mix d_cy9 (all_cons g_spec_l1Num all_nil)
theorem g_spec_WordOk : GoodC Tryz.prog tb c_co9 := goodK mix d_co9 all_nil
theorem g_spec_ShapeOk : GoodC Tryz.prog tb c_ck9 := goodK mix d_ck9 (all_cons g_spec_l1Pts all_nil)
theorem g_spec_l2Tags : GoodC Tryz.prog tb c_di9 := goodK mix d_di9 (all_cons g_spec_WordOk all_nil)
theorem g_spec_FeatOk : GoodC Tryz.prog tb c_cd9 := goodK mix d_cd9 (all_cons g_spec_WordOk (all_cons g_spec_ShapeOk (all_cons g_spec_l2Tags all_nil)))
theorem g_spec_l1Same : GoodC Tryz.prog tb c_cz9 := goodK mix d_cz9 all_nil
theorem g_spec_ShapeSame : GoodC Tryz.prog tb c_cl9 := goodK mix d_cl9 (all_cons g_spec_l1Same all_nil)
theorem g_spec_l2Same : GoodC Tryz.prog tb c_dh9 := goodK mix d_dh9 all_nil
theorem g_spec_FeatSame : GoodC Tryz.prog tb c_ce9 := goodK mix d_ce9 (all_cons g_spec_ShapeSame (all_cons g_spec_l2Same all_nil))
theorem g_spec_l7Ints : GoodC Tryz.prog tb c_eg9 := goodK mix d_eg9 all_nil
theorem g_spec_SheetSame : GoodC Tryz.prog tb c_cn9 := goodK mix d_cn9 (all_cons g_spec_FeatSame all_nil)
theorem g_spec_l7Same : GoodC Tryz.prog tb c_el9 := goodK mix d_el9 (all_cons g_spec_l7Ints (all_cons g_spec_SheetSame all_nil))
theorem g_spec_l7Up : GoodC Tryz.prog tb c_em9 := goodK mix d_em9 all_nil
theorem g_spec_SheetOk : GoodC Tryz.prog tb c_cm9 := goodK mix d_cm9 (all_cons g_spec_FeatOk all_nil)
theorem g_spec_l7Find : GoodC Tryz.prog tb c_ed9 := goodK mix d_ed9 (all_cons g_spec_l7Same all_nil)
theorem g_spec_l7Head : GoodC Tryz.prog tb c_ef9 := goodK mix d_ef9 all_nil
theorem g_spec_l1Copy : GoodC Tryz.prog tb c_cu9 := goodK mix d_cu9 all_nil
theorem g_spec_l2Copy : GoodC Tryz.prog tb c_dc9 := goodK mix d_dc9 (all_cons g_spec_l1Copy all_nil)
theorem g_spec_l3Copy : GoodC Tryz.prog tb c_dl9 := goodK mix d_dl9 (all_cons g_spec_l2Copy all_nil)
theorem g_spec_l7One : GoodC Tryz.prog tb c_ej9 := goodK mix d_ej9 (all_cons g_spec_l3Copy all_nil)
theorem g_spec_RepoOk : GoodC Tryz.prog tb c_cj9 := goodK mix d_cj9 (all_cons g_spec_l7Up (all_cons g_spec_SheetOk (all_cons g_spec_WordOk (all_cons g_spec_l7Find (all_cons g_spec_l7Head all_nil)))))
theorem g_spec_l3Put : GoodC Tryz.prog tb c_do9 := goodK mix d_do9 all_nil
theorem g_spec_l4Ids : GoodC Tryz.prog tb c_dv9 := goodK mix d_dv9 (all_cons g_spec_l3Put all_nil)
theorem g_spec_l3Find : GoodC Tryz.prog tb c_dn9 := goodK mix d_dn9 all_nil
theorem g_spec_l2Put : GoodC Tryz.prog tb c_dg9 := goodK mix d_dg9 all_nil
theorem g_spec_l4Side : GoodC Tryz.prog tb c_dz9 := goodK mix d_dz9 (all_cons g_spec_l3Find (all_cons g_spec_l2Copy all_nil))
theorem g_spec_l7Add : GoodC Tryz.prog tb c_ea9 := goodR mix d_ea9 (all_cons g_spec_l7Find (all_cons g_spec_l7One all_nil))
theorem g_spec_l7Copy : GoodC Tryz.prog tb c_ec9 := goodK mix d_ec9 (all_cons g_spec_l7One all_nil)
theorem g_impl_within : GoodC Tryz.prog tb c_bf9 := goodK mix d_bf9 all_nil
theorem g_impl_ptOk : GoodC Tryz.prog tb c_bb9 := goodK mix d_bb9 (all_cons g_impl_within all_nil)
theorem g_impl_WordOk : GoodC Tryz.prog tb c_as9 := goodK mix d_as9 (all_cons g_impl_within all_nil)
theorem g_impl_ShapeOk : GoodC Tryz.prog tb c_ao9 := goodK mix d_ao9 (all_cons g_impl_ptOk (all_cons g_impl_within all_nil))
theorem g_impl_FeatOk : GoodC Tryz.prog tb c_ae9 := goodK mix d_ae9 (all_cons g_impl_WordOk (all_cons g_impl_ShapeOk all_nil))
theorem g_slices_Equal_impl_Pt_impl_Pt : GoodC Tryz.prog tb c_bo9 := goodK mix d_bo9 all_nil
theorem g_impl_ShapeSame : GoodC Tryz.prog tb c_ap9 := goodK mix d_ap9 (all_cons g_slices_Equal_impl_Pt_impl_Pt all_nil)
theorem g_slices_Equal_impl_Tag_impl_Tag : GoodC Tryz.prog tb c_bp9 := goodK mix d_bp9 all_nil
theorem g_impl_FeatSame : GoodC Tryz.prog tb c_af9 := goodK mix d_af9 (all_cons g_impl_ShapeSame (all_cons g_slices_Equal_impl_Tag_impl_Tag all_nil))
theorem g_slices_EqualFunc_impl_Feat_impl_Feat_impl_Feat_impl_Feat__impl_FeatSame : GoodC Tryz.prog tb c_bm9 := goodK mix d_bm9 (all_cons g_impl_FeatSame all_nil)
theorem g_impl_SheetSame : GoodC Tryz.prog tb c_ar9 := goodK mix d_ar9 (all_cons g_slices_EqualFunc_impl_Feat_impl_Feat_impl_Feat_impl_Feat__impl_FeatSame all_nil)
theorem g_slices_Equal_int_int : GoodC Tryz.prog tb c_bq9 := goodK mix d_bq9 all_nil
theorem g_impl_sameCommit : GoodC Tryz.prog tb c_bc9 := goodK mix d_bc9 (all_cons g_slices_Equal_int_int (all_cons g_impl_SheetSame all_nil))
theorem g_slices_Index_int_int : GoodC Tryz.prog tb c_bx9 := goodK mix d_bx9 all_nil
theorem g_impl_SheetOk : GoodC Tryz.prog tb c_aq9 := goodK mix d_aq9 (all_cons g_impl_FeatOk all_nil)
theorem g_impl_Repo_commit_1 : GoodC Tryz.prog tb c_ak9 := goodK mix d_ak9 (all_cons g_impl_sameCommit all_nil)
theorem g_slices_IndexFunc_impl_Commit_impl_Commit__impl_Repo_commit_1 : GoodC Tryz.prog tb c_bs9 := goodK mix d_bs9 (all_cons g_impl_Repo_commit_1 all_nil)
theorem g_impl_Repo_commit : GoodC Tryz.prog tb c_aj9 := goodK mix d_aj9 (all_cons g_slices_IndexFunc_impl_Commit_impl_Commit__impl_Repo_commit_1 all_nil)
theorem g_slices_Contains_int_int : GoodC Tryz.prog tb c_bh9 := goodK mix d_bh9 (all_cons g_slices_Index_int_int all_nil)
theorem g_impl_Repo_head_1 : GoodC Tryz.prog tb c_am9 := goodK mix d_am9 all_nil
theorem g_slices_IndexFunc_impl_Head_impl_Head__impl_Repo_head_1 : GoodC Tryz.prog tb c_bw9 := goodK mix d_bw9 (all_cons g_impl_Repo_head_1 all_nil)
theorem g_impl_Repo_head : GoodC Tryz.prog tb c_al9 := goodK mix d_al9 (all_cons g_slices_IndexFunc_impl_Head_impl_Head__impl_Repo_head_1 all_nil)
theorem g_impl_Repo_version : GoodC Tryz.prog tb c_an9 := goodK mix d_an9 (all_cons g_impl_within all_nil)
theorem g_impl_cloneShape : GoodC Tryz.prog tb c_aw9 := goodK mix d_aw9 all_nil
theorem g_impl_cloneFeat : GoodC Tryz.prog tb c_au9 := goodK mix d_au9 (all_cons g_impl_cloneShape all_nil)
theorem g_impl_cloneSheet : GoodC Tryz.prog tb c_ax9 := goodK mix d_ax9 (all_cons g_impl_cloneFeat all_nil)
theorem g_impl_cloneCommit : GoodC Tryz.prog tb c_at9 := goodK mix d_at9 (all_cons g_impl_cloneSheet all_nil)
theorem g_impl_RepoOk : GoodC Tryz.prog tb c_ah9 := goodK mix d_ah9 (all_cons g_impl_within (all_cons g_impl_SheetOk (all_cons g_impl_WordOk (all_cons g_impl_Repo_commit (all_cons g_slices_Contains_int_int (all_cons g_impl_Repo_head (all_cons g_impl_Repo_version all_nil)))))))
theorem g_impl_featAt_1 : GoodC Tryz.prog tb c_az9 := goodK mix d_az9 all_nil
theorem g_slices_IndexFunc_impl_Feat_impl_Feat__impl_featAt_1 : GoodC Tryz.prog tb c_bu9 := goodK mix d_bu9 (all_cons g_impl_featAt_1 all_nil)
theorem g_impl_featAt : GoodC Tryz.prog tb c_ay9 := goodK mix d_ay9 (all_cons g_slices_IndexFunc_impl_Feat_impl_Feat__impl_featAt_1 all_nil)
theorem g_impl_side : GoodC Tryz.prog tb c_bd9 := goodK mix d_bd9 (all_cons g_impl_featAt (all_cons g_impl_cloneFeat all_nil))
theorem g_impl_cloneRepo : GoodC Tryz.prog tb c_av9 := goodK mix d_av9 (all_cons g_impl_cloneCommit all_nil)
theorem g_spec_l12Open : GoodC Tryz.prog tb c_cp9 := goodR mix d_cp9 all_nil
theorem g_spec_l12Rd_pick : GoodC Tryz.prog tb c_cs9 := goodR mix d_cs9 all_nil
theorem g_spec_l12Rd_of : GoodC Tryz.prog tb c_cr9 := goodR mix d_cr9 (all_cons g_spec_l12Rd_pick all_nil)
theorem g_spec_l2Id : GoodC Tryz.prog tb c_de9 := goodR mix d_de9 (all_cons g_spec_l12Rd_of all_nil)
theorem g_spec_l2Key : GoodC Tryz.prog tb c_df9 := goodR mix d_df9 (all_cons g_spec_l12Rd_of all_nil)
theorem g_spec_l2Val : GoodC Tryz.prog tb c_dj9 := goodR mix d_dj9 (all_cons g_spec_l12Rd_of all_nil)
theorem g_spec_l12Rd_num : GoodC Tryz.prog tb c_cq9 := goodR mix d_cq9 (all_cons g_spec_l12Rd_pick all_nil)
theorem g_spec_l1Pt : GoodC Tryz.prog tb c_cx9 := goodR mix d_cx9 (all_cons g_spec_l12Rd_pick (all_cons g_spec_l12Rd_num all_nil))
theorem g_spec_l1Min : GoodC Tryz.prog tb c_cv9 := goodK mix d_cv9 all_nil
theorem g_spec_l1Shape : GoodC Tryz.prog tb c_da9 := goodR mix d_da9 (all_cons g_spec_l12Rd_num (all_cons g_spec_l12Rd_pick (all_cons g_spec_l1Min (all_cons g_spec_l1Pt (all_cons g_spec_ShapeOk all_nil)))))
theorem g_spec_l2Feat : GoodC Tryz.prog tb c_dd9 := goodR mix d_dd9 (all_cons g_spec_l1Shape (all_cons g_spec_l12Rd_pick (all_cons g_spec_l2Key (all_cons g_spec_l2Val (all_cons g_spec_l2Put all_nil)))))
theorem g_spec_l1Bent : GoodC Tryz.prog tb c_ct9 := goodR mix d_ct9 (all_cons g_spec_l1Shape (all_cons g_spec_l12Rd_pick (all_cons g_spec_l12Rd_num all_nil)))
theorem g_spec_l2Bent : GoodC Tryz.prog tb c_db9 := goodR mix d_db9 (all_cons g_spec_l2Id (all_cons g_spec_l2Feat (all_cons g_spec_l12Rd_pick (all_cons g_spec_l12Rd_of (all_cons g_spec_l1Bent all_nil)))))
theorem g_spec_l3Put_xl : GoodC Tryz.prog tb c_dp9 := goodR mix d_dp9 all_nil
theorem g_spec_l3Sheet : GoodC Tryz.prog tb c_dq9 := goodR mix d_dq9 (all_cons g_spec_l12Rd_pick (all_cons g_spec_l2Id (all_cons g_spec_l2Feat (all_cons g_spec_l3Put_xl all_nil))))
theorem g_spec_l3Bent : GoodC Tryz.prog tb c_dk9 := goodR mix d_dk9 (all_cons g_spec_l3Sheet (all_cons g_spec_l12Rd_pick (all_cons g_spec_l2Bent (all_cons g_spec_l3Put_xl all_nil))))
theorem g_spec_RepoNew : GoodC Tryz.prog tb c_ci9 := goodK mix d_ci9 (all_cons g_spec_WordOk all_nil)
theorem g_spec_RepoBranch : GoodC Tryz.prog tb c_ch9 := goodK mix d_ch9 (all_cons g_spec_RepoOk (all_cons g_spec_WordOk (all_cons g_spec_l7Copy (all_cons g_spec_l7Head all_nil))))
theorem g_spec_l7Name : GoodC Tryz.prog tb c_eh9 := goodR mix d_eh9 (all_cons g_spec_l12Rd_of all_nil)
theorem g_spec_l3Cut : GoodC Tryz.prog tb c_dm9 := goodK mix d_dm9 all_nil
theorem g_spec_l4Bend : GoodC Tryz.prog tb c_dr9 := goodR mix d_dr9 (all_cons g_spec_l12Rd_pick (all_cons g_spec_l1Pt (all_cons g_spec_ShapeOk all_nil)))
theorem g_spec_l4Near : GoodC Tryz.prog tb c_dw9 := goodR mix d_dw9 (all_cons g_spec_l12Rd_pick (all_cons g_spec_l2Id (all_cons g_spec_l3Find (all_cons g_spec_l2Feat (all_cons g_spec_l3Put (all_cons g_spec_l3Cut (all_cons g_spec_l2Copy (all_cons g_spec_l2Key (all_cons g_spec_l2Val (all_cons g_spec_l2Put (all_cons g_spec_l4Bend (all_cons g_spec_SheetOk all_nil))))))))))))
theorem g_spec_l7Note : GoodC Tryz.prog tb c_ei9 := goodR mix d_ei9 (all_cons g_spec_l12Rd_of all_nil)
theorem g_spec_l7Grow : GoodC Tryz.prog tb c_ee9 := goodR mix d_ee9 (all_cons g_spec_l7Name (all_cons g_spec_l7Head (all_cons g_spec_l12Rd_pick (all_cons g_spec_RepoBranch (all_cons g_spec_l4Near (all_cons g_spec_l7Note (all_cons g_spec_l7Copy (all_cons g_spec_l7Add all_nil))))))))
theorem g_spec_l7Repo : GoodC Tryz.prog tb c_ek9 := goodR mix d_ek9 (all_cons g_spec_RepoNew (all_cons g_spec_l3Sheet (all_cons g_spec_l12Rd_pick (all_cons g_spec_l7Grow all_nil))))
theorem g_spec_l7Bent : GoodC Tryz.prog tb c_eb9 := goodR mix d_eb9 (all_cons g_spec_l7Repo (all_cons g_spec_l12Rd_pick (all_cons g_spec_l12Rd_num (all_cons g_spec_l3Bent all_nil))))
theorem g_slices_Equal_impl_Head_impl_Head : GoodC Tryz.prog tb c_bn9 := goodK mix d_bn9 all_nil
theorem g_slices_EqualFunc_impl_Commit_impl_Commit_impl_Commit_impl_Commit__impl_sameCommit : GoodC Tryz.prog tb c_bk9 := goodK mix d_bk9 (all_cons g_impl_sameCommit all_nil)
theorem g_impl_RepoSame : GoodC Tryz.prog tb c_ai9 := goodK mix d_ai9 (all_cons g_slices_EqualFunc_impl_Commit_impl_Commit_impl_Commit_impl_Commit__impl_sameCommit (all_cons g_slices_Equal_impl_Head_impl_Head all_nil))
theorem g_spec_l4One : GoodC Tryz.prog tb c_dy9 := goodK mix d_dy9 (all_cons g_spec_WordOk (all_cons g_spec_FeatSame (all_cons g_spec_FeatOk all_nil)))
theorem g_spec_DiffOk : GoodC Tryz.prog tb c_cb9 := goodK mix d_cb9 (all_cons g_spec_l4One all_nil)
theorem g_impl_Change_same : GoodC Tryz.prog tb c_aa9 := goodK mix d_aa9 (all_cons g_impl_FeatSame all_nil)
theorem g_impl_noFeat : GoodC Tryz.prog tb c_ba9 := goodK mix d_ba9 all_nil
theorem g_impl_sideOk : GoodC Tryz.prog tb c_be9 := goodK mix d_be9 (all_cons g_impl_noFeat (all_cons g_impl_FeatOk all_nil))
theorem g_impl_DiffOk : GoodC Tryz.prog tb c_ad9 := goodK mix d_ad9 (all_cons g_impl_WordOk (all_cons g_impl_sideOk (all_cons g_impl_Change_same all_nil)))
theorem g_spec_l9Was : GoodC Tryz.prog tb c_ep9 := goodK mix d_ep9 all_nil
theorem g_spec_l4Of : GoodC Tryz.prog tb c_dx9 := goodK mix d_dx9 (all_cons g_spec_l4Ids (all_cons g_spec_l4Side (all_cons g_spec_FeatSame all_nil)))
theorem g_spec_l4Copy : GoodC Tryz.prog tb c_ds9 := goodK mix d_ds9 (all_cons g_spec_l2Copy all_nil)
theorem g_spec_l9Diff : GoodC Tryz.prog tb c_en9 := goodK mix d_en9 (all_cons g_spec_l4Copy all_nil)
theorem g_spec_PackOf : GoodC Tryz.prog tb c_cf9 := goodK mix d_cf9 (all_cons g_spec_RepoOk (all_cons g_spec_l9Was (all_cons g_spec_l4Of (all_cons g_spec_l9Diff all_nil))))
theorem g_spec_l4Diff : GoodC Tryz.prog tb c_dt9 := goodR mix d_dt9 (all_cons g_spec_l3Sheet (all_cons g_spec_l4Near (all_cons g_spec_l4Of (all_cons g_spec_l12Rd_pick (all_cons g_spec_l2Bent (all_cons g_spec_l12Rd_of all_nil))))))
theorem g_spec_l9Pack : GoodC Tryz.prog tb c_eo9 := goodR mix d_eo9 (all_cons g_spec_l7Bent (all_cons g_spec_PackOf (all_cons g_spec_l12Rd_pick (all_cons g_spec_l4Diff all_nil))))
theorem g_spec_DrawPackOpen : GoodC Tryz.prog tb c_cc9 := goodR mix d_cc9 (all_cons g_spec_l12Open (all_cons g_spec_l9Pack all_nil))
theorem g_slices_Delete_impl_Feat_impl_Feat : GoodC Tryz.prog tb c_bi9 := goodR mix d_bi9 all_nil
theorem g_impl_DiffDo_1 : GoodC Tryz.prog tb c_ac9 := goodK mix d_ac9 all_nil
theorem g_slices_SortFunc_impl_Feat_impl_Feat__impl_DiffDo_1 : GoodC Tryz.prog tb c_bz9 := sort_71 (by kernel_rfl) (by kernel_rfl)
theorem g_impl_DiffDo : GoodC Tryz.prog tb c_ab9 := goodK mix d_ab9 (all_cons g_impl_SheetOk (all_cons g_impl_DiffOk (all_cons g_impl_cloneSheet (all_cons g_impl_side (all_cons g_impl_FeatSame (all_cons g_impl_featAt (all_cons g_slices_Delete_impl_Feat_impl_Feat (all_cons g_impl_cloneFeat (all_cons g_slices_SortFunc_impl_Feat_impl_Feat__impl_DiffDo_1 all_nil)))))))))
theorem g_impl_PackOpen : GoodC Tryz.prog tb c_ag9 := goodK mix d_ag9 (all_cons g_impl_within (all_cons g_impl_DiffDo (all_cons g_impl_RepoOk (all_cons g_impl_cloneRepo all_nil))))
theorem g_spec_l4Fits : GoodC Tryz.prog tb c_du9 := goodK mix d_du9 (all_cons g_spec_l4Side (all_cons g_spec_FeatSame all_nil))
theorem g_spec_DiffDo : GoodC Tryz.prog tb c_ca9 := goodK mix d_ca9 (all_cons g_spec_SheetOk (all_cons g_spec_DiffOk (all_cons g_spec_l4Fits (all_cons g_spec_l3Put (all_cons g_spec_l3Cut (all_cons g_spec_l3Copy all_nil))))))
theorem g_spec_l9Was_yl : GoodC Tryz.prog tb c_eq9 := goodR mix d_eq9 all_nil
theorem g_spec_PackOpen : GoodC Tryz.prog tb c_cg9 := goodK mix d_cg9 (all_cons g_spec_l7Up (all_cons g_spec_DiffDo (all_cons g_spec_RepoOk (all_cons g_spec_l9Was_yl all_nil))))
theorem g_laws_FnPackCut : GoodC Tryz.prog tb c_bg9 := goodR mix d_bg9 (all_cons g_spec_DrawPackOpen (all_cons g_impl_PackOpen (all_cons g_spec_PackOpen (all_cons g_impl_RepoSame all_nil))))
end Go.Proofs.YtodmjmkakgamlaaGreat