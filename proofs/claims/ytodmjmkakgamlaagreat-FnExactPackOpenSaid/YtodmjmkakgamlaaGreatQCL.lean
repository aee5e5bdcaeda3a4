/- Lemmas of the proof (QCL), on an abstract machine. Conditions: none. -/
import Derived.Test.YtodmjmkakgamlaaGreatQCS
import Derived.Test.YtodmjmkakgamlaaGreatQCF0
import Derived.Test.YtodmjmkakgamlaaGreatQCF1
import Derived.Test.YtodmjmkakgamlaaGreatQCF2
import Derived.Test.YtodmjmkakgamlaaGreatQCF3
import Derived.Test.YtodmjmkakgamlaaGreatQCF4
import Derived.Test.YtodmjmkakgamlaaGreatQCF5
import Derived.Test.YtodmjmkakgamlaaGreatQCF6
import Derived.Test.YtodmjmkakgamlaaGreatQCF7
import Derived.Test.YtodmjmkakgamlaaGreatRow
import Derived.Test.YtodmjmkakgamlaaGreatRows
set_option linter.unusedVariables false
set_option linter.unusedSimpArgs false
set_option maxRecDepth 100000
set_option maxHeartbeats 4000000
namespace Go.Proofs.YtodmjmkakgamlaaGreat
open Go.Proofs.AM
def tb : Tab := ⟨lk [(17, 3), (33, 4), (49, 9), (66, 175), (82, 156), (100, 106), (115, 65), (130, 34), (155, 108), (163, 61), (210, 29), (226, 103), (257, 5), (273, 58), (290, 97), (338, 246), (354, 239), (372, 182), (387, 132), (402, 89), (427, 184), (435, 87), (466, 39), (482, 179), (513, 216), (529, 104), (545, 63)], lk [(1, 212), (2, 213), (3, 193), (4, 194), (5, 174), (6, 105), (9, 53), (11, 20), (12, 211), (13, 192), (14, 84), (15, 169), (16, 170), (17, 131), (18, 175), (19, 138), (20, 139), (21, 93), (22, 172), (23, 173), (24, 134), (25, 32), (26, 78), (27, 85), (28, 86), (29, 171), (30, 133), (31, 83), (33, 35), (37, 81), (39, 137), (52, 92), (64, 222), (65, 214), (66, 215), (67, 195), (68, 196), (69, 176), (70, 107), (73, 55), (75, 22), (76, 28), (79, 186), (80, 72), (81, 156), (82, 117), (127, 158), (128, 119), (129, 120), (130, 66), (325, 135), (220, 88), (358, 87), (330, 37), (85, 128), (86, 62), (83, 127), (84, 126), (87, 73), (88, 74), (77, 130), (78, 129), (89, 75), (90, 76), (91, 123), (92, 69), (93, 64), (94, 77), (96, 30), (123, 122), (124, 121), (125, 67), (126, 65), (150, 31), (153, 224), (154, 220), (155, 221), (156, 206), (157, 207), (158, 178), (159, 97), (160, 144), (161, 99), (162, 56), (163, 45), (164, 23), (166, 48), (167, 101), (168, 102), (169, 47), (170, 100), (171, 46), (172, 24), (173, 103), (174, 104), (175, 50), (176, 109), (177, 57), (178, 58), (183, 15), (185, 16), (187, 25), (194, 145), (195, 106), (196, 52), (189, 19), (197, 146), (198, 108), (199, 54), (190, 21), (200, 143), (201, 98), (202, 44), (193, 14), (364, 82), (388, 132), (368, 79), (350, 96), (393, 157), (376, 118), (352, 63), (344, 34), (353, 68), (354, 71), (332, 70), (309, 29), (286, 7), (374, 80), (345, 33), (287, 8), (348, 49), (292, 17), (294, 5), (106, 125), (359, 124)]⟩
theorem g_laws_szPtS : GoodC Tryz.prog tb c_cw9 := goodK mix d_cw9 all_nil
theorem g_laws_szTag : GoodC Tryz.prog tb c_cy9 := goodK mix d_cy9 all_nil
theorem g_laws_szShape : GoodC Tryz.prog tb c_cx9 := goodK mix d_cx9 (all_cons g_laws_szPtS all_nil)
theorem g_laws_szTagS : GoodC Tryz.prog tb c_cz9 := goodK mix d_cz9 (all_cons g_laws_szTag all_nil)
theorem g_laws_szFeat : GoodC Tryz.prog tb c_cs9 := goodK mix d_cs9 (all_cons g_laws_szShape (all_cons g_laws_szTagS all_nil))
theorem g_laws_szIntS : GoodC Tryz.prog tb c_cv9 := goodK mix d_cv9 all_nil
theorem g_laws_szHead : GoodC Tryz.prog tb c_ct9 := goodK mix d_ct9 all_nil
theorem g_laws_szHeadS : GoodC Tryz.prog tb c_cu9 := goodK mix d_cu9 (all_cons g_laws_szHead all_nil)
theorem g_spec_l1Num : GoodC Tryz.prog tb c_ep9 := goodK mix d_ep9 all_nil
theorem g_spec_l1Pts : GoodC Tryz.prog tb c_eq9 := goodK mix d_eq9 (all_cons g_spec_l1Num all_nil)
theorem g_spec_WordOk : GoodC Tryz.prog tb c_en9 := goodK mix d_en9 all_nil
theorem g_spec_ShapeOk : GoodC Tryz.prog tb c_ej9 := goodK mix d_ej9 (all_cons g_spec_l1Pts all_nil)
theorem g_spec_l2Tags : GoodC Tryz.prog tb c_eu9 := goodK mix d_eu9 (all_cons g_spec_WordOk all_nil)
theorem g_spec_FeatOk : GoodC Tryz.prog tb c_ef9 := goodK mix d_ef9 (all_cons g_spec_WordOk (all_cons g_spec_ShapeOk (all_cons g_spec_l2Tags all_nil)))
theorem g_spec_l1Same : GoodC Tryz.prog tb c_er9 := goodK mix d_er9 all_nil
theorem g_spec_ShapeSame : GoodC Tryz.prog tb c_ek9 := goodK mix d_ek9 (all_cons g_spec_l1Same all_nil)
theorem g_spec_l2Same : GoodC Tryz.prog tb c_et9 := goodK mix d_et9 all_nil
theorem g_spec_FeatSame : GoodC Tryz.prog tb c_eg9 := goodK mix d_eg9 (all_cons g_spec_ShapeSame (all_cons g_spec_l2Same all_nil))
theorem g_spec_l7Ints : GoodC Tryz.prog tb c_fe9 := goodK mix d_fe9 all_nil
theorem g_spec_SheetSame : GoodC Tryz.prog tb c_em9 := goodK mix d_em9 (all_cons g_spec_FeatSame all_nil)
theorem g_spec_l7Same : GoodC Tryz.prog tb c_ff9 := goodK mix d_ff9 (all_cons g_spec_l7Ints (all_cons g_spec_SheetSame all_nil))
theorem g_spec_l7Up : GoodC Tryz.prog tb c_fg9 := goodK mix d_fg9 all_nil
theorem g_spec_SheetOk : GoodC Tryz.prog tb c_el9 := goodK mix d_el9 (all_cons g_spec_FeatOk all_nil)
theorem g_spec_l7Find : GoodC Tryz.prog tb c_fc9 := goodK mix d_fc9 (all_cons g_spec_l7Same all_nil)
theorem g_spec_l7Head : GoodC Tryz.prog tb c_fd9 := goodK mix d_fd9 all_nil
theorem g_spec_l1Copy : GoodC Tryz.prog tb c_eo9 := goodK mix d_eo9 all_nil
theorem g_spec_l2Copy : GoodC Tryz.prog tb c_es9 := goodK mix d_es9 (all_cons g_spec_l1Copy all_nil)
theorem g_spec_l3Copy : GoodC Tryz.prog tb c_ev9 := goodK mix d_ev9 (all_cons g_spec_l2Copy all_nil)
theorem g_spec_RepoOk : GoodC Tryz.prog tb c_ei9 := goodK mix d_ei9 (all_cons g_spec_l7Up (all_cons g_spec_SheetOk (all_cons g_spec_WordOk (all_cons g_spec_l7Find (all_cons g_spec_l7Head all_nil)))))
theorem g_spec_l3Put : GoodC Tryz.prog tb c_ey9 := goodK mix d_ey9 all_nil
theorem g_spec_l3Find : GoodC Tryz.prog tb c_ex9 := goodK mix d_ex9 all_nil
theorem g_spec_l4Side : GoodC Tryz.prog tb c_fb9 := goodK mix d_fb9 (all_cons g_spec_l3Find (all_cons g_spec_l2Copy all_nil))
theorem g_laws_toPt : GoodC Tryz.prog tb c_di9 := goodK mix d_di9 all_nil
theorem g_laws_toPtS : GoodC Tryz.prog tb c_dj9 := goodK mix d_dj9 (all_cons g_laws_toPt all_nil)
theorem g_laws_toTag : GoodC Tryz.prog tb c_dl9 := goodK mix d_dl9 all_nil
theorem g_laws_toShape : GoodC Tryz.prog tb c_dk9 := goodK mix d_dk9 (all_cons g_laws_toPtS all_nil)
theorem g_laws_toTagS : GoodC Tryz.prog tb c_dm9 := goodK mix d_dm9 (all_cons g_laws_toTag all_nil)
theorem g_laws_toFeat : GoodC Tryz.prog tb c_de9 := goodK mix d_de9 (all_cons g_laws_toShape (all_cons g_laws_toTagS all_nil))
theorem g_laws_toIntS : GoodC Tryz.prog tb c_dh9 := goodK mix d_dh9 all_nil
theorem g_laws_toHead : GoodC Tryz.prog tb c_df9 := goodK mix d_df9 all_nil
theorem g_laws_toHeadS : GoodC Tryz.prog tb c_dg9 := goodK mix d_dg9 (all_cons g_laws_toHead all_nil)
theorem g_impl_within : GoodC Tryz.prog tb c_be9 := goodK mix d_be9 all_nil
theorem g_impl_ptOk : GoodC Tryz.prog tb c_ba9 := goodK mix d_ba9 (all_cons g_impl_within all_nil)
theorem g_impl_WordOk : GoodC Tryz.prog tb c_ar9 := goodK mix d_ar9 (all_cons g_impl_within all_nil)
theorem g_impl_ShapeOk : GoodC Tryz.prog tb c_an9 := goodK mix d_an9 (all_cons g_impl_ptOk (all_cons g_impl_within all_nil))
theorem g_impl_FeatOk : GoodC Tryz.prog tb c_ae9 := goodK mix d_ae9 (all_cons g_impl_WordOk (all_cons g_impl_ShapeOk all_nil))
theorem g_slices_Equal_impl_Pt_impl_Pt : GoodC Tryz.prog tb c_dr9 := goodK mix d_dr9 all_nil
theorem g_impl_ShapeSame : GoodC Tryz.prog tb c_ao9 := goodK mix d_ao9 (all_cons g_slices_Equal_impl_Pt_impl_Pt all_nil)
theorem g_slices_Equal_impl_Tag_impl_Tag : GoodC Tryz.prog tb c_ds9 := goodK mix d_ds9 all_nil
theorem g_impl_FeatSame : GoodC Tryz.prog tb c_af9 := goodK mix d_af9 (all_cons g_impl_ShapeSame (all_cons g_slices_Equal_impl_Tag_impl_Tag all_nil))
theorem g_slices_EqualFunc_impl_Feat_impl_Feat_impl_Feat_impl_Feat__impl_FeatSame : GoodC Tryz.prog tb c_dq9 := goodK mix d_dq9 (all_cons g_impl_FeatSame all_nil)
theorem g_impl_SheetSame : GoodC Tryz.prog tb c_aq9 := goodK mix d_aq9 (all_cons g_slices_EqualFunc_impl_Feat_impl_Feat_impl_Feat_impl_Feat__impl_FeatSame all_nil)
theorem g_slices_Equal_int_int : GoodC Tryz.prog tb c_dt9 := goodK mix d_dt9 all_nil
theorem g_impl_sameCommit : GoodC Tryz.prog tb c_bb9 := goodK mix d_bb9 (all_cons g_slices_Equal_int_int (all_cons g_impl_SheetSame all_nil))
theorem g_slices_Index_int_int : GoodC Tryz.prog tb c_ea9 := goodK mix d_ea9 all_nil
theorem g_impl_SheetOk : GoodC Tryz.prog tb c_ap9 := goodK mix d_ap9 (all_cons g_impl_FeatOk all_nil)
theorem g_impl_Repo_commit_1 : GoodC Tryz.prog tb c_aj9 := goodK mix d_aj9 (all_cons g_impl_sameCommit all_nil)
theorem g_slices_IndexFunc_impl_Commit_impl_Commit__impl_Repo_commit_1 : GoodC Tryz.prog tb c_dv9 := goodK mix d_dv9 (all_cons g_impl_Repo_commit_1 all_nil)
theorem g_impl_Repo_commit : GoodC Tryz.prog tb c_ai9 := goodK mix d_ai9 (all_cons g_slices_IndexFunc_impl_Commit_impl_Commit__impl_Repo_commit_1 all_nil)
theorem g_slices_Contains_int_int : GoodC Tryz.prog tb c_dn9 := goodK mix d_dn9 (all_cons g_slices_Index_int_int all_nil)
theorem g_impl_Repo_head_1 : GoodC Tryz.prog tb c_al9 := goodK mix d_al9 all_nil
theorem g_slices_IndexFunc_impl_Head_impl_Head__impl_Repo_head_1 : GoodC Tryz.prog tb c_dz9 := goodK mix d_dz9 (all_cons g_impl_Repo_head_1 all_nil)
theorem g_impl_Repo_head : GoodC Tryz.prog tb c_ak9 := goodK mix d_ak9 (all_cons g_slices_IndexFunc_impl_Head_impl_Head__impl_Repo_head_1 all_nil)
theorem g_impl_Repo_version : GoodC Tryz.prog tb c_am9 := goodK mix d_am9 (all_cons g_impl_within all_nil)
theorem g_impl_cloneShape : GoodC Tryz.prog tb c_av9 := goodK mix d_av9 all_nil
theorem g_impl_cloneFeat : GoodC Tryz.prog tb c_at9 := goodK mix d_at9 (all_cons g_impl_cloneShape all_nil)
theorem g_impl_cloneSheet : GoodC Tryz.prog tb c_aw9 := goodK mix d_aw9 (all_cons g_impl_cloneFeat all_nil)
theorem g_impl_cloneCommit : GoodC Tryz.prog tb c_as9 := goodK mix d_as9 (all_cons g_impl_cloneSheet all_nil)
theorem g_impl_RepoOk : GoodC Tryz.prog tb c_ah9 := goodK mix d_ah9 (all_cons g_impl_within (all_cons g_impl_SheetOk (all_cons g_impl_WordOk (all_cons g_impl_Repo_commit (all_cons g_slices_Contains_int_int (all_cons g_impl_Repo_head (all_cons g_impl_Repo_version all_nil)))))))
theorem g_impl_featAt_1 : GoodC Tryz.prog tb c_ay9 := goodK mix d_ay9 all_nil
theorem g_slices_IndexFunc_impl_Feat_impl_Feat__impl_featAt_1 : GoodC Tryz.prog tb c_dx9 := goodK mix d_dx9 (all_cons g_impl_featAt_1 all_nil)
theorem g_impl_featAt : GoodC Tryz.prog tb c_ax9 := goodK mix d_ax9 (all_cons g_slices_IndexFunc_impl_Feat_impl_Feat__impl_featAt_1 all_nil)
theorem g_impl_side : GoodC Tryz.prog tb c_bc9 := goodK mix d_bc9 (all_cons g_impl_featAt (all_cons g_impl_cloneFeat all_nil))
theorem g_impl_cloneRepo : GoodC Tryz.prog tb c_au9 := goodK mix d_au9 (all_cons g_impl_cloneCommit all_nil)
theorem g_laws_eqPt : GoodC Tryz.prog tb c_br9 := goodK mix d_br9 all_nil
theorem g_laws_eqPtS : GoodC Tryz.prog tb c_bs9 := goodK mix d_bs9 (all_cons g_laws_eqPt all_nil)
theorem g_laws_eqTag : GoodC Tryz.prog tb c_bv9 := goodK mix d_bv9 all_nil
theorem g_laws_eqShape : GoodC Tryz.prog tb c_bu9 := goodK mix d_bu9 (all_cons g_laws_eqPtS all_nil)
theorem g_laws_eqTagS : GoodC Tryz.prog tb c_bw9 := goodK mix d_bw9 (all_cons g_laws_eqTag all_nil)
theorem g_laws_eqFeat : GoodC Tryz.prog tb c_bm9 := goodK mix d_bm9 (all_cons g_laws_eqShape (all_cons g_laws_eqTagS all_nil))
theorem g_laws_eqIntS : GoodC Tryz.prog tb c_bq9 := goodK mix d_bq9 all_nil
theorem g_laws_eqFeatS : GoodC Tryz.prog tb c_bn9 := goodK mix d_bn9 (all_cons g_laws_eqFeat all_nil)
theorem g_laws_eqCommit : GoodC Tryz.prog tb c_bi9 := goodK mix d_bi9 (all_cons g_laws_eqIntS (all_cons g_laws_eqFeatS all_nil))
theorem g_laws_eqHead : GoodC Tryz.prog tb c_bo9 := goodK mix d_bo9 all_nil
theorem g_laws_eqCommitS : GoodC Tryz.prog tb c_bj9 := goodK mix d_bj9 (all_cons g_laws_eqCommit all_nil)
theorem g_laws_eqHeadS : GoodC Tryz.prog tb c_bp9 := goodK mix d_bp9 (all_cons g_laws_eqHead all_nil)
theorem g_laws_markText : GoodC Tryz.prog tb c_cn9 := goodK mix d_cn9 all_nil
theorem g_laws_markPtS : GoodC Tryz.prog tb c_ck9 := goodR mix d_ck9 all_nil
theorem g_laws_markTagS : GoodC Tryz.prog tb c_cm9 := goodR mix d_cm9 (all_cons g_laws_markText all_nil)
theorem g_laws_markIntS : GoodC Tryz.prog tb c_cj9 := goodR mix d_cj9 all_nil
theorem g_laws_markFeatS : GoodC Tryz.prog tb c_ch9 := goodR mix d_ch9 (all_cons g_laws_markText (all_cons g_laws_markPtS (all_cons g_laws_markTagS all_nil)))
theorem g_laws_markCommitS : GoodC Tryz.prog tb c_cf9 := goodR mix d_cf9 (all_cons g_laws_markText (all_cons g_laws_markIntS (all_cons g_laws_markFeatS all_nil)))
theorem g_laws_markHeadS : GoodC Tryz.prog tb c_ci9 := goodR mix d_ci9 (all_cons g_laws_markText all_nil)
theorem g_laws_heldPtS : GoodC Tryz.prog tb c_cb9 := goodK mix d_cb9 all_nil
theorem g_laws_heldTagS : GoodC Tryz.prog tb c_cd9 := goodK mix d_cd9 (all_cons g_laws_markText all_nil)
theorem g_laws_heldIntS : GoodC Tryz.prog tb c_ca9 := goodK mix d_ca9 all_nil
theorem g_laws_heldFeatS : GoodC Tryz.prog tb c_by9 := goodK mix d_by9 (all_cons g_laws_markText (all_cons g_laws_heldPtS (all_cons g_laws_heldTagS all_nil)))
theorem g_laws_heldCommitS : GoodC Tryz.prog tb c_bx9 := goodK mix d_bx9 (all_cons g_laws_heldIntS (all_cons g_laws_heldFeatS (all_cons g_laws_markText all_nil)))
theorem g_laws_heldHeadS : GoodC Tryz.prog tb c_bz9 := goodK mix d_bz9 (all_cons g_laws_markText all_nil)
theorem g_laws_eqRepo : GoodC Tryz.prog tb c_bt9 := goodK mix d_bt9 (all_cons g_laws_eqCommitS (all_cons g_laws_eqHeadS all_nil))
theorem g_laws_markRepo : GoodC Tryz.prog tb c_cl9 := goodR mix d_cl9 (all_cons g_laws_markCommitS (all_cons g_laws_markHeadS all_nil))
theorem g_laws_heldRepo : GoodC Tryz.prog tb c_cc9 := goodK mix d_cc9 (all_cons g_laws_heldCommitS (all_cons g_laws_heldHeadS all_nil))
theorem g_laws_szChange : GoodC Tryz.prog tb c_co9 := goodK mix d_co9 (all_cons g_laws_szFeat all_nil)
theorem g_laws_szChangeS : GoodC Tryz.prog tb c_cp9 := goodK mix d_cp9 (all_cons g_laws_szChange all_nil)
theorem g_laws_szEntry : GoodC Tryz.prog tb c_cq9 := goodK mix d_cq9 (all_cons g_laws_szIntS (all_cons g_laws_szChangeS all_nil))
theorem g_laws_szEntryS : GoodC Tryz.prog tb c_cr9 := goodK mix d_cr9 (all_cons g_laws_szEntry all_nil)
theorem g_laws_toChange : GoodC Tryz.prog tb c_da9 := goodK mix d_da9 (all_cons g_laws_toFeat all_nil)
theorem g_laws_toChangeS : GoodC Tryz.prog tb c_db9 := goodK mix d_db9 (all_cons g_laws_toChange all_nil)
theorem g_laws_toEntry : GoodC Tryz.prog tb c_dc9 := goodK mix d_dc9 (all_cons g_laws_toIntS (all_cons g_laws_toChangeS all_nil))
theorem g_laws_toEntryS : GoodC Tryz.prog tb c_dd9 := goodK mix d_dd9 (all_cons g_laws_toEntry all_nil)
theorem g_laws_eqChange : GoodC Tryz.prog tb c_bg9 := goodK mix d_bg9 (all_cons g_laws_eqFeat all_nil)
theorem g_laws_eqChangeS : GoodC Tryz.prog tb c_bh9 := goodK mix d_bh9 (all_cons g_laws_eqChange all_nil)
theorem g_laws_eqEntry : GoodC Tryz.prog tb c_bk9 := goodK mix d_bk9 (all_cons g_laws_eqIntS (all_cons g_laws_eqChangeS all_nil))
theorem g_laws_eqEntryS : GoodC Tryz.prog tb c_bl9 := goodK mix d_bl9 (all_cons g_laws_eqEntry all_nil)
theorem g_spec_l3Cut : GoodC Tryz.prog tb c_ew9 := goodK mix d_ew9 all_nil
theorem g_spec_l4One : GoodC Tryz.prog tb c_fa9 := goodK mix d_fa9 (all_cons g_spec_WordOk (all_cons g_spec_FeatSame (all_cons g_spec_FeatOk all_nil)))
theorem g_spec_DiffOk : GoodC Tryz.prog tb c_ee9 := goodK mix d_ee9 (all_cons g_spec_l4One all_nil)
theorem g_impl_Change_same : GoodC Tryz.prog tb c_aa9 := goodK mix d_aa9 (all_cons g_impl_FeatSame all_nil)
theorem g_impl_noFeat : GoodC Tryz.prog tb c_az9 := goodK mix d_az9 all_nil
theorem g_impl_sideOk : GoodC Tryz.prog tb c_bd9 := goodK mix d_bd9 (all_cons g_impl_noFeat (all_cons g_impl_FeatOk all_nil))
theorem g_impl_DiffOk : GoodC Tryz.prog tb c_ad9 := goodK mix d_ad9 (all_cons g_impl_WordOk (all_cons g_impl_sideOk (all_cons g_impl_Change_same all_nil)))
theorem g_spec_l9Was : GoodC Tryz.prog tb c_fh9 := goodK mix d_fh9 all_nil
theorem g_slices_Delete_impl_Feat_impl_Feat : GoodC Tryz.prog tb c_do9 := goodR mix d_do9 all_nil
theorem g_impl_DiffDo_1 : GoodC Tryz.prog tb c_ac9 := goodK mix d_ac9 all_nil
theorem g_slices_SortFunc_impl_Feat_impl_Feat__impl_DiffDo_1 : GoodC Tryz.prog tb c_ec9 := sort_71 (by kernel_rfl) (by kernel_rfl)
theorem g_impl_DiffDo : GoodC Tryz.prog tb c_ab9 := goodK mix d_ab9 (all_cons g_impl_SheetOk (all_cons g_impl_DiffOk (all_cons g_impl_cloneSheet (all_cons g_impl_side (all_cons g_impl_FeatSame (all_cons g_impl_featAt (all_cons g_slices_Delete_impl_Feat_impl_Feat (all_cons g_impl_cloneFeat (all_cons g_slices_SortFunc_impl_Feat_impl_Feat__impl_DiffDo_1 all_nil)))))))))
theorem g_impl_PackOpen : GoodC Tryz.prog tb c_ag9 := goodK mix d_ag9 (all_cons g_impl_within (all_cons g_impl_DiffDo (all_cons g_impl_RepoOk (all_cons g_impl_cloneRepo all_nil))))
theorem g_spec_l4Fits : GoodC Tryz.prog tb c_ez9 := goodK mix d_ez9 (all_cons g_spec_l4Side (all_cons g_spec_FeatSame all_nil))
theorem g_spec_DiffDo : GoodC Tryz.prog tb c_ed9 := goodK mix d_ed9 (all_cons g_spec_SheetOk (all_cons g_spec_DiffOk (all_cons g_spec_l4Fits (all_cons g_spec_l3Put (all_cons g_spec_l3Cut (all_cons g_spec_l3Copy all_nil))))))
theorem g_spec_l9Was_yl : GoodC Tryz.prog tb c_fi9 := goodR mix d_fi9 all_nil
theorem g_spec_PackOpen : GoodC Tryz.prog tb c_eh9 := goodK mix d_eh9 (all_cons g_spec_l7Up (all_cons g_spec_DiffDo (all_cons g_spec_RepoOk (all_cons g_spec_l9Was_yl all_nil))))
theorem g_laws_markChangeS : GoodC Tryz.prog tb c_ce9 := goodR mix d_ce9 (all_cons g_laws_markText (all_cons g_laws_markPtS (all_cons g_laws_markTagS all_nil)))
theorem g_laws_markEntryS : GoodC Tryz.prog tb c_cg9 := goodR mix d_cg9 (all_cons g_laws_markText (all_cons g_laws_markIntS (all_cons g_laws_markChangeS all_nil)))
theorem g_laws_FnExactPackOpen : GoodC Tryz.prog tb c_bf9 := goodK mix d_bf9 (all_cons g_laws_szEntryS (all_cons g_laws_szHeadS (all_cons g_laws_toEntryS (all_cons g_laws_toHeadS (all_cons g_spec_PackOpen (all_cons g_impl_PackOpen (all_cons g_laws_eqRepo (all_cons g_laws_eqEntryS (all_cons g_laws_eqHeadS (all_cons g_laws_heldRepo (all_cons g_laws_markEntryS (all_cons g_laws_markHeadS (all_cons g_laws_markRepo all_nil)))))))))))))
end Go.Proofs.YtodmjmkakgamlaaGreat