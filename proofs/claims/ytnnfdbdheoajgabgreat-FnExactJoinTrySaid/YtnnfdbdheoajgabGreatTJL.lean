/- Lemmas of the proof (TJL), on an abstract machine. Conditions: none. -/
import Derived.Test.YtnnfdbdheoajgabGreatTJS
import Derived.Test.YtnnfdbdheoajgabGreatHN4
import Derived.Test.YtnnfdbdheoajgabGreatTJF0
import Derived.Test.YtnnfdbdheoajgabGreatTJF2
import Derived.Test.YtnnfdbdheoajgabGreatTJF4
import Derived.Test.YtnnfdbdheoajgabGreatTJF6
import Derived.Test.YtnnfdbdheoajgabGreatTJF8
import Derived.Test.YtnnfdbdheoajgabGreatTJF10
import Derived.Test.YtnnfdbdheoajgabGreatRow
import Derived.Test.YtnnfdbdheoajgabGreatRows
set_option linter.unusedVariables false
set_option linter.unusedSimpArgs false
set_option maxRecDepth 100000
set_option maxHeartbeats 4000000
namespace Go.Proofs.YtnnfdbdheoajgabGreat
open Go.Proofs.AM
def tb : Tab := ⟨lk [(17, 3), (33, 4), (49, 9), (66, 112), (82, 114), (100, 61), (115, 52), (130, 77), (178, 64), (194, 208), (210, 34), (226, 58), (241, 81), (257, 5), (273, 50), (306, 149), (325, 97), (338, 227), (354, 214), (372, 165), (387, 87), (402, 89), (466, 25), (482, 162), (513, 220), (529, 59), (545, 27)], lk [(1, 175), (2, 176), (3, 146), (4, 147), (5, 120), (6, 87), (7, 88), (8, 53), (9, 54), (10, 20), (11, 21), (12, 177), (13, 148), (14, 40), (15, 121), (16, 122), (17, 89), (18, 178), (19, 150), (20, 151), (21, 126), (22, 142), (23, 143), (24, 114), (25, 73), (26, 56), (27, 74), (28, 42), (29, 153), (30, 128), (31, 92), (33, 39), (34, 76), (35, 77), (36, 55), (37, 123), (38, 124), (39, 149), (40, 197), (41, 195), (42, 196), (43, 190), (44, 191), (45, 192), (46, 179), (47, 180), (48, 181), (49, 152), (50, 154), (51, 155), (52, 125), (53, 127), (54, 90), (55, 91), (56, 57), (57, 22), (58, 23), (59, 6), (64, 193), (65, 182), (66, 183), (67, 156), (68, 157), (69, 129), (70, 93), (71, 94), (72, 58), (73, 59), (74, 24), (75, 25), (76, 79), (79, 138), (80, 46), (81, 105), (82, 97), (127, 135), (128, 103), (129, 134), (130, 101), (325, 174), (220, 145), (358, 144), (330, 117), (85, 118), (86, 61), (83, 116), (84, 115), (87, 80), (88, 81), (77, 85), (78, 84), (89, 48), (90, 82), (91, 106), (92, 67), (96, 45), (97, 49), (98, 96), (95, 130), (99, 95), (100, 60), (121, 98), (122, 99), (123, 170), (124, 169), (125, 133), (126, 100), (131, 171), (132, 136), (133, 137), (134, 173), (135, 172), (136, 140), (138, 104), (401, 139), (139, 107), (140, 108), (142, 110), (143, 62), (144, 63), (146, 65), (137, 102), (141, 109), (147, 66), (148, 26), (145, 64), (149, 27), (151, 8), (153, 141), (154, 111), (155, 112), (156, 68), (157, 69), (158, 28), (159, 113), (160, 9), (161, 70), (162, 71), (163, 30), (164, 31), (165, 29), (166, 34), (167, 35), (168, 36), (169, 72), (170, 13), (171, 32), (172, 33), (173, 37), (174, 38), (176, 15), (179, 5), (180, 7), (183, 11), (184, 10), (185, 12), (186, 14), (188, 16), (311, 3), (106, 132), (120, 131)], [], []⟩
theorem g_laws_szPtS : GoodC Tryz.prog tb c_dd9 := goodK mix d_dd9 all_nil
theorem g_laws_szTag : GoodC Tryz.prog tb c_dg9 := goodK mix d_dg9 all_nil
theorem g_laws_szShape : GoodC Tryz.prog tb c_df9 := goodK mix d_df9 (all_cons g_laws_szPtS all_nil)
theorem g_laws_szTagS : GoodC Tryz.prog tb c_dh9 := goodK mix d_dh9 (all_cons g_laws_szTag all_nil)
theorem g_laws_szFeat : GoodC Tryz.prog tb c_cy9 := goodK mix d_cy9 (all_cons g_laws_szShape (all_cons g_laws_szTagS all_nil))
theorem g_laws_szIntS : GoodC Tryz.prog tb c_dc9 := goodK mix d_dc9 all_nil
theorem g_laws_szFeatS : GoodC Tryz.prog tb c_cz9 := goodK mix d_cz9 (all_cons g_laws_szFeat all_nil)
theorem g_laws_szCommit : GoodC Tryz.prog tb c_cw9 := goodK mix d_cw9 (all_cons g_laws_szIntS (all_cons g_laws_szFeatS all_nil))
theorem g_laws_szHead : GoodC Tryz.prog tb c_da9 := goodK mix d_da9 all_nil
theorem g_laws_szCommitS : GoodC Tryz.prog tb c_cx9 := goodK mix d_cx9 (all_cons g_laws_szCommit all_nil)
theorem g_laws_szHeadS : GoodC Tryz.prog tb c_db9 := goodK mix d_db9 (all_cons g_laws_szHead all_nil)
theorem g_spec_l1Num : GoodC Tryz.prog tb c_fh9 := goodK mix d_fh9 all_nil
theorem g_spec_l1Pts : GoodC Tryz.prog tb c_fi9 := goodK mix d_fi9 (all_cons g_spec_l1Num all_nil)
theorem g_spec_WordOk : GoodC Tryz.prog tb c_fe9 := goodK mix d_fe9 all_nil
theorem g_spec_ShapeOk : GoodC Tryz.prog tb c_ez9 := goodK mix d_ez9 (all_cons g_spec_l1Pts all_nil)
theorem g_spec_l2Tags : GoodC Tryz.prog tb c_fo9 := goodK mix d_fo9 (all_cons g_spec_WordOk all_nil)
theorem g_spec_FeatOk : GoodC Tryz.prog tb c_es9 := goodK mix d_es9 (all_cons g_spec_WordOk (all_cons g_spec_ShapeOk (all_cons g_spec_l2Tags all_nil)))
theorem g_spec_l1Same : GoodC Tryz.prog tb c_fj9 := goodK mix d_fj9 all_nil
theorem g_spec_ShapeSame : GoodC Tryz.prog tb c_fa9 := goodK mix d_fa9 (all_cons g_spec_l1Same all_nil)
theorem g_spec_l2Same : GoodC Tryz.prog tb c_fn9 := goodK mix d_fn9 all_nil
theorem g_spec_FeatSame : GoodC Tryz.prog tb c_et9 := goodK mix d_et9 (all_cons g_spec_ShapeSame (all_cons g_spec_l2Same all_nil))
theorem g_spec_l7Ints : GoodC Tryz.prog tb c_gj9 := goodK mix d_gj9 all_nil
theorem g_spec_SheetSame : GoodC Tryz.prog tb c_fd9 := goodK mix d_fd9 (all_cons g_spec_FeatSame all_nil)
theorem g_spec_l7Same : GoodC Tryz.prog tb c_gl9 := goodK mix d_gl9 (all_cons g_spec_l7Ints (all_cons g_spec_SheetSame all_nil))
theorem g_spec_l7Up : GoodC Tryz.prog tb c_gm9 := goodK mix d_gm9 all_nil
theorem g_spec_SheetOk : GoodC Tryz.prog tb c_fc9 := goodK mix d_fc9 (all_cons g_spec_FeatOk all_nil)
theorem g_spec_l7Find : GoodC Tryz.prog tb c_gg9 := goodK mix d_gg9 (all_cons g_spec_l7Same all_nil)
theorem g_spec_l7Head : GoodC Tryz.prog tb c_gh9 := goodK mix d_gh9 all_nil
theorem g_spec_l1Copy : GoodC Tryz.prog tb c_ff9 := goodK mix d_ff9 all_nil
theorem g_spec_l2Copy : GoodC Tryz.prog tb c_fk9 := goodK mix d_fk9 (all_cons g_spec_l1Copy all_nil)
theorem g_spec_l3Copy : GoodC Tryz.prog tb c_fp9 := goodK mix d_fp9 (all_cons g_spec_l2Copy all_nil)
theorem g_spec_RepoOk : GoodC Tryz.prog tb c_ex9 := goodK mix d_ex9 (all_cons g_spec_l7Up (all_cons g_spec_SheetOk (all_cons g_spec_WordOk (all_cons g_spec_l7Find (all_cons g_spec_l7Head all_nil)))))
theorem g_spec_l7In : GoodC Tryz.prog tb c_gi9 := goodK mix d_gi9 (all_cons g_spec_RepoOk all_nil)
theorem g_spec_l7Marks : GoodC Tryz.prog tb c_gk9 := goodK mix d_gk9 all_nil
theorem g_spec_RepoBases : GoodC Tryz.prog tb c_ew9 := goodK mix d_ew9 (all_cons g_spec_l7In (all_cons g_spec_l7Marks all_nil))
theorem g_spec_l3Put : GoodC Tryz.prog tb c_fr9 := goodK mix d_fr9 all_nil
theorem g_spec_l4Ids : GoodC Tryz.prog tb c_fs9 := goodK mix d_fs9 (all_cons g_spec_l3Put all_nil)
theorem g_spec_l3Find : GoodC Tryz.prog tb c_fq9 := goodK mix d_fq9 all_nil
theorem g_spec_l1Max : GoodC Tryz.prog tb c_fg9 := goodK mix d_fg9 all_nil
theorem g_spec_l5Few : GoodC Tryz.prog tb c_fv9 := goodK mix d_fv9 all_nil
theorem g_spec_l5Long : GoodC Tryz.prog tb c_fw9 := goodK mix d_fw9 (all_cons g_spec_l1Max all_nil)
theorem g_spec_SeqPairs : GoodC Tryz.prog tb c_ey9 := goodK mix d_ey9 (all_cons g_spec_l5Few (all_cons g_spec_l5Long all_nil))
theorem g_spec_l5At : GoodC Tryz.prog tb c_fu9 := goodK mix d_fu9 all_nil
theorem g_spec_l5Pick : GoodC Tryz.prog tb c_fy9 := goodK mix d_fy9 (all_cons g_spec_l1Same all_nil)
theorem g_spec_l5Merge : GoodC Tryz.prog tb c_fx9 := goodK mix d_fx9 (all_cons g_spec_SeqPairs (all_cons g_spec_l5At (all_cons g_spec_l5Pick all_nil)))
theorem g_spec_l2Put : GoodC Tryz.prog tb c_fm9 := goodK mix d_fm9 all_nil
theorem g_spec_l2Get : GoodC Tryz.prog tb c_fl9 := goodK mix d_fl9 all_nil
theorem g_spec_l6Shape : GoodC Tryz.prog tb c_ge9 := goodK mix d_ge9 (all_cons g_spec_ShapeSame (all_cons g_spec_l5Merge (all_cons g_spec_ShapeOk all_nil)))
theorem g_spec_l6Keys : GoodC Tryz.prog tb c_gc9 := goodK mix d_gc9 (all_cons g_spec_l2Put all_nil)
theorem g_spec_l6Tag : GoodC Tryz.prog tb c_gf9 := goodK mix d_gf9 (all_cons g_spec_l2Get all_nil)
theorem g_spec_l4Side : GoodC Tryz.prog tb c_ft9 := goodK mix d_ft9 (all_cons g_spec_l3Find (all_cons g_spec_l2Copy all_nil))
theorem g_spec_l6Feat : GoodC Tryz.prog tb c_fz9 := goodK mix d_fz9 (all_cons g_spec_l6Shape (all_cons g_spec_l1Copy (all_cons g_spec_l6Keys (all_cons g_spec_l6Tag (all_cons g_spec_FeatOk (all_cons g_spec_l2Copy all_nil))))))
theorem g_spec_l6Ids : GoodC Tryz.prog tb c_ga9 := goodK mix d_ga9 (all_cons g_spec_l3Put (all_cons g_spec_l4Ids all_nil))
theorem g_spec_l6One : GoodC Tryz.prog tb c_gd9 := goodK mix d_gd9 (all_cons g_spec_l4Side (all_cons g_spec_FeatSame (all_cons g_spec_l6Feat all_nil)))
theorem g_spec_l6Join : GoodC Tryz.prog tb c_gb9 := goodK mix d_gb9 (all_cons g_spec_l6Ids (all_cons g_spec_l6One (all_cons g_spec_l3Copy (all_cons g_spec_SheetOk all_nil))))
theorem g_spec_JoinBase : GoodC Tryz.prog tb c_eu9 := goodK mix d_eu9 (all_cons g_spec_RepoBases all_nil)
theorem g_spec_SheetJoin : GoodC Tryz.prog tb c_fb9 := goodK mix d_fb9 (all_cons g_spec_SheetOk (all_cons g_spec_l6Join all_nil))
theorem g_spec_JoinTry : GoodC Tryz.prog tb c_ev9 := goodK mix d_ev9 (all_cons g_spec_JoinBase (all_cons g_spec_SheetJoin all_nil))
theorem g_laws_toPt : GoodC Tryz.prog tb c_dp9 := goodK mix d_dp9 all_nil
theorem g_laws_toPtS : GoodC Tryz.prog tb c_dq9 := goodK mix d_dq9 (all_cons g_laws_toPt all_nil)
theorem g_laws_toTag : GoodC Tryz.prog tb c_dt9 := goodK mix d_dt9 all_nil
theorem g_laws_toShape : GoodC Tryz.prog tb c_ds9 := goodK mix d_ds9 (all_cons g_laws_toPtS all_nil)
theorem g_laws_toTagS : GoodC Tryz.prog tb c_du9 := goodK mix d_du9 (all_cons g_laws_toTag all_nil)
theorem g_laws_toFeat : GoodC Tryz.prog tb c_dk9 := goodK mix d_dk9 (all_cons g_laws_toShape (all_cons g_laws_toTagS all_nil))
theorem g_laws_toIntS : GoodC Tryz.prog tb c_do9 := goodK mix d_do9 all_nil
theorem g_laws_toFeatS : GoodC Tryz.prog tb c_dl9 := goodK mix d_dl9 (all_cons g_laws_toFeat all_nil)
theorem g_laws_toCommit : GoodC Tryz.prog tb c_di9 := goodK mix d_di9 (all_cons g_laws_toIntS (all_cons g_laws_toFeatS all_nil))
theorem g_laws_toHead : GoodC Tryz.prog tb c_dm9 := goodK mix d_dm9 all_nil
theorem g_laws_toCommitS : GoodC Tryz.prog tb c_dj9 := goodK mix d_dj9 (all_cons g_laws_toCommit all_nil)
theorem g_laws_toHeadS : GoodC Tryz.prog tb c_dn9 := goodK mix d_dn9 (all_cons g_laws_toHead all_nil)
theorem g_impl_within : GoodC Tryz.prog tb c_bs9 := goodK mix d_bs9 all_nil
theorem g_impl_ptOk : GoodC Tryz.prog tb c_bm9 := goodK mix d_bm9 (all_cons g_impl_within all_nil)
theorem g_impl_WordOk : GoodC Tryz.prog tb c_ay9 := goodK mix d_ay9 (all_cons g_impl_within all_nil)
theorem g_impl_ShapeOk : GoodC Tryz.prog tb c_at9 := goodK mix d_at9 (all_cons g_impl_ptOk (all_cons g_impl_within all_nil))
theorem g_impl_FeatOk : GoodC Tryz.prog tb c_ac9 := goodK mix d_ac9 (all_cons g_impl_WordOk (all_cons g_impl_ShapeOk all_nil))
theorem g_slices_Equal_impl_Pt_impl_Pt : GoodC Tryz.prog tb c_ec9 := goodK mix d_ec9 all_nil
theorem g_impl_ShapeSame : GoodC Tryz.prog tb c_au9 := goodK mix d_au9 (all_cons g_slices_Equal_impl_Pt_impl_Pt all_nil)
theorem g_slices_Equal_impl_Tag_impl_Tag : GoodC Tryz.prog tb c_ed9 := goodK mix d_ed9 all_nil
theorem g_impl_FeatSame : GoodC Tryz.prog tb c_ad9 := goodK mix d_ad9 (all_cons g_impl_ShapeSame (all_cons g_slices_Equal_impl_Tag_impl_Tag all_nil))
theorem g_slices_EqualFunc_impl_Feat_impl_Feat_impl_Feat_impl_Feat__impl_FeatSame : GoodC Tryz.prog tb c_eb9 := goodK mix d_eb9 (all_cons g_impl_FeatSame all_nil)
theorem g_impl_SheetSame : GoodC Tryz.prog tb c_ax9 := goodK mix d_ax9 (all_cons g_slices_EqualFunc_impl_Feat_impl_Feat_impl_Feat_impl_Feat__impl_FeatSame all_nil)
theorem g_slices_Equal_int_int : GoodC Tryz.prog tb c_ee9 := goodK mix d_ee9 all_nil
theorem g_impl_sameCommit : GoodC Tryz.prog tb c_bn9 := goodK mix d_bn9 (all_cons g_slices_Equal_int_int (all_cons g_impl_SheetSame all_nil))
theorem g_slices_Index_int_int : GoodC Tryz.prog tb c_eq9 := goodK mix d_eq9 all_nil
theorem g_impl_SheetOk : GoodC Tryz.prog tb c_aw9 := goodK mix d_aw9 (all_cons g_impl_FeatOk all_nil)
theorem g_impl_Repo_commit_1 : GoodC Tryz.prog tb c_am9 := goodK mix d_am9 (all_cons g_impl_sameCommit all_nil)
theorem g_slices_IndexFunc_impl_Commit_impl_Commit__impl_Repo_commit_1 : GoodC Tryz.prog tb c_eh9 := goodK mix d_eh9 (all_cons g_impl_Repo_commit_1 all_nil)
theorem g_impl_Repo_commit : GoodC Tryz.prog tb c_al9 := goodK mix d_al9 (all_cons g_slices_IndexFunc_impl_Commit_impl_Commit__impl_Repo_commit_1 all_nil)
theorem g_slices_Contains_int_int : GoodC Tryz.prog tb c_dz9 := goodK mix d_dz9 (all_cons g_slices_Index_int_int all_nil)
theorem g_impl_Repo_head_1 : GoodC Tryz.prog tb c_ao9 := goodK mix d_ao9 all_nil
theorem g_slices_IndexFunc_impl_Head_impl_Head__impl_Repo_head_1 : GoodC Tryz.prog tb c_el9 := goodK mix d_el9 (all_cons g_impl_Repo_head_1 all_nil)
theorem g_impl_Repo_head : GoodC Tryz.prog tb c_an9 := goodK mix d_an9 (all_cons g_slices_IndexFunc_impl_Head_impl_Head__impl_Repo_head_1 all_nil)
theorem g_impl_Repo_version : GoodC Tryz.prog tb c_aq9 := goodK mix d_aq9 (all_cons g_impl_within all_nil)
theorem g_impl_cloneShape : GoodC Tryz.prog tb c_ba9 := goodK mix d_ba9 all_nil
theorem g_impl_cloneFeat : GoodC Tryz.prog tb c_az9 := goodK mix d_az9 (all_cons g_impl_cloneShape all_nil)
theorem g_impl_RepoOk : GoodC Tryz.prog tb c_ak9 := goodK mix d_ak9 (all_cons g_impl_within (all_cons g_impl_SheetOk (all_cons g_impl_WordOk (all_cons g_impl_Repo_commit (all_cons g_slices_Contains_int_int (all_cons g_impl_Repo_head (all_cons g_impl_Repo_version all_nil)))))))
theorem g_impl_Repo_past : GoodC Tryz.prog tb c_ap9 := goodK mix d_ap9 all_nil
theorem g_impl_RepoBases_1 : GoodC Tryz.prog tb c_aj9 := goodK mix d_aj9 (all_cons g_impl_Repo_past all_nil)
theorem g_slices_IndexFunc_int_int__impl_RepoBases_1 : GoodC Tryz.prog tb c_ep9 := goodK mix d_ep9 (all_cons g_impl_RepoBases_1 all_nil)
theorem g_slices_ContainsFunc_int_int__impl_RepoBases_1 : GoodC Tryz.prog tb c_dy9 := goodK mix d_dy9 (all_cons g_slices_IndexFunc_int_int__impl_RepoBases_1 all_nil)
theorem g_impl_RepoBases : GoodC Tryz.prog tb c_ai9 := goodK mix d_ai9 (all_cons g_impl_RepoOk (all_cons g_impl_Repo_version (all_cons g_impl_Repo_past (all_cons g_slices_ContainsFunc_int_int__impl_RepoBases_1 all_nil))))
theorem g_slices_Sort_string_string : GoodC Tryz.prog tb c_er9 := strSort_g (by kernel_rfl)
theorem g_slices_Compact_string_string : GoodC Tryz.prog tb c_dv9 := strComp_g (by kernel_rfl)
theorem g_impl_featAt_1 : GoodC Tryz.prog tb c_bc9 := goodK mix d_bc9 all_nil
theorem g_slices_IndexFunc_impl_Feat_impl_Feat__impl_featAt_1 : GoodC Tryz.prog tb c_ej9 := goodK mix d_ej9 (all_cons g_impl_featAt_1 all_nil)
theorem g_impl_featAt : GoodC Tryz.prog tb c_bb9 := goodK mix d_bb9 (all_cons g_slices_IndexFunc_impl_Feat_impl_Feat__impl_featAt_1 all_nil)
theorem g_impl_side : GoodC Tryz.prog tb c_bp9 := goodK mix d_bp9 (all_cons g_impl_featAt (all_cons g_impl_cloneFeat all_nil))
theorem g_impl_lengths : GoodC Tryz.prog tb c_bd9 := lens_good mix (by kernel_rfl)
theorem g_impl_SeqPairs : GoodC Tryz.prog tb c_as9 := goodK mix d_as9 (all_cons g_impl_lengths all_nil)
theorem g_impl_partner : GoodC Tryz.prog tb c_bl9 := goodK mix d_bl9 all_nil
theorem g_impl_Feat_tag_1 : GoodC Tryz.prog tb c_af9 := goodK mix d_af9 all_nil
theorem g_slices_IndexFunc_impl_Tag_impl_Tag__impl_Feat_tag_1 : GoodC Tryz.prog tb c_en9 := goodK mix d_en9 (all_cons g_impl_Feat_tag_1 all_nil)
theorem g_impl_Feat_tag : GoodC Tryz.prog tb c_ae9 := goodK mix d_ae9 (all_cons g_slices_IndexFunc_impl_Tag_impl_Tag__impl_Feat_tag_1 all_nil)
theorem g_impl_SeqMerge : GoodC Tryz.prog tb c_ar9 := goodK mix d_ar9 (all_cons g_impl_SeqPairs (all_cons g_impl_partner (all_cons g_slices_Equal_impl_Pt_impl_Pt all_nil)))
theorem g_slices_Grow_impl_Tag_impl_Tag : GoodC Tryz.prog tb c_ef9 := growL_g (by kernel_rfl) (by kernel_rfl)
theorem g_slices_Concat_impl_Tag_impl_Tag : GoodC Tryz.prog tb c_dw9 := goodK mix d_dw9 (all_cons g_slices_Grow_impl_Tag_impl_Tag all_nil) (hi := by
 rintro (a : List (List Tag)) (a' : List (List Tag)) h1 h2
 simp only [c_dw9, List.cons.injEq, AV.ro.injEq, and_true] at h1
 exact (map_iff (ij_Sl ij_Tag)).1 h1)
theorem g_impl_valueOf : GoodC Tryz.prog tb c_br9 := goodK mix d_br9 (all_cons g_impl_Feat_tag all_nil)
theorem g_impl_FeatJoin_1 : GoodC Tryz.prog tb c_ab9 := goodK mix d_ab9 all_nil
theorem g_impl_names : GoodC Tryz.prog tb c_be9 := goodK mix d_be9 (all_cons g_slices_Compact_string_string (all_cons g_slices_Sort_string_string all_nil)) (hi := by
 rintro (a : List (List Feat)) (a' : List (List Feat)) h1 h2
 simp only [c_be9, List.cons.injEq, AV.ro.injEq, and_true] at h1
 exact (map_iff fun x y h => by
  simp only [eSl, sl, List.cons.injEq, T.sl.injEq, and_true, true_and] at h
  exact (map_iff ij_Feat).1 h).1 h1)
theorem g_impl_thingOf : GoodC Tryz.prog tb c_bq9 := goodK mix d_bq9 (all_cons g_impl_side all_nil)
theorem g_impl_sameThing : GoodC Tryz.prog tb c_bo9 := goodK mix d_bo9 (all_cons g_impl_FeatSame all_nil)
theorem g_impl_ofThree_impl_Shape__impl_ShapeSame : GoodC Tryz.prog tb c_bg9 := goodK mix d_bg9 (all_cons g_impl_ShapeSame all_nil)
theorem g_impl_ofThree_impl_value__impl_FeatJoin_1 : GoodC Tryz.prog tb c_bk9 := goodK mix d_bk9 (all_cons g_impl_FeatJoin_1 all_nil)
theorem g_impl_FeatJoin : GoodC Tryz.prog tb c_aa9 := goodK mix d_aa9 (all_cons g_impl_FeatOk (all_cons g_impl_ofThree_impl_Shape__impl_ShapeSame (all_cons g_impl_SeqMerge (all_cons g_impl_ShapeOk (all_cons g_impl_cloneShape (all_cons g_slices_Concat_impl_Tag_impl_Tag (all_cons g_slices_Compact_string_string (all_cons g_impl_valueOf (all_cons g_impl_ofThree_impl_value__impl_FeatJoin_1 (all_cons g_impl_cloneFeat (all_cons g_slices_Sort_string_string all_nil)))))))))))
theorem g_impl_JoinBase : GoodC Tryz.prog tb c_ag9 := goodK mix d_ag9 (all_cons g_impl_RepoBases all_nil)
theorem g_impl_ofThree_impl_thing__impl_sameThing : GoodC Tryz.prog tb c_bi9 := goodK mix d_bi9 (all_cons g_impl_sameThing all_nil)
theorem g_impl_SheetJoin : GoodC Tryz.prog tb c_av9 := goodK mix d_av9 (all_cons g_impl_SheetOk (all_cons g_impl_names (all_cons g_impl_thingOf (all_cons g_impl_ofThree_impl_thing__impl_sameThing (all_cons g_impl_FeatJoin (all_cons g_impl_cloneFeat all_nil))))))
theorem g_impl_JoinTry : GoodC Tryz.prog tb c_ah9 := goodK mix d_ah9 (all_cons g_impl_JoinBase (all_cons g_impl_SheetJoin all_nil))
theorem g_laws_eqPt : GoodC Tryz.prog tb c_cd9 := goodK mix d_cd9 all_nil
theorem g_laws_eqPtS : GoodC Tryz.prog tb c_ce9 := goodK mix d_ce9 (all_cons g_laws_eqPt all_nil)
theorem g_laws_eqTag : GoodC Tryz.prog tb c_ch9 := goodK mix d_ch9 all_nil
theorem g_laws_eqShape : GoodC Tryz.prog tb c_cg9 := goodK mix d_cg9 (all_cons g_laws_eqPtS all_nil)
theorem g_laws_eqTagS : GoodC Tryz.prog tb c_ci9 := goodK mix d_ci9 (all_cons g_laws_eqTag all_nil)
theorem g_laws_eqFeat : GoodC Tryz.prog tb c_by9 := goodK mix d_by9 (all_cons g_laws_eqShape (all_cons g_laws_eqTagS all_nil))
theorem g_laws_eqIntS : GoodC Tryz.prog tb c_cc9 := goodK mix d_cc9 all_nil
theorem g_laws_eqFeatS : GoodC Tryz.prog tb c_bz9 := goodK mix d_bz9 (all_cons g_laws_eqFeat all_nil)
theorem g_laws_eqCommit : GoodC Tryz.prog tb c_bw9 := goodK mix d_bw9 (all_cons g_laws_eqIntS (all_cons g_laws_eqFeatS all_nil))
theorem g_laws_eqHead : GoodC Tryz.prog tb c_ca9 := goodK mix d_ca9 all_nil
theorem g_laws_eqCommitS : GoodC Tryz.prog tb c_bx9 := goodK mix d_bx9 (all_cons g_laws_eqCommit all_nil)
theorem g_laws_eqHeadS : GoodC Tryz.prog tb c_cb9 := goodK mix d_cb9 (all_cons g_laws_eqHead all_nil)
theorem g_laws_eqClash : GoodC Tryz.prog tb c_bu9 := goodK mix d_bu9 all_nil
theorem g_laws_markText : GoodC Tryz.prog tb c_cv9 := goodK mix d_cv9 all_nil
theorem g_laws_markPtS : GoodC Tryz.prog tb c_cs9 := goodR mix d_cs9 all_nil
theorem g_laws_markTagS : GoodC Tryz.prog tb c_cu9 := goodR mix d_cu9 (all_cons g_laws_markText all_nil)
theorem g_laws_markIntS : GoodC Tryz.prog tb c_cr9 := goodR mix d_cr9 all_nil
theorem g_laws_markFeatS : GoodC Tryz.prog tb c_cp9 := goodR mix d_cp9 (all_cons g_laws_markText (all_cons g_laws_markPtS (all_cons g_laws_markTagS all_nil)))
theorem g_laws_markCommitS : GoodC Tryz.prog tb c_co9 := goodR mix d_co9 (all_cons g_laws_markText (all_cons g_laws_markIntS (all_cons g_laws_markFeatS all_nil)))
theorem g_laws_markHeadS : GoodC Tryz.prog tb c_cq9 := goodR mix d_cq9 (all_cons g_laws_markText all_nil)
theorem g_laws_heldPtS : GoodC Tryz.prog tb c_cl9 := goodK mix d_cl9 all_nil
theorem g_laws_heldTagS : GoodC Tryz.prog tb c_cm9 := goodK mix d_cm9 (all_cons g_laws_markText all_nil)
theorem g_laws_heldFeatS : GoodC Tryz.prog tb c_ck9 := goodK mix d_ck9 (all_cons g_laws_markText (all_cons g_laws_heldPtS (all_cons g_laws_heldTagS all_nil)))
theorem g_laws_szRepo : GoodC Tryz.prog tb c_de9 := goodK mix d_de9 (all_cons g_laws_szCommitS (all_cons g_laws_szHeadS all_nil))
theorem g_laws_toRepo : GoodC Tryz.prog tb c_dr9 := goodK mix d_dr9 (all_cons g_laws_toCommitS (all_cons g_laws_toHeadS all_nil))
theorem g_laws_eqRepo : GoodC Tryz.prog tb c_cf9 := goodK mix d_cf9 (all_cons g_laws_eqCommitS (all_cons g_laws_eqHeadS all_nil))
theorem g_laws_eqClashS : GoodC Tryz.prog tb c_bv9 := goodK mix d_bv9 (all_cons g_laws_eqClash all_nil)
theorem g_laws_markRepo : GoodC Tryz.prog tb c_ct9 := goodR mix d_ct9 (all_cons g_laws_markCommitS (all_cons g_laws_markHeadS all_nil))
theorem g_laws_markClashS : GoodC Tryz.prog tb c_cn9 := goodR mix d_cn9 (all_cons g_laws_markText all_nil)
theorem g_laws_heldClashS : GoodC Tryz.prog tb c_cj9 := goodK mix d_cj9 (all_cons g_laws_markText all_nil)
theorem g_laws_FnExactJoinTry : GoodC Tryz.prog tb c_bt9 := goodK mix d_bt9 (all_cons g_laws_szRepo (all_cons g_laws_toRepo (all_cons g_spec_JoinTry (all_cons g_impl_JoinTry (all_cons g_laws_eqFeatS (all_cons g_laws_eqClashS (all_cons g_laws_eqRepo (all_cons g_laws_heldFeatS (all_cons g_laws_heldClashS (all_cons g_laws_markRepo (all_cons g_laws_markFeatS (all_cons g_laws_markClashS all_nil))))))))))))
end Go.Proofs.YtnnfdbdheoajgabGreat
