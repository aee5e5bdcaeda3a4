/- Lemmas of the proof (RIL), on an abstract machine. Conditions: none. -/
import Derived.Test.YtodmjmkakgamlaaGreatDoorRIS
import Derived.Test.YtodmjmkakgamlaaGreatDoorRIF0
import Derived.Test.YtodmjmkakgamlaaGreatDoorRIF2
import Derived.Test.YtodmjmkakgamlaaGreatDoorRIF4
import Derived.Test.YtodmjmkakgamlaaGreatDoorRIF6
import Derived.Test.YtodmjmkakgamlaaGreatDoorRIF8
import Derived.Test.YtodmjmkakgamlaaGreatDoorRow
import Derived.Test.YtodmjmkakgamlaaGreatDoorRows
set_option linter.unusedVariables false
set_option linter.unusedSimpArgs false
set_option maxRecDepth 100000
set_option maxHeartbeats 4000000
namespace Go.Proofs.YtodmjmkakgamlaaGreatDoor
open Go.Proofs.AM
def tb : Tab := ⟨lk [(17, 3), (33, 4), (49, 9), (66, 109), (82, 131), (100, 84), (115, 50), (130, 34), (155, 86), (163, 42), (210, 26), (226, 81), (257, 5), (273, 39), (290, 92), (513, 175), (529, 82), (545, 43), (561, 150), (577, 174)], lk [(12, 156), (13, 135), (14, 32), (15, 107), (16, 108), (17, 69), (18, 134), (19, 105), (20, 106), (21, 68), (22, 109), (23, 110), (24, 70), (25, 30), (26, 31), (27, 33), (28, 34), (29, 113), (30, 80), (31, 163), (32, 150), (33, 10), (37, 75), (38, 66), (39, 77), (47, 81), (52, 67), (60, 126), (61, 127), (76, 59), (79, 137), (80, 45), (81, 115), (82, 85), (127, 138), (128, 117), (129, 118), (130, 90), (325, 89), (220, 48), (358, 71), (330, 36), (85, 102), (86, 44), (83, 101), (84, 100), (87, 60), (88, 61), (77, 88), (78, 87), (89, 47), (90, 62), (91, 123), (92, 94), (96, 24), (121, 91), (122, 92), (123, 122), (124, 121), (125, 93), (126, 51), (143, 50), (316, 21), (321, 41), (326, 43), (362, 76), (365, 82), (366, 83), (356, 54), (387, 114), (397, 136), (386, 112), (363, 78), (372, 111), (341, 74), (361, 73), (335, 40), (227, 95), (224, 124), (327, 39), (364, 79), (367, 84), (336, 42), (377, 125), (357, 96), (355, 53), (317, 20), (331, 37), (329, 35), (228, 11), (250, 5), (337, 25), (388, 103), (368, 63), (403, 155), (398, 133), (389, 104), (369, 64), (338, 26), (260, 8), (339, 22), (350, 52), (393, 132), (376, 98), (352, 56), (392, 99), (391, 58), (371, 57), (340, 23), (261, 6), (344, 29), (346, 28), (375, 65), (347, 27), (290, 9), (298, 18), (289, 7), (288, 3), (106, 120), (120, 119), (370, 55)], [(0, shNames)], [(1, (Go.Lib.pow10Tab.map fun z => Value.int .u64 z).toArray)]⟩
theorem g_spec_l1Num : GoodC Tryz.prog tb c_da9 := goodK mix d_da9 all_nil
theorem g_spec_l1Pts : GoodC Tryz.prog tb c_dc9 := goodK mix d_dc9 (all_cons g_spec_l1Num all_nil)
theorem g_spec_WordOk : GoodC Tryz.prog tb c_cr9 := goodK mix d_cr9 all_nil
theorem g_spec_ShapeOk : GoodC Tryz.prog tb c_cm9 := goodK mix d_cm9 (all_cons g_spec_l1Pts all_nil)
theorem g_spec_l2Tags : GoodC Tryz.prog tb c_dn9 := goodK mix d_dn9 (all_cons g_spec_WordOk all_nil)
theorem g_spec_FeatOk : GoodC Tryz.prog tb c_ce9 := goodK mix d_ce9 (all_cons g_spec_WordOk (all_cons g_spec_ShapeOk (all_cons g_spec_l2Tags all_nil)))
theorem g_spec_l1Same : GoodC Tryz.prog tb c_dd9 := goodK mix d_dd9 all_nil
theorem g_spec_ShapeSame : GoodC Tryz.prog tb c_cn9 := goodK mix d_cn9 (all_cons g_spec_l1Same all_nil)
theorem g_spec_l2Same : GoodC Tryz.prog tb c_dm9 := goodK mix d_dm9 all_nil
theorem g_spec_FeatSame : GoodC Tryz.prog tb c_cf9 := goodK mix d_cf9 (all_cons g_spec_ShapeSame (all_cons g_spec_l2Same all_nil))
theorem g_spec_l7Ints : GoodC Tryz.prog tb c_ek9 := goodK mix d_ek9 all_nil
theorem g_spec_SheetSame : GoodC Tryz.prog tb c_cq9 := goodK mix d_cq9 (all_cons g_spec_FeatSame all_nil)
theorem g_spec_l7Same : GoodC Tryz.prog tb c_ep9 := goodK mix d_ep9 (all_cons g_spec_l7Ints (all_cons g_spec_SheetSame all_nil))
theorem g_spec_l7Up : GoodC Tryz.prog tb c_eq9 := goodK mix d_eq9 all_nil
theorem g_spec_SheetOk : GoodC Tryz.prog tb c_cp9 := goodK mix d_cp9 (all_cons g_spec_FeatOk all_nil)
theorem g_spec_l7Find : GoodC Tryz.prog tb c_eh9 := goodK mix d_eh9 (all_cons g_spec_l7Same all_nil)
theorem g_spec_l7Head : GoodC Tryz.prog tb c_ej9 := goodK mix d_ej9 all_nil
theorem g_spec_l1Copy : GoodC Tryz.prog tb c_cy9 := goodK mix d_cy9 all_nil
theorem g_spec_l2Copy : GoodC Tryz.prog tb c_dh9 := goodK mix d_dh9 (all_cons g_spec_l1Copy all_nil)
theorem g_spec_l3Copy : GoodC Tryz.prog tb c_dq9 := goodK mix d_dq9 (all_cons g_spec_l2Copy all_nil)
theorem g_spec_l7One : GoodC Tryz.prog tb c_en9 := goodK mix d_en9 (all_cons g_spec_l3Copy all_nil)
theorem g_spec_RepoOk : GoodC Tryz.prog tb c_cl9 := goodK mix d_cl9 (all_cons g_spec_l7Up (all_cons g_spec_SheetOk (all_cons g_spec_WordOk (all_cons g_spec_l7Find (all_cons g_spec_l7Head all_nil)))))
theorem g_spec_l3Put : GoodC Tryz.prog tb c_dt9 := goodK mix d_dt9 all_nil
theorem g_spec_l4Ids : GoodC Tryz.prog tb c_dy9 := goodK mix d_dy9 (all_cons g_spec_l3Put all_nil)
theorem g_spec_l3Find : GoodC Tryz.prog tb c_ds9 := goodK mix d_ds9 all_nil
theorem g_spec_l2Put : GoodC Tryz.prog tb c_dl9 := goodK mix d_dl9 all_nil
theorem g_spec_l4Side : GoodC Tryz.prog tb c_ec9 := goodK mix d_ec9 (all_cons g_spec_l3Find (all_cons g_spec_l2Copy all_nil))
theorem g_spec_l7Add : GoodC Tryz.prog tb c_ee9 := goodR mix d_ee9 (all_cons g_spec_l7Find (all_cons g_spec_l7One all_nil))
theorem g_spec_l7Copy : GoodC Tryz.prog tb c_eg9 := goodK mix d_eg9 (all_cons g_spec_l7One all_nil)
theorem g_impl_within : GoodC Tryz.prog tb c_bh9 := goodK mix d_bh9 all_nil
theorem g_impl_ptOk : GoodC Tryz.prog tb c_bd9 := goodK mix d_bd9 (all_cons g_impl_within all_nil)
theorem g_impl_WordOk : GoodC Tryz.prog tb c_aw9 := goodK mix d_aw9 (all_cons g_impl_within all_nil)
theorem g_impl_ShapeOk : GoodC Tryz.prog tb c_ar9 := goodK mix d_ar9 (all_cons g_impl_ptOk (all_cons g_impl_within all_nil))
theorem g_impl_FeatOk : GoodC Tryz.prog tb c_af9 := goodK mix d_af9 (all_cons g_impl_WordOk (all_cons g_impl_ShapeOk all_nil))
theorem g_slices_Equal_impl_Pt_impl_Pt : GoodC Tryz.prog tb c_bq9 := goodK mix d_bq9 all_nil
theorem g_impl_ShapeSame : GoodC Tryz.prog tb c_as9 := goodK mix d_as9 (all_cons g_slices_Equal_impl_Pt_impl_Pt all_nil)
theorem g_slices_Equal_impl_Tag_impl_Tag : GoodC Tryz.prog tb c_br9 := goodK mix d_br9 all_nil
theorem g_impl_FeatSame : GoodC Tryz.prog tb c_ag9 := goodK mix d_ag9 (all_cons g_impl_ShapeSame (all_cons g_slices_Equal_impl_Tag_impl_Tag all_nil))
theorem g_slices_EqualFunc_impl_Feat_impl_Feat_impl_Feat_impl_Feat__impl_FeatSame : GoodC Tryz.prog tb c_bo9 := goodK mix d_bo9 (all_cons g_impl_FeatSame all_nil)
theorem g_impl_SheetSame : GoodC Tryz.prog tb c_av9 := goodK mix d_av9 (all_cons g_slices_EqualFunc_impl_Feat_impl_Feat_impl_Feat_impl_Feat__impl_FeatSame all_nil)
theorem g_slices_Equal_int_int : GoodC Tryz.prog tb c_bs9 := goodK mix d_bs9 all_nil
theorem g_impl_sameCommit : GoodC Tryz.prog tb c_be9 := goodK mix d_be9 (all_cons g_slices_Equal_int_int (all_cons g_impl_SheetSame all_nil))
theorem g_slices_Index_int_int : GoodC Tryz.prog tb c_bz9 := goodK mix d_bz9 all_nil
theorem g_impl_SheetOk : GoodC Tryz.prog tb c_au9 := goodK mix d_au9 (all_cons g_impl_FeatOk all_nil)
theorem g_impl_Repo_commit_1 : GoodC Tryz.prog tb c_an9 := goodK mix d_an9 (all_cons g_impl_sameCommit all_nil)
theorem g_slices_IndexFunc_impl_Commit_impl_Commit__impl_Repo_commit_1 : GoodC Tryz.prog tb c_bu9 := goodK mix d_bu9 (all_cons g_impl_Repo_commit_1 all_nil)
theorem g_impl_Repo_commit : GoodC Tryz.prog tb c_am9 := goodK mix d_am9 (all_cons g_slices_IndexFunc_impl_Commit_impl_Commit__impl_Repo_commit_1 all_nil)
theorem g_slices_Contains_int_int : GoodC Tryz.prog tb c_bk9 := goodK mix d_bk9 (all_cons g_slices_Index_int_int all_nil)
theorem g_impl_Repo_head_1 : GoodC Tryz.prog tb c_ap9 := goodK mix d_ap9 all_nil
theorem g_slices_IndexFunc_impl_Head_impl_Head__impl_Repo_head_1 : GoodC Tryz.prog tb c_by9 := goodK mix d_by9 (all_cons g_impl_Repo_head_1 all_nil)
theorem g_impl_Repo_head : GoodC Tryz.prog tb c_ao9 := goodK mix d_ao9 (all_cons g_slices_IndexFunc_impl_Head_impl_Head__impl_Repo_head_1 all_nil)
theorem g_impl_Repo_version : GoodC Tryz.prog tb c_aq9 := goodK mix d_aq9 (all_cons g_impl_within all_nil)
theorem g_impl_cloneShape : GoodC Tryz.prog tb c_ay9 := goodK mix d_ay9 all_nil
theorem g_impl_cloneFeat : GoodC Tryz.prog tb c_ax9 := goodK mix d_ax9 (all_cons g_impl_cloneShape all_nil)
theorem g_impl_RepoOk : GoodC Tryz.prog tb c_ak9 := goodK mix d_ak9 (all_cons g_impl_within (all_cons g_impl_SheetOk (all_cons g_impl_WordOk (all_cons g_impl_Repo_commit (all_cons g_slices_Contains_int_int (all_cons g_impl_Repo_head (all_cons g_impl_Repo_version all_nil)))))))
theorem g_slices_Sort_string_string : GoodC Tryz.prog tb c_ca9 := strSort_g (by kernel_rfl)
theorem g_slices_Compact_string_string : GoodC Tryz.prog tb c_bj9 := strComp_g (by kernel_rfl)
theorem g_impl_featAt_1 : GoodC Tryz.prog tb c_ba9 := goodK mix d_ba9 all_nil
theorem g_slices_IndexFunc_impl_Feat_impl_Feat__impl_featAt_1 : GoodC Tryz.prog tb c_bw9 := goodK mix d_bw9 (all_cons g_impl_featAt_1 all_nil)
theorem g_impl_featAt : GoodC Tryz.prog tb c_az9 := goodK mix d_az9 (all_cons g_slices_IndexFunc_impl_Feat_impl_Feat__impl_featAt_1 all_nil)
theorem g_impl_side : GoodC Tryz.prog tb c_bf9 := goodK mix d_bf9 (all_cons g_impl_featAt (all_cons g_impl_cloneFeat all_nil))
theorem g_impl_names : GoodC Tryz.prog tb c_bb9 := goodK mix d_bb9 (all_cons g_slices_Compact_string_string (all_cons g_slices_Sort_string_string all_nil)) (hi := by
 rintro (a : List (List Feat)) (a' : List (List Feat)) h1 h2
 simp only [c_bb9, List.cons.injEq, AV.ro.injEq, and_true] at h1
 exact (map_iff fun x y h => by
  simp only [eSl, sl, List.cons.injEq, T.sl.injEq, and_true, true_and] at h
  exact (map_iff ij_Feat).1 h).1 h1)
theorem g_spec_l12Open : GoodC Tryz.prog tb c_ct9 := goodR mix d_ct9 all_nil
theorem g_spec_l12Rd_pick : GoodC Tryz.prog tb c_cw9 := goodR mix d_cw9 all_nil
theorem g_spec_l12Rd_of : GoodC Tryz.prog tb c_cv9 := goodR mix d_cv9 (all_cons g_spec_l12Rd_pick all_nil)
theorem g_spec_l2Id : GoodC Tryz.prog tb c_dj9 := goodR mix d_dj9 (all_cons g_spec_l12Rd_of all_nil)
theorem g_spec_l2Key : GoodC Tryz.prog tb c_dk9 := goodR mix d_dk9 (all_cons g_spec_l12Rd_of all_nil)
theorem g_spec_l2Val : GoodC Tryz.prog tb c_do9 := goodR mix d_do9 (all_cons g_spec_l12Rd_of all_nil)
theorem g_spec_l12Rd_num : GoodC Tryz.prog tb c_cu9 := goodR mix d_cu9 (all_cons g_spec_l12Rd_pick all_nil)
theorem g_spec_l1Pt : GoodC Tryz.prog tb c_db9 := goodR mix d_db9 (all_cons g_spec_l12Rd_pick (all_cons g_spec_l12Rd_num all_nil))
theorem g_spec_l1Min : GoodC Tryz.prog tb c_cz9 := goodK mix d_cz9 all_nil
theorem g_spec_l1Shape : GoodC Tryz.prog tb c_de9 := goodR mix d_de9 (all_cons g_spec_l12Rd_num (all_cons g_spec_l12Rd_pick (all_cons g_spec_l1Min (all_cons g_spec_l1Pt (all_cons g_spec_ShapeOk all_nil)))))
theorem g_spec_l2Feat : GoodC Tryz.prog tb c_di9 := goodR mix d_di9 (all_cons g_spec_l1Shape (all_cons g_spec_l12Rd_pick (all_cons g_spec_l2Key (all_cons g_spec_l2Val (all_cons g_spec_l2Put all_nil)))))
theorem g_spec_l1Bent : GoodC Tryz.prog tb c_cx9 := goodR mix d_cx9 (all_cons g_spec_l1Shape (all_cons g_spec_l12Rd_pick (all_cons g_spec_l12Rd_num all_nil)))
theorem g_spec_l2Bent : GoodC Tryz.prog tb c_dg9 := goodR mix d_dg9 (all_cons g_spec_l2Id (all_cons g_spec_l2Feat (all_cons g_spec_l12Rd_pick (all_cons g_spec_l12Rd_of (all_cons g_spec_l1Bent all_nil)))))
theorem g_spec_l3Put_xl : GoodC Tryz.prog tb c_du9 := goodR mix d_du9 all_nil
theorem g_spec_l3Sheet : GoodC Tryz.prog tb c_dv9 := goodR mix d_dv9 (all_cons g_spec_l12Rd_pick (all_cons g_spec_l2Id (all_cons g_spec_l2Feat (all_cons g_spec_l3Put_xl all_nil))))
theorem g_spec_l3Bent : GoodC Tryz.prog tb c_dp9 := goodR mix d_dp9 (all_cons g_spec_l3Sheet (all_cons g_spec_l12Rd_pick (all_cons g_spec_l2Bent (all_cons g_spec_l3Put_xl all_nil))))
theorem g_spec_RepoNew : GoodC Tryz.prog tb c_ck9 := goodK mix d_ck9 (all_cons g_spec_WordOk all_nil)
theorem g_spec_RepoBranch : GoodC Tryz.prog tb c_cj9 := goodK mix d_cj9 (all_cons g_spec_RepoOk (all_cons g_spec_WordOk (all_cons g_spec_l7Copy (all_cons g_spec_l7Head all_nil))))
theorem g_spec_l7Name : GoodC Tryz.prog tb c_el9 := goodR mix d_el9 (all_cons g_spec_l12Rd_of all_nil)
theorem g_spec_l3Cut : GoodC Tryz.prog tb c_dr9 := goodK mix d_dr9 all_nil
theorem g_spec_l4Bend : GoodC Tryz.prog tb c_dw9 := goodR mix d_dw9 (all_cons g_spec_l12Rd_pick (all_cons g_spec_l1Pt (all_cons g_spec_ShapeOk all_nil)))
theorem g_spec_l4Near : GoodC Tryz.prog tb c_dz9 := goodR mix d_dz9 (all_cons g_spec_l12Rd_pick (all_cons g_spec_l2Id (all_cons g_spec_l3Find (all_cons g_spec_l2Feat (all_cons g_spec_l3Put (all_cons g_spec_l3Cut (all_cons g_spec_l2Copy (all_cons g_spec_l2Key (all_cons g_spec_l2Val (all_cons g_spec_l2Put (all_cons g_spec_l4Bend (all_cons g_spec_SheetOk all_nil))))))))))))
theorem g_spec_l7Note : GoodC Tryz.prog tb c_em9 := goodR mix d_em9 (all_cons g_spec_l12Rd_of all_nil)
theorem g_spec_l7Grow : GoodC Tryz.prog tb c_ei9 := goodR mix d_ei9 (all_cons g_spec_l7Name (all_cons g_spec_l7Head (all_cons g_spec_l12Rd_pick (all_cons g_spec_RepoBranch (all_cons g_spec_l4Near (all_cons g_spec_l7Note (all_cons g_spec_l7Copy (all_cons g_spec_l7Add all_nil))))))))
theorem g_spec_l7Repo : GoodC Tryz.prog tb c_eo9 := goodR mix d_eo9 (all_cons g_spec_RepoNew (all_cons g_spec_l3Sheet (all_cons g_spec_l12Rd_pick (all_cons g_spec_l7Grow all_nil))))
theorem g_spec_l7Bent : GoodC Tryz.prog tb c_ef9 := goodR mix d_ef9 (all_cons g_spec_l7Repo (all_cons g_spec_l12Rd_pick (all_cons g_spec_l12Rd_num (all_cons g_spec_l3Bent all_nil))))
theorem g_slices_Equal_impl_Head_impl_Head : GoodC Tryz.prog tb c_bp9 := goodK mix d_bp9 all_nil
theorem g_slices_EqualFunc_impl_Commit_impl_Commit_impl_Commit_impl_Commit__impl_sameCommit : GoodC Tryz.prog tb c_bm9 := goodK mix d_bm9 (all_cons g_impl_sameCommit all_nil)
theorem g_impl_RepoSame : GoodC Tryz.prog tb c_al9 := goodK mix d_al9 (all_cons g_slices_EqualFunc_impl_Commit_impl_Commit_impl_Commit_impl_Commit__impl_sameCommit (all_cons g_slices_Equal_impl_Head_impl_Head all_nil))
theorem g_spec_DrawRepoSame : GoodC Tryz.prog tb c_cd9 := goodR mix d_cd9 (all_cons g_spec_l12Open (all_cons g_spec_l7Bent all_nil))
theorem g_spec_l12Dec : ∀ fuel, GoodC Tryz.prog tb (c_cs9 fuel)
 | 0 => goodC mix [] all_nil (ir := if_cs9) (kss := ks_cs9) (by kernel_rfl) (fun G H a b h => absurd (show (none : Option _) = some b from h) (fun e => nomatch e))
 | fuel + 1 => goodK mix (d_cs9 fuel) (all_cons (g_spec_l12Dec fuel) all_nil)
theorem g_spec_l4One : GoodC Tryz.prog tb c_eb9 := goodK mix d_eb9 (all_cons g_spec_WordOk (all_cons g_spec_FeatSame (all_cons g_spec_FeatOk all_nil)))
theorem g_spec_DiffOk : GoodC Tryz.prog tb c_cb9 := goodK mix d_cb9 (all_cons g_spec_l4One all_nil)
theorem g_spec_l1Word : GoodC Tryz.prog tb c_df9 := goodK mix d_df9 all_nil
theorem g_spec_ShapeText : GoodC Tryz.prog tb c_co9 := goodK mix d_co9 (all_cons g_spec_ShapeOk (all_cons g_spec_l1Word (all_cons (g_spec_l12Dec rounds) all_nil)))
theorem g_spec_FeatText : GoodC Tryz.prog tb c_cg9 := goodK mix d_cg9 (all_cons g_spec_FeatOk (all_cons g_spec_ShapeText all_nil))
theorem g_spec_l4Word : GoodC Tryz.prog tb c_ed9 := goodK mix d_ed9 (all_cons g_spec_FeatText all_nil)
theorem g_spec_DiffText : GoodC Tryz.prog tb c_cc9 := goodK mix d_cc9 (all_cons g_spec_DiffOk (all_cons g_spec_l4Word all_nil))
theorem g_spec_PackText : GoodC Tryz.prog tb c_ci9 := goodK mix d_ci9 (all_cons (g_spec_l12Dec rounds) (all_cons g_spec_DiffText all_nil))
theorem g_strconv_Itoa : GoodC Tryz.prog tb c_et9 := itoa_g (by kernel_rfl) (List.Mem.head _)
theorem g_impl_Change_same : GoodC Tryz.prog tb c_aa9 := goodK mix d_aa9 (all_cons g_impl_FeatSame all_nil)
theorem g_impl_noFeat : GoodC Tryz.prog tb c_bc9 := goodK mix d_bc9 all_nil
theorem g_impl_sideOk : GoodC Tryz.prog tb c_bg9 := goodK mix d_bg9 (all_cons g_impl_noFeat (all_cons g_impl_FeatOk all_nil))
theorem g_impl_DiffOk : GoodC Tryz.prog tb c_ac9 := goodK mix d_ac9 (all_cons g_impl_WordOk (all_cons g_impl_sideOk (all_cons g_impl_Change_same all_nil)))
theorem g_impl_Shape_text : GoodC Tryz.prog tb c_at9 := goodK mix d_at9 (all_cons g_strconv_Itoa all_nil)
theorem g_impl_FeatText : GoodC Tryz.prog tb c_ah9 := goodK mix d_ah9 (all_cons g_impl_FeatOk (all_cons g_impl_Shape_text all_nil))
theorem g_impl_DiffText_1 : GoodC Tryz.prog tb c_ae9 := goodK mix d_ae9 (all_cons g_impl_FeatText all_nil)
theorem g_impl_DiffText : GoodC Tryz.prog tb c_ad9 := goodK mix d_ad9 (all_cons g_impl_DiffOk (all_cons g_impl_DiffText_1 all_nil))
theorem g_impl_PackText : GoodC Tryz.prog tb c_aj9 := goodK mix d_aj9 (all_cons g_strconv_Itoa (all_cons g_impl_DiffText all_nil))
theorem g_spec_l9Was : GoodC Tryz.prog tb c_es9 := goodK mix d_es9 all_nil
theorem g_spec_l4Of : GoodC Tryz.prog tb c_ea9 := goodK mix d_ea9 (all_cons g_spec_l4Ids (all_cons g_spec_l4Side (all_cons g_spec_FeatSame all_nil)))
theorem g_spec_l4Copy : GoodC Tryz.prog tb c_dx9 := goodK mix d_dx9 (all_cons g_spec_l2Copy all_nil)
theorem g_spec_l9Diff : GoodC Tryz.prog tb c_er9 := goodK mix d_er9 (all_cons g_spec_l4Copy all_nil)
theorem g_spec_PackOf : GoodC Tryz.prog tb c_ch9 := goodK mix d_ch9 (all_cons g_spec_RepoOk (all_cons g_spec_l9Was (all_cons g_spec_l4Of (all_cons g_spec_l9Diff all_nil))))
theorem g_impl_DiffOf : GoodC Tryz.prog tb c_ab9 := goodK mix d_ab9 (all_cons g_impl_SheetOk (all_cons g_impl_names (all_cons g_impl_side (all_cons g_impl_Change_same all_nil))))
theorem g_impl_PackOf : GoodC Tryz.prog tb c_ai9 := goodK mix d_ai9 (all_cons g_impl_RepoOk (all_cons g_impl_DiffOf all_nil))
theorem g_laws_FnPackSame : GoodC Tryz.prog tb c_bi9 := goodR mix d_bi9 (all_cons g_spec_DrawRepoSame (all_cons g_impl_PackOf (all_cons g_impl_PackText (all_cons g_spec_PackOf (all_cons g_spec_PackText (all_cons g_spec_RepoOk (all_cons g_impl_RepoSame all_nil)))))))
end Go.Proofs.YtodmjmkakgamlaaGreatDoor