/- A part of the proofs of this seat's statements (VF15): lemmas on an abstract machine for the program's functions. Conditions: none. -/
import Derived.Test.YthfgbbcoadcigaaGreatVD
set_option linter.unusedVariables false
set_option maxRecDepth 100000
set_option maxHeartbeats 4000000
namespace Go.Proofs.AM
attribute [local irreducible] vwp vstps vstpLs vstp vdo vret kseq kblk kloop kend kcut kloop2 frzV renV shutK
theorem d_spec_RepoAdd {G : Gam} (H_spec_RepoOk : Has G c_spec_RepoOk) (H_spec_SheetOk : Has G c_spec_SheetOk) (H_spec_WordOk : Has G c_spec_WordOk) (H_spec_l7Copy : Has G c_spec_l7Copy) (H_spec_l7Head : Has G c_spec_l7Head) (H_spec_SheetSame : Has G c_spec_SheetSame) (H_spec_l7Find : Has G c_spec_l7Find) (H_spec_l7Add : Has G c_spec_l7Add) (a0 : Repo) (a1 : Str) (a2 : (List Feat)) (a3 : Str) (r : (Repo × Int)) (h : gf_spec_RepoAdd a0 a1 a2 a3 = some r) : Does G if_spec_RepoAdd ks_spec_RepoAdd (c_spec_RepoAdd.args (a0, a1, a2, a3)) [] (c_spec_RepoAdd.ans (a0, a1, a2, a3) r) := by
  refine does_pn (L := [(0, .agg [.ro (List.map (eCommit false) a0.commits), .ro (List.map eHead a0.heads)]), (1, .v (.string a1)), (2, .ro (List.map (eFeat false) a2)), (3, .v (.string a3))]) (fun bs => pin) fun bs t o => ?_
  show vwp _ ib_spec_RepoAdd _ _
  unfold ib_spec_RepoAdd
  unfold gf_spec_RepoAdd at h
  obtain ⟨x3, h4, h⟩ := bnd h
  refine go ?_; intros
  refine c_call (c := c_spec_RepoOk) (a0) H_spec_RepoOk h4 fun ch => ?_
  refine go ?_; intros
  refine s_split rfl (fun c => ?_) (fun c => ?_)
  · replace h := itt h c
    rw [c]
    refine go ?_; intros
    cases h
    exact r_end
  replace h := itf h c
  rw [c]
  obtain ⟨x5, h6, h⟩ := bnd h
  refine go ?_; intros
  refine c_call (c := c_spec_SheetOk) (a2) H_spec_SheetOk h6 fun ch => ?_
  refine go ?_; intros
  refine s_split rfl (fun c => ?_) (fun c => ?_)
  · replace h := itt h c
    rw [c]
    refine go ?_; intros
    cases h
    exact r_end
  replace h := itf h c
  rw [c]
  obtain ⟨x7, h8, h⟩ := bnd h
  refine go ?_; intros
  refine c_call (c := c_spec_WordOk) (a3) H_spec_WordOk h8 fun ch => ?_
  refine go ?_; intros
  refine w_cond rfl (fun c => ?_) (fun c => ?_)
  · replace h := itt h c
    try rw [c]
    refine go ?_; intros
    cases h
    exact r_end
  replace h := itf h c
  try rw [c]
  obtain ⟨q9, h54, h⟩ := bnd h
  refine go ?_; intros
  refine w_cut (fun t o => ∃ b17 b18 c19 b20 c21 b22 b24 c25 b27 c28 b29, Pin t (ovr [(1, .v (.string a1)), (2, .ro (List.map (eFeat false) a2)), (3, .v (.string a3)), (4, .ptr 32 b17 210 0 0), (8, .ptr 64 b22 210 0 0), (10, .ptr 80 b29 210 0 0)] t) ∧ PinH o (ovh [(32, ⟨b17, 1, 210, true, [[.sl false 3 (List.map (eCommit false) a0.commits), .sl false 2 (List.map eHead a0.heads)]]⟩), (1001024, ent b18 c19 115 (List.map (eCommit true) [])), (1001025, ent b20 c21 130 (List.map eHead [])), (64, ⟨b22, 1, 210, true, [[.al 1001024 b18 c19 0 ([] : List Commit).length 115, .al 1001025 b20 c21 0 ([] : List Head).length 130]]⟩), (1001280, ent b24 c25 115 (List.map (eCommit true) q9.1)), (1001281, ent b27 c28 130 (List.map eHead q9.2)), (80, ⟨b29, 1, 210, true, [[.al 1001280 b24 c25 0 q9.1.length 115, .al 1001281 b27 c28 0 q9.2.length 130]]⟩)] o)) ?_ ?_
  · obtain ⟨x10, h11, h54⟩ := bnd h54
    refine go ?_; intros
    refine c_call (c := c_spec_l7Copy) (a0) H_spec_l7Copy h11 fun ch => ?_
    refine go ?_; intros
    cases h54
    exact k_cn ⟨_, _, _, _, _, _, _, _, _, _, _, pin, pinh⟩
  rintro t o ⟨b17, b18, c19, b20, c21, b22, b24, c25, b27, c28, b29, q1, q2⟩
  refine pinned q1 q2 ?_
  obtain ⟨x30, h31, h⟩ := bnd h
  refine go ?_; intros
  refine c_call (c := c_spec_l7Head) (a0, a1) H_spec_l7Head h31 fun ch => ?_
  refine go ?_; intros
  refine w_cond rfl (fun c => ?_) (fun c => ?_)
  · replace h := itt h c
    try rw [c]
    refine go ?_; intros
    cases h
    exact r_end
  replace h := itf h c
  try rw [c]
  obtain ⟨x32, h33, h⟩ := bnd h
  refine go ?_; intros
  refine r_iro rfl rfl h33 rfl ?_
  refine go ?_; intros
  refine r_iro rfl rfl h33 rfl ?_
  obtain ⟨x36, h37, h⟩ := bnd h
  refine go ?_; intros
  refine r_iro rfl rfl h37 rfl ?_
  obtain ⟨x38, h39, h⟩ := bnd h
  refine go ?_; intros
  refine c_call (c := c_spec_SheetSame) (x36.sheet, a2) H_spec_SheetSame h39 fun ch => ?_
  refine go ?_; intros
  refine w_cond rfl (fun c => ?_) (fun c => ?_)
  · replace h := itt h c
    try rw [c]
    refine go ?_; intros
    cases h
    exact r_end
  replace h := itf h c
  try rw [c]
  obtain ⟨x40, h41, h⟩ := bnd h
  refine go ?_; intros
  refine c_call (c := c_spec_l7Find) (a0, (⟨[x32.at_], a2, a3⟩ : Commit)) H_spec_l7Find h41 fun ch => ?_
  refine go ?_; intros
  refine s_split rfl (fun c => ?_) (fun c => ?_)
  · replace h := itt h c
    rw [c]
    refine go ?_; intros
    refine w_cond rfl (fun c => ?_) (fun c => ?_)
    · replace h := itt h c
      try rw [c]
      refine go ?_; intros
      cases h
      exact r_end
    replace h := itf h c
    try rw [c]
    obtain ⟨x42, h43, h⟩ := bnd h
    refine go ?_; intros
    refine c_callg (c := c_spec_l7Add) ((⟨q9.1, q9.2⟩ : Repo), x30, (⟨[x32.at_], a2, a3⟩ : Commit)) H_spec_l7Add h43 fun ch => ?_
    refine go ?_; intros
    cases h
    exact r_end
  replace h := itf h c
  rw [c]
  obtain ⟨x48, h49, h⟩ := bnd h
  refine go ?_; intros
  refine c_callg (c := c_spec_l7Add) ((⟨q9.1, q9.2⟩ : Repo), x30, (⟨[x32.at_], a2, a3⟩ : Commit)) H_spec_l7Add h49 fun ch => ?_
  refine go ?_; intros
  cases h
  exact r_end
theorem d_laws_FnExactRepoAdd {G : Gam} (H_laws_szRepo : Has G c_laws_szRepo) (H_laws_szFeatS : Has G c_laws_szFeatS) (H_laws_toRepo : Has G c_laws_toRepo) (H_laws_toFeatS : Has G c_laws_toFeatS) (H_spec_RepoAdd : Has G c_spec_RepoAdd) (H_impl_RepoAdd : Has G c_impl_RepoAdd) (H_laws_eqRepo : Has G c_laws_eqRepo) (H_laws_eqFeatS : Has G c_laws_eqFeatS) (H_laws_markRepo : Has G c_laws_markRepo) (H_laws_markFeatS : Has G c_laws_markFeatS) (H_laws_heldRepo : Has G c_laws_heldRepo) (a0 : Repo) (a1 : Str) (a2 : (List Feat)) (a3 : Str) (r : Bool) (h : gf_laws_FnExactRepoAdd a0 a1 a2 a3 = some r) : Does G if_laws_FnExactRepoAdd ks_laws_FnExactRepoAdd (c_laws_FnExactRepoAdd.args (a0, a1, a2, a3)) [] (c_laws_FnExactRepoAdd.ans (a0, a1, a2, a3) r) := by
  refine does_pn (L := [(0, .agg [.ro (List.map (eCommit false) a0.commits), .ro (List.map eHead a0.heads)]), (1, .v (.string a1)), (2, .ro (List.map (eFeat false) a2)), (3, .v (.string a3))]) (fun bs => pin) fun bs t o => ?_
  show vwp _ ib_laws_FnExactRepoAdd _ _
  unfold ib_laws_FnExactRepoAdd
  unfold gf_laws_FnExactRepoAdd at h
  refine go ?_; intros
  refine w_cond rfl (fun c => ?_) (fun c => ?_)
  · replace h := itt h c
    try rw [c]
    refine go ?_; intros
    cases h
    exact r_end
  replace h := itf h c
  try rw [c]
  refine go ?_; intros
  refine w_cond rfl (fun c => ?_) (fun c => ?_)
  · replace h := itt h c
    try rw [c]
    refine go ?_; intros
    cases h
    exact r_end
  replace h := itf h c
  try rw [c]
  obtain ⟨x2, h3, h⟩ := bnd h
  refine go ?_; intros
  refine c_call (c := c_laws_szRepo) (a0, 1048576) H_laws_szRepo h3 fun ch => ?_
  refine go ?_; intros
  refine w_cond rfl (fun c => ?_) (fun c => ?_)
  · replace h := itt h c
    try rw [c]
    refine go ?_; intros
    cases h
    exact r_end
  replace h := itf h c
  try rw [c]
  obtain ⟨x4, h5, h⟩ := bnd h
  refine go ?_; intros
  refine c_call (c := c_laws_szFeatS) (a2, x2) H_laws_szFeatS h5 fun ch => ?_
  refine go ?_; intros
  refine w_cond rfl (fun c => ?_) (fun c => ?_)
  · replace h := itt h c
    try rw [c]
    refine go ?_; intros
    cases h
    exact r_end
  replace h := itf h c
  try rw [c]
  obtain ⟨q6, h135, h⟩ := bnd h
  refine go ?_; intros
  refine w_cut (fun t o => ∃ b25 b27 c28 b30 c31 b32, Pin t (ovr [(1, .v (.string a1)), (2, .ro (List.map (eFeat false) a2)), (3, .v (.string a3)), (4, .ptr 32 b25 466 0 0), (10, .ptr 80 b32 210 0 0), (11, .v (.int .i64 q6.1))] t) ∧ PinH o (ovh [(32, ⟨b25, 1, 466, true, [[.sl false 3 (List.map (eCommit false) a0.commits), .sl false 2 (List.map eHead a0.heads)]]⟩), (1001280, ent b27 c28 115 (List.map (eCommit true) q6.2.1)), (1001281, ent b30 c31 130 (List.map eHead q6.2.2)), (80, ⟨b32, 1, 210, true, [[.al 1001280 b27 c28 0 q6.2.1.length 115, .al 1001281 b30 c31 0 q6.2.2.length 130]]⟩)] o)) ?_ ?_
  · obtain ⟨x7, h8, h135⟩ := bnd h135
    refine go ?_; intros
    refine c_call (c := c_laws_toRepo) (a0) H_laws_toRepo h8 fun ch => ?_
    obtain ⟨x13, h14, h135⟩ := bnd h135
    refine go ?_; intros
    refine c_call (c := c_laws_toFeatS) (a2) H_laws_toFeatS h14 fun ch => ?_
    obtain ⟨x17, h18, h135⟩ := bnd h135
    refine go ?_; intros
    refine c_call (c := c_spec_RepoAdd) (x7, a1, x13, a3) H_spec_RepoAdd h18 fun ch => ?_
    refine go ?_; intros
    cases h135
    exact k_cn ⟨_, _, _, _, _, _, pin, pinh⟩
  rintro t o ⟨b25, b27, c28, b30, c31, b32, q1, q2⟩
  refine pinned q1 q2 ?_
  obtain ⟨x33, h34, h⟩ := bnd h
  refine go ?_; intros
  refine c_call (c := c_laws_toRepo) (a0) H_laws_toRepo h34 fun ch => ?_
  obtain ⟨x40, h41, h⟩ := bnd h
  refine go ?_; intros
  refine c_call (c := c_laws_toFeatS) (a2) H_laws_toFeatS h41 fun ch => ?_
  obtain ⟨q44, h136, h⟩ := bnd h
  refine go ?_; intros
  refine w_cut (fun t o => ∃ b53 b54 c55 b56 c57 b58 b59 c60 b61 c62 b63 b64 c65 b67 c68 b70 c71 b72, Pin t (ovr [(1, .v (.string a1)), (2, .ro (List.map (eFeat false) a2)), (3, .v (.string a3)), (4, .ptr 32 b53 466 0 0), (10, .ptr 80 b58 210 0 0), (11, .v (.int .i64 q6.1)), (12, .ptr 96 b63 210 0 0), (13, .ref 400 b64 c65 0 x40.length 100), (14, .ptr 112 b72 210 0 0), (15, .v (.int .i64 q44.1))] t) ∧ PinH o (ovh [(32, ⟨b53, 1, 466, true, [[.sl false 3 (List.map (eCommit false) a0.commits), .sl false 2 (List.map eHead a0.heads)]]⟩), (1001280, ent b54 c55 115 (List.map (eCommit true) q6.2.1)), (1001281, ent b56 c57 130 (List.map eHead q6.2.2)), (80, ⟨b58, 1, 210, true, [[.al 1001280 b54 c55 0 q6.2.1.length 115, .al 1001281 b56 c57 0 q6.2.2.length 130]]⟩), (1001536, ent b59 c60 115 (List.map (eCommit true) x33.commits)), (1001537, ent b61 c62 130 (List.map eHead x33.heads)), (96, ⟨b63, 1, 210, true, [[.al 1001536 b59 c60 0 x33.commits.length 115, .al 1001537 b61 c62 0 x33.heads.length 130]]⟩), (400, ent b64 c65 100 (List.map (eFeat true) x40)), (1001792, ent b67 c68 115 (List.map (eCommit true) q44.2.1)), (1001793, ent b70 c71 130 (List.map eHead q44.2.2)), (112, ⟨b72, 1, 210, true, [[.al 1001792 b67 c68 0 q44.2.1.length 115, .al 1001793 b70 c71 0 q44.2.2.length 130]]⟩)] o)) ?_ ?_
  · obtain ⟨x45, h46, h136⟩ := bnd h136
    refine go ?_; intros
    refine c_call (c := c_impl_RepoAdd) (x33, a1, x40, a3) H_impl_RepoAdd h46 fun ch => ?_
    refine go ?_; intros
    cases h136
    exact k_cn ⟨_, _, _, _, _, _, _, _, _, _, _, _, _, _, _, _, _, _, pin, pinh⟩
  rintro t o ⟨b53, b54, c55, b56, c57, b58, b59, c60, b61, c62, b63, b64, c65, b67, c68, b70, c71, b72, q1, q2⟩
  refine pinned q1 q2 ?_
  obtain ⟨x73, h74, h⟩ := bnd h
  refine go ?_; intros
  refine c_call (c := c_laws_eqRepo) ((⟨q44.2.1, q44.2.2⟩ : Repo), (⟨q6.2.1, q6.2.2⟩ : Repo)) H_laws_eqRepo h74 fun ch => ?_
  refine go ?_; intros
  refine s_split rfl (fun c => ?_) (fun c => ?_)
  · replace h := itt h c
    rw [c]
    refine go ?_; intros
    cases h
    exact r_end
  replace h := itf h c
  rw [c]
  refine go ?_; intros
  refine w_cond rfl (fun c => ?_) (fun c => ?_)
  · replace h := itt h c
    try rw [c]
    refine go ?_; intros
    cases h
    exact r_end
  replace h := itf h c
  try rw [c]
  obtain ⟨x75, h76, h⟩ := bnd h
  refine go ?_; intros
  refine c_call (c := c_laws_toRepo) (a0) H_laws_toRepo h76 fun ch => ?_
  obtain ⟨x81, h82, h⟩ := bnd h
  refine go ?_; intros
  refine c_call (c := c_laws_eqRepo) (x33, x75) H_laws_eqRepo h82 fun ch => ?_
  refine go ?_; intros
  refine w_cond rfl (fun c => ?_) (fun c => ?_)
  · replace h := itt h c
    try rw [c]
    refine go ?_; intros
    cases h
    exact r_end
  replace h := itf h c
  try rw [c]
  obtain ⟨x83, h84, h⟩ := bnd h
  refine go ?_; intros
  refine c_call (c := c_laws_toFeatS) (a2) H_laws_toFeatS h84 fun ch => ?_
  obtain ⟨x87, h88, h⟩ := bnd h
  refine go ?_; intros
  refine c_call (c := c_laws_eqFeatS) (x40, x83) H_laws_eqFeatS h88 fun ch => ?_
  refine go ?_; intros
  refine w_cond rfl (fun c => ?_) (fun c => ?_)
  · replace h := itt h c
    try rw [c]
    refine go ?_; intros
    cases h
    exact r_end
  replace h := itf h c
  try rw [c]
  obtain ⟨x89, h90, h⟩ := bnd h
  refine go ?_; intros
  have L90 := l_laws_markRepo h90; (try dsimp only at L90); refine c_callg (c := c_laws_markRepo) (x33, 1) H_laws_markRepo h90 fun ch => ?_
  obtain ⟨x91, h92, h⟩ := bnd h
  refine go ?_; intros
  have L92 := l_laws_markFeatS h92; (try dsimp only at L92); refine c_callg (c := c_laws_markFeatS) (x40, x89.1) H_laws_markFeatS h92 fun ch => ?_
  refine go ?_; intros
  refine s_split rfl (fun c => ?_) (fun c => ?_)
  · replace h := itt h c
    rw [c]
    refine go ?_; intros
    cases h
    exact r_end
  replace h := itf h c
  rw [c]
  obtain ⟨x93, h94, h⟩ := bnd h
  refine go ?_; intros
  refine c_call (c := c_laws_eqRepo) ((⟨q44.2.1, q44.2.2⟩ : Repo), (⟨q6.2.1, q6.2.2⟩ : Repo)) H_laws_eqRepo h94 fun ch => ?_
  refine go ?_; intros
  refine s_split rfl (fun c => ?_) (fun c => ?_)
  · replace h := itt h c
    rw [c]
    refine go ?_; intros
    cases h
    exact r_end
  replace h := itf h c
  rw [c]
  refine go ?_; intros
  refine w_cond rfl (fun c => ?_) (fun c => ?_)
  · replace h := itt h c
    try rw [c]
    refine go ?_; intros
    cases h
    exact r_end
  replace h := itf h c
  try rw [c]
  obtain ⟨q95, h137, h⟩ := bnd h
  refine go ?_; intros
  refine w_cut (fun t o => ∃ b99 b100 c101 b102 c103 b104 b106 c107 b109 c110 b111, Pin t (ovr [(1, .v (.string a1)), (2, .ro (List.map (eFeat false) a2)), (3, .v (.string a3)), (4, .ptr 32 b99 466 0 0), (10, .ptr 80 b104 210 0 0), (11, .v (.int .i64 q6.1)), (14, .ptr 112 b111 210 0 0), (17, .v (.int .i64 q95.1))] t) ∧ PinH o (ovh [(32, ⟨b99, 1, 466, true, [[.sl false 3 (List.map (eCommit false) a0.commits), .sl false 2 (List.map eHead a0.heads)]]⟩), (1001280, ent b100 c101 115 (List.map (eCommit true) q6.2.1)), (1001281, ent b102 c103 130 (List.map eHead q6.2.2)), (80, ⟨b104, 1, 210, true, [[.al 1001280 b100 c101 0 q6.2.1.length 115, .al 1001281 b102 c103 0 q6.2.2.length 130]]⟩), (1001792, ent b106 c107 115 (List.map (eCommit true) q95.2.1)), (1001793, ent b109 c110 130 (List.map eHead q95.2.2)), (112, ⟨b111, 1, 210, true, [[.al 1001792 b106 c107 0 q95.2.1.length 115, .al 1001793 b109 c110 0 q95.2.2.length 130]]⟩)] o)) ?_ ?_
  · obtain ⟨x96, h97, h137⟩ := bnd h137
    refine go ?_; intros
    have L97 := l_laws_markRepo h97; (try dsimp only at L97); refine c_callg (c := c_laws_markRepo) ((⟨q44.2.1, q44.2.2⟩ : Repo), 1) H_laws_markRepo h97 fun ch => ?_
    refine go ?_; intros
    cases h137
    exact k_cn ⟨_, _, _, _, _, _, _, _, _, _, _, pin, pinh⟩
  rintro t o ⟨b99, b100, c101, b102, c103, b104, b106, c107, b109, c110, b111, q1, q2⟩
  refine pinned q1 q2 ?_
  obtain ⟨x112, h113, h⟩ := bnd h
  refine go ?_; intros
  refine c_call (c := c_laws_heldRepo) ((⟨q95.2.1, q95.2.2⟩ : Repo), 1) H_laws_heldRepo h113 fun ch => ?_
  refine go ?_; intros
  refine w_cond rfl (fun c => ?_) (fun c => ?_)
  · replace h := itt h c
    try rw [c]
    refine go ?_; intros
    cases h
    exact r_end
  replace h := itf h c
  try rw [c]
  refine go ?_; intros
  refine w_cond rfl (fun c => ?_) (fun c => ?_)
  · replace h := itt h c
    try rw [c]
    refine go ?_; intros
    cases h
    exact r_end
  replace h := itf h c
  try rw [c]
  obtain ⟨x114, h115, h⟩ := bnd h
  refine go ?_; intros
  refine c_call (c := c_laws_toRepo) (a0) H_laws_toRepo h115 fun ch => ?_
  obtain ⟨x120, h121, h⟩ := bnd h
  refine go ?_; intros
  refine c_call (c := c_laws_toFeatS) (a2) H_laws_toFeatS h121 fun ch => ?_
  obtain ⟨x124, h125, h⟩ := bnd h
  refine go ?_; intros
  refine c_call (c := c_impl_RepoAdd) (x114, a1, x120, a3) H_impl_RepoAdd h125 fun ch => ?_
  obtain ⟨x131, h132, h⟩ := bnd h
  refine go ?_; intros
  refine c_call (c := c_laws_eqRepo) (x124.1, (⟨q6.2.1, q6.2.2⟩ : Repo)) H_laws_eqRepo h132 fun ch => ?_
  refine go ?_; intros
  refine s_split rfl (fun c => ?_) (fun c => ?_)
  · replace h := itt h c
    rw [c]
    refine go ?_; intros
    cases h
    exact r_end
  replace h := itf h c
  rw [c]
  refine go ?_; intros
  refine w_cond rfl (fun c => ?_) (fun c => ?_)
  · replace h := itt h c
    try rw [c]
    refine go ?_; intros
    cases h
    exact r_end
  replace h := itf h c
  try rw [c]
  obtain ⟨x133, h134, h⟩ := bnd h
  refine go ?_; intros
  refine c_call (c := c_laws_heldRepo) ((⟨q95.2.1, q95.2.2⟩ : Repo), 1) H_laws_heldRepo h134 fun ch => ?_
  refine go ?_; intros
  refine w_cond rfl (fun c => ?_) (fun c => ?_)
  · replace h := itt h c
    try rw [c]
    refine go ?_; intros
    cases h
    exact r_end
  replace h := itf h c
  try rw [c]
  refine go ?_; intros
  refine w_cond rfl (fun c => ?_) (fun c => ?_)
  · replace h := itt h c
    try rw [c]
    refine go ?_; intros
    cases h
    exact r_end
  replace h := itf h c
  try rw [c]
  refine go ?_; intros
  cases h
  exact r_end
end Go.Proofs.AM
