/- A part of the proofs of this seat's statements (UF15): lemmas on an abstract machine for the program's functions. Conditions: none. -/
import Derived.Test.YtggnnoghnkcmpaaUD
set_option linter.unusedVariables false
set_option maxRecDepth 100000
set_option maxHeartbeats 4000000
namespace Go.Proofs.AM
attribute [local irreducible] vwp vstps vstpLs vstp vdo vret kseq kblk kloop kend kcut kloop2 frzV renV shutK
theorem d_laws_FnExactRepoBases {G : Gam} (H_laws_szRepo : Has G c_laws_szRepo) (H_laws_toRepo : Has G c_laws_toRepo) (H_spec_RepoBases : Has G c_spec_RepoBases) (H_impl_RepoBases : Has G c_impl_RepoBases) (H_laws_eqIntS : Has G c_laws_eqIntS) (H_laws_eqRepo : Has G c_laws_eqRepo) (H_laws_markRepo : Has G c_laws_markRepo) (H_laws_markIntS : Has G c_laws_markIntS) (H_laws_heldIntS : Has G c_laws_heldIntS) (a0 : Repo) (a1 : Int) (a2 : Int) (r : Bool) (h : gf_laws_FnExactRepoBases a0 a1 a2 = some r) : Does G if_laws_FnExactRepoBases ks_laws_FnExactRepoBases (c_laws_FnExactRepoBases.args (a0, a1, a2)) [] (c_laws_FnExactRepoBases.ans (a0, a1, a2) r) := by
  refine does_pn (L := [(0, .agg [.ro (List.map (eCommit false) a0.commits), .ro (List.map eHead a0.heads)]), (1, .v (.int .i64 a1)), (2, .v (.int .i64 a2))]) (fun bs => pin) fun bs t o => ?_
  show vwp _ ib_laws_FnExactRepoBases _ _
  unfold ib_laws_FnExactRepoBases
  unfold gf_laws_FnExactRepoBases at h
  obtain ⟨x2, h3, h⟩ := bnd h
  refine go ?_; intros
  refine c_call (c := c_laws_szRepo) (a0, 1048576) H_laws_szRepo h3 fun ch => ?_
  refine go ?_; intros
  refine w_cond rfl (fun c => ?_) (fun c => ?_)
  · replace h := itt h c
    try rw [c]
    refine go ?_; intros
    cases h
    exact r_end
  replace h := itf h c
  try rw [c]
  obtain ⟨x4, h5, h⟩ := bnd h
  refine go ?_; intros
  refine c_call (c := c_laws_toRepo) (a0) H_laws_toRepo h5 fun ch => ?_
  obtain ⟨x10, h11, h⟩ := bnd h
  refine go ?_; intros
  refine c_call (c := c_spec_RepoBases) (x4, a1, a2) H_spec_RepoBases h11 fun ch => ?_
  obtain ⟨q14, h68, h⟩ := bnd h
  refine go ?_; intros
  refine w_cut (fun t o => ∃ b22 b23 c24 b26 c27 b29 c30 b31, Pin t (ovr [(1, .v (.int .i64 a1)), (2, .v (.int .i64 a2)), (3, .ptr 24 b22 466 0 0), (8, .ref 192 b23 c24 0 x10.length 17), (9, .ptr 72 b31 210 0 0)] t) ∧ PinH o (ovh [(24, ⟨b22, 1, 466, true, [[.sl false 3 (List.map (eCommit false) a0.commits), .sl false 2 (List.map eHead a0.heads)]]⟩), (192, ent b23 c24 17 (List.map eInt x10)), (1001152, ent b26 c27 115 (List.map (eCommit true) q14.1)), (1001153, ent b29 c30 130 (List.map eHead q14.2)), (72, ⟨b31, 1, 210, true, [[.al 1001152 b26 c27 0 q14.1.length 115, .al 1001153 b29 c30 0 q14.2.length 130]]⟩)] o)) ?_ ?_
  · obtain ⟨x15, h16, h68⟩ := bnd h68
    refine go ?_; intros
    refine c_call (c := c_laws_toRepo) (a0) H_laws_toRepo h16 fun ch => ?_
    refine go ?_; intros
    cases h68
    exact k_cn ⟨_, _, _, _, _, _, _, _, pin, pinh⟩
  rintro t o ⟨b22, b23, c24, b26, c27, b29, c30, b31, q1, q2⟩
  refine pinned q1 q2 ?_
  obtain ⟨x32, h33, h⟩ := bnd h
  refine go ?_; intros
  refine c_call (c := c_impl_RepoBases) ((⟨q14.1, q14.2⟩ : Repo), a1, a2) H_impl_RepoBases h33 fun ch => ?_
  obtain ⟨x36, h37, h⟩ := bnd h
  refine go ?_; intros
  refine c_call (c := c_laws_eqIntS) (x32, x10) H_laws_eqIntS h37 fun ch => ?_
  refine go ?_; intros
  refine w_cond rfl (fun c => ?_) (fun c => ?_)
  · replace h := itt h c
    try rw [c]
    refine go ?_; intros
    cases h
    exact r_end
  replace h := itf h c
  try rw [c]
  obtain ⟨x38, h39, h⟩ := bnd h
  refine go ?_; intros
  refine c_call (c := c_laws_toRepo) (a0) H_laws_toRepo h39 fun ch => ?_
  obtain ⟨x44, h45, h⟩ := bnd h
  refine go ?_; intros
  refine c_call (c := c_laws_eqRepo) ((⟨q14.1, q14.2⟩ : Repo), x38) H_laws_eqRepo h45 fun ch => ?_
  refine go ?_; intros
  refine w_cond rfl (fun c => ?_) (fun c => ?_)
  · replace h := itt h c
    try rw [c]
    refine go ?_; intros
    cases h
    exact r_end
  replace h := itf h c
  try rw [c]
  obtain ⟨x46, h47, h⟩ := bnd h
  refine go ?_; intros
  have L47 := l_laws_markRepo h47; refine c_callg (c := c_laws_markRepo) ((⟨q14.1, q14.2⟩ : Repo), 1) H_laws_markRepo h47 fun ch => ?_
  refine go ?_; intros
  refine s_split rfl (fun c => ?_) (fun c => ?_)
  · replace h := itt h c
    rw [c]
    refine go ?_; intros
    cases h
    exact r_end
  replace h := itf h c
  rw [c]
  obtain ⟨x48, h49, h⟩ := bnd h
  refine go ?_; intros
  refine c_call (c := c_laws_eqIntS) (x32, x10) H_laws_eqIntS h49 fun ch => ?_
  refine go ?_; intros
  refine w_cond rfl (fun c => ?_) (fun c => ?_)
  · replace h := itt h c
    try rw [c]
    refine go ?_; intros
    cases h
    exact r_end
  replace h := itf h c
  try rw [c]
  obtain ⟨x50, h51, h⟩ := bnd h
  refine go ?_; intros
  have L51 := l_laws_markIntS h51; refine c_callg (c := c_laws_markIntS) (x32, 1) H_laws_markIntS h51 fun ch => ?_
  obtain ⟨x52, h53, h⟩ := bnd h
  refine go ?_; intros
  refine c_call (c := c_laws_heldIntS) (x50.2, 1) H_laws_heldIntS h53 fun ch => ?_
  refine go ?_; intros
  refine w_cond rfl (fun c => ?_) (fun c => ?_)
  · replace h := itt h c
    try rw [c]
    refine go ?_; intros
    cases h
    exact r_end
  replace h := itf h c
  try rw [c]
  refine go ?_; intros
  refine w_cond rfl (fun c => ?_) (fun c => ?_)
  · replace h := itt h c
    try rw [c]
    refine go ?_; intros
    cases h
    exact r_end
  replace h := itf h c
  try rw [c]
  obtain ⟨x54, h55, h⟩ := bnd h
  refine go ?_; intros
  refine c_call (c := c_laws_toRepo) (a0) H_laws_toRepo h55 fun ch => ?_
  obtain ⟨x60, h61, h⟩ := bnd h
  refine go ?_; intros
  refine c_call (c := c_impl_RepoBases) (x54, a1, a2) H_impl_RepoBases h61 fun ch => ?_
  obtain ⟨x64, h65, h⟩ := bnd h
  refine go ?_; intros
  refine c_call (c := c_laws_eqIntS) (x60, x10) H_laws_eqIntS h65 fun ch => ?_
  refine go ?_; intros
  refine w_cond rfl (fun c => ?_) (fun c => ?_)
  · replace h := itt h c
    try rw [c]
    refine go ?_; intros
    cases h
    exact r_end
  replace h := itf h c
  try rw [c]
  obtain ⟨x66, h67, h⟩ := bnd h
  refine go ?_; intros
  refine c_call (c := c_laws_heldIntS) (x50.2, 1) H_laws_heldIntS h67 fun ch => ?_
  refine go ?_; intros
  refine w_cond rfl (fun c => ?_) (fun c => ?_)
  · replace h := itt h c
    try rw [c]
    refine go ?_; intros
    cases h
    exact r_end
  replace h := itf h c
  try rw [c]
  refine go ?_; intros
  refine w_cond rfl (fun c => ?_) (fun c => ?_)
  · replace h := itt h c
    try rw [c]
    refine go ?_; intros
    cases h
    exact r_end
  replace h := itf h c
  try rw [c]
  refine go ?_; intros
  cases h
  exact r_end
end Go.Proofs.AM
