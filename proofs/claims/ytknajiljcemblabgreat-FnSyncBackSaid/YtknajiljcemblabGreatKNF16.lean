/- Lemmas of the proof (KNF16), on an abstract machine. Conditions: none. -/
import Derived.Test.YtknajiljcemblabGreatKND
set_option linter.unusedVariables false
set_option linter.unusedSimpArgs false
set_option maxRecDepth 100000
set_option maxHeartbeats 4000000
namespace Go.Proofs.AM
attribute [local irreducible] vwp vstps vstpLs vstp vdo vret kseq kblk kloop kend kcut kloop2 frzV renV shutK pfzV trnV unrV
theorem d_ds9 {G : Gam} (H_ed9 : Has G c_ed9) (H_cq9 : Has G c_cq9) (H_co9 : Has G c_co9) (H_di9 : Has G c_di9) (a0 : Rd) (g0 : Option Addr) (g1 : Nat) (r : (Repo × Int)) (h : gf_ds9 a0 = some r) : Does G if_ds9 ks_ds9 (c_ds9.args (a0, g0, g1)) (c_ds9.ins (a0, g0, g1)) (c_ds9.ans (a0, g0, g1) r) := by
 refine does_pg (L := fun bs => [(0, .ptr 0 (bs 0).1 290 0 0)]) (H := fun bs => [(0, ⟨(bs 0).1, (bs 0).2, 290, true, [[.rw g0 g1 (List.map eU8 a0.b), .v (.int .i64 a0.p)]]⟩)]) (fun bs => pin) (fun bs => pinh) fun bs t o => ?_
 show vwp _ ib_ds9 _ _
 unfold ib_ds9
 refine w_ir ?_
 unfold gf_ds9 at h
 obtain ⟨x2, h3, h⟩ := bnd h
 refine go ?_;intros
 refine c_callg (c := c_ed9) (a0, g0, g1) H_ed9 h3 fun ch => ?_
 obtain ⟨x9, h10, h⟩ := bnd h
 refine go ?_;intros
 refine c_callg (c := c_cq9) ((⟨a0.b, x2.2⟩ : Rd), (x2.1.commits.length : Int), g0, g1) H_cq9 h10 fun ch => ?_
 obtain ⟨x11, h12, h⟩ := bnd h
 refine go ?_;intros
 refine c_callg (c := c_cq9) ((⟨a0.b, x9.2⟩ : Rd), 48, g0, g1) H_cq9 h12 fun ch => ?_
 obtain ⟨q13, h53, h⟩ := bnd h
 refine go ?_;intros
 refine w_cut (fun t o => ∃ b14 c15 b16 c17 b18 b19 c20 b21 c22 b23, Pin t (ovr [(0, .ptr 0 (bs 0).1 290 0 0), (2, .ptr 16 b18 210 0 0), (3, .ptr 24 b23 210 0 0), (4, .v (.int .i64 x9.1)), (13, .v (.int .i64 x11.1)), (14, .v (.bool (x11.1 == 0)))] t) ∧ PinH o (ovh [(0, ⟨(bs 0).1, (bs 0).2, 290, true, [[.rw g0 g1 (List.map eU8 a0.b), .v (.int .i64 x11.2)]]⟩), (1000256, ent b14 c15 115 (List.map (eCommit true) [])), (1000257, ent b16 c17 130 (List.map eHead [])), (16, ⟨b18, 1, 210, true, [[.al 1000256 b14 c15 0 ([] : List Commit).length 115, .al 1000257 b16 c17 0 ([] : List Head).length 130]]⟩), (1000384, ent b19 c20 115 (List.map eCommitX x2.1.commits)), (1000385, ent b21 c22 130 (List.map eHead x2.1.heads)), (24, ⟨b23, 1, 210, true, [[.al 1000384 b19 c20 0 x2.1.commits.length 115, .al 1000385 b21 c22 0 x2.1.heads.length 130]]⟩)] o)) ?_ ?_
 ·refine go ?_;intros
  cases h53
  exact k_cn ⟨_, _, _, _, _, _, _, _, _, _, pin, pinh⟩
 rintro t o ⟨b14, c15, b16, c17, b18, b19, c20, b21, c22, b23, pq1, pq2⟩
 refine pinned pq1 pq2 ?_
 refine go ?_;intros
 refine w_cond rfl (fun c => ?_) (fun c => ?_)
 ·replace h := itt h c
  try rw [c]
  obtain ⟨x25, h26, h⟩ := bnd h
  refine go ?_;intros
  refine c_callg (c := c_co9) ((⟨a0.b, x11.2⟩ : Rd), ([(-1), (x2.1.commits.length : Int)] : (List Int)), g0, g1) H_co9 h26 fun ch => ?_
  obtain ⟨x27, h28, h⟩ := bnd h
  refine go ?_;intros
  refine r_ire (xs := x2.1.heads) rfl rfl h28 rfl ?_
  refine go ?_;intros
  refine c_ste (f := eHead) x2.1.heads (⟨x27.name, x25.1⟩ : Head) (idx_get h28).2 ?_
  refine go ?_;intros
  cases h
  exact r_endg
 replace h := itf h c
 try rw [c]
 refine go ?_;intros
 refine w_cond rfl (fun c => ?_) (fun c => ?_)
 ·replace h := itt h c
  try rw [c]
  obtain ⟨x29, h30, h⟩ := bnd h
  refine go ?_;intros
  refine r_ire (xs := x2.1.commits) rfl rfl h30 rfl ?_
  refine go ?_;intros
  refine r_lopg (f := eCommitX) (g := eInt) (xs := x2.1.commits) (x := x29) (ys := x29.up) (idx_get h30).2 rfl rfl rfl fun b31 c32 => ?_
  obtain ⟨h36, h⟩ := gd h
  refine go ?_;intros
  refine r_app (f := eInt) (xs := x29.up) (ys := ([x9.1] : (List Int))) rfl (src_mv rfl rfl (by first | rfl | simp)) rfl rfl (by first | rfl | simp) h36 fun b34 c35 => ?_
  refine go ?_;intros
  refine r_ire (xs := x2.1.commits) rfl rfl h30 rfl ?_
  refine go ?_;intros
  refine c_stc (f := eCommitX) x2.1.commits (⟨(x29.up ++ ([x9.1] : (List Int))), x29.sheet, x29.note⟩ : Commit) (idx_get h30).2 ?_
  refine go ?_;intros
  cases h
  exact r_endg
 replace h := itf h c
 try rw [c]
 refine go ?_;intros
 refine w_cond rfl (fun c => ?_) (fun c => ?_)
 ·replace h := itt h c
  try rw [c]
  refine go ?_;intros
  refine r_frz ?_
  obtain ⟨x37, h38, h⟩ := bnd h
  refine go ?_;intros
  refine c_callg (c := c_di9) ((⟨a0.b, x11.2⟩ : Rd), g0, g1) H_di9 h38 fun ch => ?_
  refine go ?_;intros
  refine c_fz ?_
  obtain ⟨x41, h42, h⟩ := bnd h
  refine go ?_;intros
  refine r_ire (xs := x2.1.commits) rfl rfl h42 rfl ?_
  refine go ?_;intros
  refine c_ste (f := eCommitX) x2.1.commits (⟨x41.up, x37.1, x41.note⟩ : Commit) (idx_get h42).2 ?_
  refine go ?_;intros
  cases h
  exact r_endg
 replace h := itf h c
 try rw [c]
 refine go ?_;intros
 refine w_cond rfl (fun c => ?_) (fun c => ?_)
 ·replace h := itt h c
  try rw [c]
  obtain ⟨x43, h44, h⟩ := bnd h
  refine go ?_;intros
  refine r_ire (xs := x2.1.commits) rfl rfl h44 rfl ?_
  refine go ?_;intros
  refine c_ste (f := eCommitX) x2.1.commits (⟨x43.up, x43.sheet, (⟨#[]⟩ : Str)⟩ : Commit) (idx_get h44).2 ?_
  refine go ?_;intros
  cases h
  exact r_endg
 replace h := itf h c
 try rw [c]
 refine go ?_;intros
 refine w_cond rfl (fun c => ?_) (fun c => ?_)
 ·replace h := itt h c
  try rw [c]
  obtain ⟨x45, h46, h⟩ := bnd h
  refine go ?_;intros
  refine r_ire (xs := x2.1.heads) rfl rfl h46 rfl ?_
  refine go ?_;intros
  refine r_lde (f := eHead) (xs := x2.1.heads) (x := x45) rfl rfl (idx_get h46).2 rfl rfl rfl ?_
  obtain ⟨h50, h⟩ := gd h
  refine go ?_;intros
  refine r_app (f := eHead) (xs := x2.1.heads) (ys := ([x45] : (List Head))) rfl (src_mv rfl rfl (by first | rfl | simp)) rfl rfl (by first | rfl | simp) h50 fun b48 c49 => ?_
  refine go ?_;intros
  cases h
  exact r_endg
 replace h := itf h c
 try rw [c]
 refine go ?_;intros
 refine w_cond rfl (fun c => ?_) (fun c => ?_)
 ·replace h := itt h c
  try rw [c]
  obtain ⟨x51, h52, h⟩ := bnd h
  refine go ?_;intros
  refine r_ire (xs := x2.1.commits) rfl rfl h52 rfl ?_
  refine go ?_;intros
  refine c_ste (f := eCommitX) x2.1.commits (⟨[], x51.sheet, x51.note⟩ : Commit) (idx_get h52).2 ?_
  refine go ?_;intros
  cases h
  exact r_endg
 replace h := itf h c
 try rw [c]
 refine go ?_;intros
 cases h
 exact r_endg
theorem d_ae9 {G : Gam} (H_ai9 : Has G c_ai9) (H_af9 : Has G c_af9) (a0 : Repo) (a1 : Str) (r : Int) (h : gf_ae9 a0 a1 = some r) : Does G if_ae9 ks_ae9 (c_ae9.args (a0, a1)) [] (c_ae9.ans (a0, a1) r) := by
 refine does_pn (L := [(0, .agg [.ro (List.map (eCommit false) a0.commits), .ro (List.map eHead a0.heads)]), (1, .v (.string a1))]) (fun bs => pin) fun bs t o => ?_
 show vwp _ ib_ae9 _ _
 unfold ib_ae9
 refine w_ir ?_
 unfold gf_ae9 at h
 obtain ⟨x2, h3, h⟩ := bnd h
 refine go ?_;intros
 refine c_call (c := c_ai9) (a0, a1) H_ai9 h3 fun ch => ?_
 obtain ⟨x4, h5, h⟩ := bnd h
 refine go ?_;intros
 refine c_call (c := c_af9) (a0) H_af9 h5 fun ch => ?_
 refine go ?_;intros
 refine s_split rfl (fun c => ?_) (fun c => ?_)
 ·replace h := itt h c
  rw [c]
  refine go ?_;intros
  cases h
  exact r_end
 replace h := itf h c
 rw [c]
 refine go ?_;intros
 refine w_cond rfl (fun c => ?_) (fun c => ?_)
 ·replace h := itt h c
  try rw [c]
  refine go ?_;intros
  cases h
  exact r_end
 replace h := itf h c
 try rw [c]
 obtain ⟨x6, h7, h⟩ := bnd h
 refine go ?_;intros
 refine r_iro rfl rfl h7 rfl ?_
 refine go ?_;intros
 cases h
 exact r_end
theorem d_cm9 {G : Gam} (H_ed9 : Has G c_ed9) (H_dt9 : Has G c_dt9) (H_cq9 : Has G c_cq9) (H_dv9 : Has G c_dv9) (H_ds9 : Has G c_ds9) (a0 : Rd) (g0 : Option Addr) (g1 : Nat) (r : (Repo × Repo × Int)) (h : gf_cm9 a0 = some r) : Does G if_cm9 ks_cm9 (c_cm9.args (a0, g0, g1)) (c_cm9.ins (a0, g0, g1)) (c_cm9.ans (a0, g0, g1) r) := by
 refine does_pg (L := fun bs => [(0, .ptr 0 (bs 0).1 290 0 0)]) (H := fun bs => [(0, ⟨(bs 0).1, (bs 0).2, 290, true, [[.rw g0 g1 (List.map eU8 a0.b), .v (.int .i64 a0.p)]]⟩)]) (fun bs => pin) (fun bs => pinh) fun bs t o => ?_
 show vwp _ ib_cm9 _ _
 unfold ib_cm9
 refine w_ir ?_
 unfold gf_cm9 at h
 obtain ⟨x3, h4, h⟩ := bnd h
 refine go ?_;intros
 refine c_callg (c := c_ed9) (a0, g0, g1) H_ed9 h4 fun ch => ?_
 refine go ?_;intros
 refine r_pfz ?_
 obtain ⟨x10, h11, h⟩ := bnd h
 refine go ?_;intros
 refine c_call (c := c_dt9) (x3.1) H_dt9 h11 fun ch => ?_
 refine go ?_;intros
 refine r_pz (f := (eCommit true)) (g := eCommitX) (pf_Commit _) rfl rfl ?_
 obtain ⟨x17, h18, h⟩ := bnd h
 refine go ?_;intros
 refine c_callg (c := c_cq9) ((⟨a0.b, x3.2⟩ : Rd), 4, g0, g1) H_cq9 h18 fun ch => ?_
 obtain ⟨q78, h258, h⟩ := bnd h
 refine go ?_;intros
 refine w_last (fun t o => ∃ b110 c111 b112 c113 b114 b115 c116 b117 c118 b119 b120 c121 b122 c123 b124 b126 c127 b129 c130 b131, Pin t (ovr [(0, .ptr 0 (bs 0).1 290 0 0), (2, .ptr 16 b114 210 0 0), (3, .ptr 24 b119 210 0 0), (4, .ptr 32 b124 210 0 0), (5, .ptr 40 b131 210 0 0)] t) ∧ PinH o (ovh [(0, ⟨(bs 0).1, (bs 0).2, 290, true, [[.rw g0 g1 (List.map eU8 a0.b), .v (.int .i64 q78.1)]]⟩), (1000256, ent b110 c111 115 (List.map (eCommit true) [])), (1000257, ent b112 c113 130 (List.map eHead [])), (16, ⟨b114, 1, 210, true, [[.al 1000256 b110 c111 0 ([] : List Commit).length 115, .al 1000257 b112 c113 0 ([] : List Head).length 130]]⟩), (1000384, ent b115 c116 115 (List.map (eCommit true) [])), (1000385, ent b117 c118 130 (List.map eHead [])), (24, ⟨b119, 1, 210, true, [[.al 1000384 b115 c116 0 ([] : List Commit).length 115, .al 1000385 b117 c118 0 ([] : List Head).length 130]]⟩), (1000512, ent b120 c121 115 (List.map eCommitX x3.1.commits)), (1000513, ent b122 c123 130 (List.map eHead x3.1.heads)), (32, ⟨b124, 1, 210, true, [[.al 1000512 b120 c121 0 x3.1.commits.length 115, .al 1000513 b122 c123 0 x3.1.heads.length 130]]⟩), (1000640, ent b126 c127 115 (List.map eCommitX q78.2.1)), (1000641, ent b129 c130 130 (List.map eHead q78.2.2)), (40, ⟨b131, 1, 210, true, [[.al 1000640 b126 c127 0 q78.2.1.length 115, .al 1000641 b129 c130 0 q78.2.2.length 130]]⟩)] o)) ?_ ?_
 ·refine w_loop2 (fun n t o => ∃ n103 v79 v80 v96 v99 b81 c82 b83 c84 b85 b86 c87 b88 c89 b90 b91 c92 b93 c94 b95 b97 c98 b100 c101 b102, gl_cm9_1 a0 n103 v79 v80 v96 v99 = some q78 ∧ n103 = n ∧ Pin t (ovr [(0, .ptr 0 (bs 0).1 290 0 0), (2, .ptr 16 b85 210 0 0), (3, .ptr 24 b90 210 0 0), (4, .ptr 32 b95 210 0 0), (5, .ptr 40 b102 210 0 0), (6, .v (.int .i64 v79))] t) ∧ PinH o (ovh [(0, ⟨(bs 0).1, (bs 0).2, 290, true, [[.rw g0 g1 (List.map eU8 a0.b), .v (.int .i64 v80)]]⟩), (1000256, ent b81 c82 115 (List.map (eCommit true) [])), (1000257, ent b83 c84 130 (List.map eHead [])), (16, ⟨b85, 1, 210, true, [[.al 1000256 b81 c82 0 ([] : List Commit).length 115, .al 1000257 b83 c84 0 ([] : List Head).length 130]]⟩), (1000384, ent b86 c87 115 (List.map (eCommit true) [])), (1000385, ent b88 c89 130 (List.map eHead [])), (24, ⟨b90, 1, 210, true, [[.al 1000384 b86 c87 0 ([] : List Commit).length 115, .al 1000385 b88 c89 0 ([] : List Head).length 130]]⟩), (1000512, ent b91 c92 115 (List.map eCommitX x3.1.commits)), (1000513, ent b93 c94 130 (List.map eHead x3.1.heads)), (32, ⟨b95, 1, 210, true, [[.al 1000512 b91 c92 0 x3.1.commits.length 115, .al 1000513 b93 c94 0 x3.1.heads.length 130]]⟩), (1000640, ent b97 c98 115 (List.map eCommitX v96)), (1000641, ent b100 c101 130 (List.map eHead v99)), (40, ⟨b102, 1, 210, true, [[.al 1000640 b97 c98 0 v96.length 115, .al 1000641 b100 c101 0 v99.length 130]]⟩)] o)) _ ⟨_, _, _, _, _, _, _, _, _, _, _, _, _, _, _, _, _, _, _, _, _, _, _, _, _, h258, rfl, pin, pinh⟩ ?_
  rintro n t o ⟨n103, v79, v80, v96, v99, b81, c82, b83, c84, b85, b86, c87, b88, c89, b90, b91, c92, b93, c94, b95, b97, c98, b100, c101, b102, h258, rfl, pq1, pq2⟩
  refine pinned pq1 pq2 ?_
  cases n103 with
  | zero => rw [gl_cm9_1] at h258; cases h258
  | succ n103 =>
   rw [gl_cm9_1] at h258
   refine go ?_;intros
   refine w_cond rfl (fun c => ?_) (fun c => ?_)
   ·replace h258 := itt h258 c
    try rw [c]
    refine go ?_;intros
    refine r_rawl ?_
    refine go ?_;intros
    refine r_rl rfl rfl ?_
    refine go ?_;intros
    refine r_pfz ?_
    refine go ?_;intros
    refine r_unr ?_
    obtain ⟨x104, h105, h258⟩ := bnd h258
    rcases x104 with ⟨_ | y106, p107⟩
    ·dsimp only at h258
     refine go ?_;intros
     refine c_callg (c := c_dv9) ((⟨a0.b, v80⟩ : Rd), (⟨v96, v99⟩ : Repo), g0, g1, (hdrA b97), c98, (hdrA b100), c101) H_dv9 h105 fun ch108 => ?_
     refine go ?_;intros
     refine r_un rfl (un_hit rfl rfl (by first | rfl | simp) (un_hit rfl rfl (by first | rfl | simp) un_nil)) ?_
     refine go ?_;intros
     refine r_pz (f := eCommitX) (g := eCommitX) (pf_CommitX _) rfl rfl ?_
     refine go ?_;intros
     exact k_ln2 _ (Nat.lt_succ_self _) ⟨_, _, _, _, _, _, _, _, _, _, _, _, _, _, _, _, _, _, _, _, _, _, _, _, _, h258, rfl, pin, pinh⟩
    dsimp only at h258
    refine go ?_;intros
    refine c_callg (c := c_dv9) ((⟨a0.b, v80⟩ : Rd), (⟨v96, v99⟩ : Repo), g0, g1, (hdrA b97), c98, (hdrA b100), c101) H_dv9 h105 fun ch108 => ?_
    refine go ?_;intros
    refine r_un rfl (un_ref (un_ref un_nil)) ?_
    refine go ?_;intros
    refine r_pz (f := (eCommit true)) (g := eCommitX) (pf_Commit _) rfl rfl ?_
    refine go ?_;intros
    exact k_ln2 _ (Nat.lt_succ_self _) ⟨_, _, _, _, _, _, _, _, _, _, _, _, _, _, _, _, _, _, _, _, _, _, _, _, _, h258, rfl, pin, pinh⟩
   replace h258 := itf h258 c
   try rw [c]
   refine go ?_;intros
   cases h258
   exact k_cn ⟨_, _, _, _, _, _, _, _, _, _, _, _, _, _, _, _, _, _, _, _, pin, pinh⟩
 rintro t o ⟨b110, c111, b112, c113, b114, b115, c116, b117, c118, b119, b120, c121, b122, c123, b124, b126, c127, b129, c130, b131, pq1, pq2⟩
 refine pinnedQ pq1 pq2 ?_
 obtain ⟨q183, h259, h⟩ := bnd h
 refine go ?_;intros
 refine w_cut (fun t o => ∃ q183_, q183 = .inr q183_ ∧ ∃ b235 c236 b237 c238 b239 b240 c241 b242 c243 b244 b246 c247 b249 c250 b251 b252 c253 b254 c255 b256, Pin t (ovr [(2, .ptr 16 b239 210 0 0), (3, .ptr 24 b244 210 0 0), (4, .ptr 32 b251 210 0 0), (5, .ptr 40 b256 210 0 0)] t) ∧ PinH o (ovh [(1000256, ent b235 c236 115 (List.map (eCommit true) [])), (1000257, ent b237 c238 130 (List.map eHead [])), (16, ⟨b239, 1, 210, true, [[.al 1000256 b235 c236 0 ([] : List Commit).length 115, .al 1000257 b237 c238 0 ([] : List Head).length 130]]⟩), (1000384, ent b240 c241 115 (List.map (eCommit true) [])), (1000385, ent b242 c243 130 (List.map eHead [])), (24, ⟨b244, 1, 210, true, [[.al 1000384 b240 c241 0 ([] : List Commit).length 115, .al 1000385 b242 c243 0 ([] : List Head).length 130]]⟩), (1000512, ent b246 c247 115 (List.map eCommitX q183_.1)), (1000513, ent b249 c250 130 (List.map eHead q183_.2.1)), (32, ⟨b251, 1, 210, true, [[.al 1000512 b246 c247 0 q183_.1.length 115, .al 1000513 b249 c250 0 q183_.2.1.length 130]]⟩), (1000640, ent b252 c253 115 (List.map eCommitX q78.2.1)), (1000641, ent b254 c255 130 (List.map eHead q78.2.2)), (40, ⟨b256, 1, 210, true, [[.al 1000640 b252 c253 0 q78.2.1.length 115, .al 1000641 b254 c255 0 q78.2.2.length 130]]⟩), (0, ⟨(bs 0).1, (bs 0).2, 290, true, [[.rw g0 g1 (List.map eU8 a0.b), .v (.int .i64 q183_.2.2)]]⟩)] o)) ?_ ?_
 ·obtain ⟨x184, h185, h259⟩ := bnd h259
  refine go ?_;intros
  refine c_callg (c := c_cq9) ((⟨a0.b, q78.1⟩ : Rd), 10, g0, g1) H_cq9 h185 fun ch => ?_
  refine go ?_;intros
  refine w_cond rfl (fun c => ?_) (fun c => ?_)
  ·replace h259 := itt h259 c
   try rw [c]
   obtain ⟨x186, h187, h259⟩ := bnd h259
   refine go ?_;intros
   refine c_callg (c := c_ds9) ((⟨a0.b, x184.2⟩ : Rd), g0, g1) H_ds9 h187 fun ch => ?_
   refine go ?_;intros
   cases h259
   replace h : some _ = some _ := h
   cases h
   exact r_endg
  replace h259 := itf h259 c
  try rw [c]
  refine go ?_;intros
  refine w_cond rfl (fun c => ?_) (fun c => ?_)
  ·replace h259 := itt h259 c
   try rw [c]
   obtain ⟨x192, h193, h259⟩ := bnd h259
   refine go ?_;intros
   refine c_callg (c := c_ds9) ((⟨a0.b, x184.2⟩ : Rd), g0, g1) H_ds9 h193 fun ch => ?_
   refine go ?_;intros
   cases h259
   replace h : some _ = some _ := h
   cases h
   exact r_endg
  replace h259 := itf h259 c
  try rw [c]
  obtain ⟨q198, h260, h259⟩ := bnd h259
  refine go ?_;intros
  refine w_cut (fun t o => ∃ b200 c201 b202 c203 b204 b205 c206 b207 c208 b209 b210 c211 b212 c213 b214 b215 c216 b217 c218 b219, Pin t (ovr [(0, .ptr 0 (bs 0).1 290 0 0), (2, .ptr 16 b204 210 0 0), (3, .ptr 24 b209 210 0 0), (4, .ptr 32 b214 210 0 0), (5, .ptr 40 b219 210 0 0), (32, .v (.bool q198))] t) ∧ PinH o (ovh [(0, ⟨(bs 0).1, (bs 0).2, 290, true, [[.rw g0 g1 (List.map eU8 a0.b), .v (.int .i64 x184.2)]]⟩), (1000256, ent b200 c201 115 (List.map (eCommit true) [])), (1000257, ent b202 c203 130 (List.map eHead [])), (16, ⟨b204, 1, 210, true, [[.al 1000256 b200 c201 0 ([] : List Commit).length 115, .al 1000257 b202 c203 0 ([] : List Head).length 130]]⟩), (1000384, ent b205 c206 115 (List.map (eCommit true) [])), (1000385, ent b207 c208 130 (List.map eHead [])), (24, ⟨b209, 1, 210, true, [[.al 1000384 b205 c206 0 ([] : List Commit).length 115, .al 1000385 b207 c208 0 ([] : List Head).length 130]]⟩), (1000512, ent b210 c211 115 (List.map eCommitX x3.1.commits)), (1000513, ent b212 c213 130 (List.map eHead x3.1.heads)), (32, ⟨b214, 1, 210, true, [[.al 1000512 b210 c211 0 x3.1.commits.length 115, .al 1000513 b212 c213 0 x3.1.heads.length 130]]⟩), (1000640, ent b215 c216 115 (List.map eCommitX q78.2.1)), (1000641, ent b217 c218 130 (List.map eHead q78.2.2)), (40, ⟨b219, 1, 210, true, [[.al 1000640 b215 c216 0 q78.2.1.length 115, .al 1000641 b217 c218 0 q78.2.2.length 130]]⟩)] o)) ?_ ?_
  ·refine go ?_;intros
   refine w_cond rfl (fun c => ?_) (fun c => ?_)
   ·replace h260 := itt h260 c
    try rw [c]
    refine go ?_;intros
    cases h260
    exact k_cn ⟨_, _, _, _, _, _, _, _, _, _, _, _, _, _, _, _, _, _, _, _, pin, pinh⟩
   replace h260 := itf h260 c
   try rw [c]
   refine go ?_;intros
   refine w_cond rfl (fun c => ?_) (fun c => ?_)
   ·replace h260 := itt h260 c
    try rw [c]
    refine go ?_;intros
    cases h260
    exact k_cn ⟨_, _, _, _, _, _, _, _, _, _, _, _, _, _, _, _, _, _, _, _, pin, pinh⟩
   replace h260 := itf h260 c
   try rw [c]
   refine go ?_;intros
   cases h260
   exact k_cn ⟨_, _, _, _, _, _, _, _, _, _, _, _, _, _, _, _, _, _, _, _, pin, pinh⟩
  rintro t o ⟨b200, c201, b202, c203, b204, b205, c206, b207, c208, b209, b210, c211, b212, c213, b214, b215, c216, b217, c218, b219, pq1, pq2⟩
  refine pinned pq1 pq2 ?_
  refine go ?_;intros
  refine w_cond rfl (fun c => ?_) (fun c => ?_)
  ·replace h259 := itt h259 c
   try rw [c]
   refine go ?_;intros
   refine r_rawl ?_
   refine go ?_;intros
   refine r_rl rfl rfl ?_
   refine go ?_;intros
   refine r_rawl ?_
   refine go ?_;intros
   refine r_ren ?_
   refine go ?_;intros
   refine r_pfz ?_
   refine go ?_;intros
   refine r_unr ?_
   obtain ⟨x220, h221, h259⟩ := bnd h259
   rcases x220 with ⟨_ | y222, p223⟩
   ·dsimp only at h259
    refine go ?_;intros
    refine c_callg (c := c_dv9) ((⟨a0.b, x184.2⟩ : Rd), x3.1, g0, g1, (hdrA b210), c211, (hdrA b212), c213) H_dv9 h221 fun ch224 => ?_
    refine go ?_;intros
    refine r_un rfl (un_hit rfl rfl (by first | rfl | simp) (un_hit rfl rfl (by first | rfl | simp) un_nil)) ?_
    refine go ?_;intros
    refine r_pz (f := eCommitX) (g := eCommitX) (pf_CommitX _) rfl rfl ?_
    refine go ?_;intros
    refine r_rna rfl (rn_ref (m2 := 2000625) rfl rfl (rn_ref (m2 := 2000626) rfl rfl rn_nil)) ?_
    refine go ?_;intros
    refine r_rl rfl rfl ?_
    refine go ?_;intros
    refine r_pfz ?_
    refine go ?_;intros
    refine r_unr ?_
    obtain ⟨x225, h226, h259⟩ := bnd h259
    rcases x225 with ⟨_ | y227, p228⟩
    ·dsimp only at h259
     refine go ?_;intros
     refine c_callg (c := c_dv9) ((⟨a0.b, p223⟩ : Rd), x3.1, g0, g1, (hdrA b210), c211, (hdrA b212), c213) H_dv9 h226 fun ch229 => ?_
     refine go ?_;intros
     refine r_un rfl (un_hit rfl rfl (by first | rfl | simp) (un_hit rfl rfl (by first | rfl | simp) un_nil)) ?_
     refine go ?_;intros
     refine r_pz (f := eCommitX) (g := eCommitX) (pf_CommitX _) rfl rfl ?_
     refine go ?_;intros
     cases h259
     exact k_cn ⟨_, rfl, _, _, _, _, _, _, _, _, _, _, _, _, _, _, _, _, _, _, _, _, pin, pinh⟩
    dsimp only at h259
    refine go ?_;intros
    refine c_callg (c := c_dv9) ((⟨a0.b, p223⟩ : Rd), x3.1, g0, g1, (hdrA b210), c211, (hdrA b212), c213) H_dv9 h226 fun ch229 => ?_
    refine go ?_;intros
    refine r_un rfl (un_ref (un_ref un_nil)) ?_
    refine go ?_;intros
    refine r_pz (f := (eCommit true)) (g := eCommitX) (pf_Commit _) rfl rfl ?_
    refine go ?_;intros
    cases h259
    exact k_cn ⟨_, rfl, _, _, _, _, _, _, _, _, _, _, _, _, _, _, _, _, _, _, _, _, pin, pinh⟩
   dsimp only at h259
   refine go ?_;intros
   refine c_callg (c := c_dv9) ((⟨a0.b, x184.2⟩ : Rd), x3.1, g0, g1, (hdrA b210), c211, (hdrA b212), c213) H_dv9 h221 fun ch224 => ?_
   refine go ?_;intros
   refine r_un rfl (un_ref (un_ref un_nil)) ?_
   refine go ?_;intros
   refine r_pz (f := (eCommit true)) (g := eCommitX) (pf_Commit _) rfl rfl ?_
   refine go ?_;intros
   refine r_rna rfl (rn_ref (m2 := 2000625) rfl rfl (rn_ref (m2 := 2000626) rfl rfl rn_nil)) ?_
   refine go ?_;intros
   refine r_rl rfl rfl ?_
   refine go ?_;intros
   refine r_pfz ?_
   refine go ?_;intros
   refine r_unr ?_
   obtain ⟨x230, h231, h259⟩ := bnd h259
   rcases x230 with ⟨_ | y232, p233⟩
   ·dsimp only at h259
    refine go ?_;intros
    refine c_callg (c := c_dv9) ((⟨a0.b, p223⟩ : Rd), y222, g0, g1, (hdrA (ch224 0).1), (ch224 0).2, (hdrA (ch224 1).1), (ch224 1).2) H_dv9 h231 fun ch234 => ?_
    refine go ?_;intros
    refine r_un rfl (un_hit rfl rfl (by first | rfl | simp) (un_hit rfl rfl (by first | rfl | simp) un_nil)) ?_
    refine go ?_;intros
    refine r_pz (f := eCommitX) (g := eCommitX) (pf_CommitX _) rfl rfl ?_
    refine go ?_;intros
    cases h259
    exact k_cn ⟨_, rfl, _, _, _, _, _, _, _, _, _, _, _, _, _, _, _, _, _, _, _, _, pin, pinh⟩
   dsimp only at h259
   refine go ?_;intros
   refine c_callg (c := c_dv9) ((⟨a0.b, p223⟩ : Rd), y222, g0, g1, (hdrA (ch224 0).1), (ch224 0).2, (hdrA (ch224 1).1), (ch224 1).2) H_dv9 h231 fun ch234 => ?_
   refine go ?_;intros
   refine r_un rfl (un_ref (un_ref un_nil)) ?_
   refine go ?_;intros
   refine r_pz (f := (eCommit true)) (g := eCommitX) (pf_Commit _) rfl rfl ?_
   refine go ?_;intros
   cases h259
   exact k_cn ⟨_, rfl, _, _, _, _, _, _, _, _, _, _, _, _, _, _, _, _, _, _, _, _, pin, pinh⟩
  replace h259 := itf h259 c
  try rw [c]
  refine go ?_;intros
  cases h259
  exact k_cn ⟨_, rfl, _, _, _, _, _, _, _, _, _, _, _, _, _, _, _, _, _, _, _, _, pin, pinh⟩
 rintro t o ⟨q183, rfl, b235, c236, b237, c238, b239, b240, c241, b242, c243, b244, b246, c247, b249, c250, b251, b252, c253, b254, c255, b256, pq1, pq2⟩
 refine pinned pq1 pq2 ?_
 refine go ?_;intros
 cases h
 exact r_endg
theorem d_as9 {G : Gam}  (a0 : (List Bool)) (a1 : Int) (r : Bool) (h : gf_as9 a0 a1 = some r) : Does G if_as9 ks_as9 (c_as9.args (a0, a1)) [] (c_as9.ans (a0, a1) r) := by
 refine does_pn (L := [(0, .ro (List.map eBool a0)), (1, .rptr [.v (.int .i64 a1)])]) (fun bs => pin) fun bs t o => ?_
 show vwp _ ib_as9 _ _
 unfold ib_as9
 refine w_ir ?_
 unfold gf_as9 at h
 obtain ⟨x1, h2, h⟩ := bnd h
 refine go ?_;intros
 refine r_iro rfl rfl h2 rfl ?_
 refine go ?_;intros
 cases h
 exact r_end
theorem d_bo9 {G : Gam} (H_as9 : Has G c_as9) (a0 : (List (List Bool))) (a1 : Int) (r : Int) (h : gf_bo9 a0 a1 = some r) : Does G if_bn9 ks_bn9 (c_bo9.args (a0, a1)) [] (c_bo9.ans (a0, a1) r) := by
 refine does_pn (L := [(0, .ro (List.map (eSl false 33 eBool) a0)), (1, .fn 322 [.rptr [.v (.int .i64 a1)]])]) (fun bs => pin) fun bs t o => ?_
 show vwp _ ib_bn9 _ _
 unfold ib_bn9
 refine w_ir ?_
 unfold gf_bo9 at h
 obtain ⟨hf24, h⟩ := gd h
 obtain ⟨q14, h27, h⟩ := bnd h
 refine go ?_;intros
 refine w_last (fun t o => ∃ q14_, q14 = .inr q14_ ∧ Pin t (ovr [] t) ∧ PinH o (ovh [] o)) ?_ ?_
 ·refine w_loop2 (fun n t o => ∃ l18 k16  , gl_bo9_1 a1 l18 k16  = some q14 ∧ n = l18.length ∧ (a0).drop k16 = l18 ∧ Pin t (ovr [(0, .ro (List.map (eSl false 33 eBool) a0)), (1, .fn 322 [.rptr [.v (.int .i64 a1)]]), (7, .v (.int .i64 (a0.length : Int))), (8, .v (.int .i64 (k16 : Int)))] t) ∧ PinH o (ovh [] o)) _ ⟨_, _, h27, rfl, rfl, pin, pinh⟩ ?_
  rintro n t o ⟨l18, k16, h27, rfl, hd19, pq1, pq2⟩
  refine pinned pq1 pq2 ?_
  cases l18 with
  | nil =>
   have hge21 := drop_ge hd19
   rw [gl_bo9_1] at h27
   refine go ?_;intros
   rw [hge21]
   refine go ?_;intros
   cases h27
   exact k_cn ⟨_, rfl, pin, pinh⟩
  | cons x17 l18 =>
   have hlt20 := drop_lt hd19
   have hx22 := drop_ix hd19
   have hw23 := drop_wr hd19 hf24
   rw [gl_bo9_1] at h27
   refine go ?_;intros
   rw [hlt20]
   refine go ?_;intros
   refine r_iro rfl rfl hx22 rfl ?_
   obtain ⟨x25, h26, h27⟩ := bnd h27
   refine go ?_;intros
   refine c_calld (c := c_as9) (x17, a1) H_as9 h26 fun ch => ?_
   refine go ?_;intros
   refine w_cond rfl (fun c => ?_) (fun c => ?_)
   ·replace h27 := itt h27 c
    try rw [c]
    refine go ?_;intros
    cases h27
    replace h : some _ = some _ := h
    cases h
    exact r_end
   replace h27 := itf h27 c
   try rw [c]
   refine go ?_;intros
   rw [hw23]
   exact k_ln2 _ (Nat.lt_succ_self _) ⟨_, _, h27, rfl, drop_next hd19, pin, pinh⟩
 rintro t o ⟨q14, rfl, pq1, pq2⟩
 refine pinnedQ pq1 pq2 ?_
 refine go ?_;intros
 cases h
 exact r_end
theorem d_ar9 {G : Gam} (H_af9 : Has G c_af9) (H_am9 : Has G c_am9) (H_ax9 : Has G c_ax9) (H_bo9 : Has G c_bo9) (a0 : Repo) (a1 : Repo) (a2 : Int) (r : Int) (h : gf_ar9 a0 a1 a2 = some r) : Does G if_ar9 ks_ar9 (c_ar9.args (a0, a1, a2)) [] (c_ar9.ans (a0, a1, a2) r) := by
 refine does_pn (L := [(0, .agg [.ro (List.map (eCommit false) a0.commits), .ro (List.map eHead a0.heads)]), (1, .agg [.ro (List.map (eCommit false) a1.commits), .ro (List.map eHead a1.heads)]), (2, .v (.int .i64 a2))]) (fun bs => pin) fun bs t o => ?_
 show vwp _ ib_ar9 _ _
 unfold ib_ar9
 refine w_ir ?_
 unfold gf_ar9 at h
 obtain ⟨x4, h5, h⟩ := bnd h
 refine go ?_;intros
 refine c_call (c := c_af9) (a0) H_af9 h5 fun ch => ?_
 refine go ?_;intros
 refine s_split rfl (fun c => ?_) (fun c => ?_)
 ·replace h := itt h c
  rw [c]
  refine go ?_;intros
  cases h
  exact r_end
 replace h := itf h c
 rw [c]
 obtain ⟨x6, h7, h⟩ := bnd h
 refine go ?_;intros
 refine c_call (c := c_af9) (a1) H_af9 h7 fun ch => ?_
 refine go ?_;intros
 refine s_split rfl (fun c => ?_) (fun c => ?_)
 ·replace h := itt h c
  rw [c]
  refine go ?_;intros
  cases h
  exact r_end
 replace h := itf h c
 rw [c]
 obtain ⟨x8, h9, h⟩ := bnd h
 refine go ?_;intros
 refine c_call (c := c_am9) (a1, a2) H_am9 h9 fun ch => ?_
 refine go ?_;intros
 refine w_cond rfl (fun c => ?_) (fun c => ?_)
 ·replace h := itt h c
  try rw [c]
  refine go ?_;intros
  cases h
  exact r_end
 replace h := itf h c
 try rw [c]
 obtain ⟨x10, h11, h⟩ := bnd h
 refine go ?_;intros
 refine c_call (c := c_ax9) (a0, a1) H_ax9 h11 fun ch => ?_
 obtain ⟨x14, h15, h⟩ := bnd h
 refine go ?_;intros
 refine c_call (c := c_bo9) (x10, a2) H_bo9 h15 fun ch => ?_
 refine go ?_;intros
 cases h
 exact r_end
theorem d_ck9 {G : Gam} (H_cl9 : Has G (c_cl9 rounds)) (a0 : Repo) (a1 : Repo) (a2 : Int) (r : Int) (h : gf_ck9 a0 a1 a2 = some r) : Does G if_ck9 ks_ck9 (c_ck9.args (a0, a1, a2)) [] (c_ck9.ans (a0, a1, a2) r) := by
 refine does_pn (L := [(0, .agg [.ro (List.map (eCommit false) a0.commits), .ro (List.map eHead a0.heads)]), (1, .agg [.ro (List.map (eCommit false) a1.commits), .ro (List.map eHead a1.heads)]), (2, .v (.int .i64 a2))]) (fun bs => pin) fun bs t o => ?_
 show vwp _ ib_ck9 _ _
 unfold ib_ck9
 refine w_ir ?_
 unfold gf_ck9 at h
 obtain ⟨hf26, h⟩ := gd h
 obtain ⟨q14, h29, h⟩ := bnd h
 refine go ?_;intros
 refine w_last (fun t o => ∃ q14_, q14 = .inr q14_ ∧ Pin t (ovr [] t) ∧ PinH o (ovh [] o)) ?_ ?_
 ·refine w_loop2 (fun n t o => ∃ l20 k18  b16 b17, gl_ck9_1 a0 a1 a2 l20 k18  = some q14 ∧ n = l20.length ∧ (a0.commits).drop k18 = l20 ∧ Pin t (ovr [(2, .v (.int .i64 a2)), (3, .ptr 24 b16 210 0 0), (4, .ptr 32 b17 210 0 0), (7, .v (.int .i64 (k18 : Int)))] t) ∧ PinH o (ovh [(24, ⟨b16, 1, 210, true, [[.sl false 3 (List.map (eCommit false) a0.commits), .sl false 2 (List.map eHead a0.heads)]]⟩), (32, ⟨b17, 1, 210, true, [[.sl false 3 (List.map (eCommit false) a1.commits), .sl false 2 (List.map eHead a1.heads)]]⟩)] o)) _ ⟨_, _, _, _, h29, rfl, rfl, pin, pinh⟩ ?_
  rintro n t o ⟨l20, k18, b16, b17, h29, rfl, hd21, pq1, pq2⟩
  refine pinned pq1 pq2 ?_
  cases l20 with
  | nil =>
   have hge23 := drop_ge hd21
   rw [gl_ck9_1] at h29
   refine go ?_;intros
   rw [hge23]
   refine go ?_;intros
   cases h29
   exact k_cn ⟨_, rfl, pin, pinh⟩
  | cons x19 l20 =>
   have hlt22 := drop_lt hd21
   have hx24 := drop_ix hd21
   have hw25 := drop_wr hd21 hf26
   rw [gl_ck9_1] at h29
   refine go ?_;intros
   rw [hlt22]
   obtain ⟨x27, h28, h29⟩ := bnd h29
   refine go ?_;intros
   refine c_call (c := (c_cl9 rounds)) (a0, (k18 : Int), a1, a2) H_cl9 h28 fun ch => ?_
   refine go ?_;intros
   refine w_cond rfl (fun c => ?_) (fun c => ?_)
   ·replace h29 := itt h29 c
    try rw [c]
    refine go ?_;intros
    cases h29
    replace h : some _ = some _ := h
    cases h
    exact r_end
   replace h29 := itf h29 c
   try rw [c]
   refine go ?_;intros
   rw [hw25]
   exact k_ln2 _ (Nat.lt_succ_self _) ⟨_, _, _, _, h29, rfl, drop_next hd21, pin, pinh⟩
 rintro t o ⟨q14, rfl, pq1, pq2⟩
 refine pinnedQ pq1 pq2 ?_
 refine go ?_;intros
 cases h
 exact r_end
theorem d_bz9 {G : Gam} (H_dw9 : Has G c_dw9) (H_cc9 : Has G c_cc9) (a0 : Repo) (a1 : Str) (r : Int) (h : gf_bz9 a0 a1 = some r) : Does G if_bz9 ks_bz9 (c_bz9.args (a0, a1)) [] (c_bz9.ans (a0, a1) r) := by
 refine does_pn (L := [(0, .agg [.ro (List.map (eCommit false) a0.commits), .ro (List.map eHead a0.heads)]), (1, .v (.string a1))]) (fun bs => pin) fun bs t o => ?_
 show vwp _ ib_bz9 _ _
 unfold ib_bz9
 refine w_ir ?_
 unfold gf_bz9 at h
 obtain ⟨x2, h3, h⟩ := bnd h
 refine go ?_;intros
 refine c_call (c := c_dw9) (a0, a1) H_dw9 h3 fun ch => ?_
 obtain ⟨x4, h5, h⟩ := bnd h
 refine go ?_;intros
 refine c_call (c := c_cc9) (a0) H_cc9 h5 fun ch => ?_
 refine go ?_;intros
 refine s_split rfl (fun c => ?_) (fun c => ?_)
 ·replace h := itt h c
  rw [c]
  refine go ?_;intros
  cases h
  exact r_end
 replace h := itf h c
 rw [c]
 refine go ?_;intros
 refine w_cond rfl (fun c => ?_) (fun c => ?_)
 ·replace h := itt h c
  try rw [c]
  refine go ?_;intros
  cases h
  exact r_end
 replace h := itf h c
 try rw [c]
 obtain ⟨x6, h7, h⟩ := bnd h
 refine go ?_;intros
 refine r_iro rfl rfl h7 rfl ?_
 refine go ?_;intros
 cases h
 exact r_end
theorem d_ac9 {G : Gam} (H_af9 : Has G c_af9) (H_ap9 : Has G c_ap9) (H_aw9 : Has G c_aw9) (H_ba9 : Has G c_ba9) (H_ai9 : Has G c_ai9) (H_aq9 : Has G c_aq9) (H_al9 : Has G c_al9) (a0 : Repo) (a1 : Str) (a2 : (List Feat)) (a3 : Str) (r : (Repo × Int)) (h : gf_ac9 a0 a1 a2 a3 = some r) : Does G if_ac9 ks_ac9 (c_ac9.args (a0, a1, a2, a3)) [] (c_ac9.ans (a0, a1, a2, a3) r) := by
 refine does_pn (L := [(0, .agg [.ro (List.map (eCommit false) a0.commits), .ro (List.map eHead a0.heads)]), (1, .v (.string a1)), (2, .ro (List.map (eFeat false) a2)), (3, .v (.string a3))]) (fun bs => pin) fun bs t o => ?_
 show vwp _ ib_ac9 _ _
 unfold ib_ac9
 refine w_ir ?_
 unfold gf_ac9 at h
 obtain ⟨x3, h4, h⟩ := bnd h
 refine go ?_;intros
 refine c_call (c := c_af9) (a0) H_af9 h4 fun ch => ?_
 refine go ?_;intros
 refine s_split rfl (fun c => ?_) (fun c => ?_)
 ·replace h := itt h c
  rw [c]
  refine go ?_;intros
  cases h
  exact r_end
 replace h := itf h c
 rw [c]
 obtain ⟨x5, h6, h⟩ := bnd h
 refine go ?_;intros
 refine c_call (c := c_ap9) (a2) H_ap9 h6 fun ch => ?_
 refine go ?_;intros
 refine s_split rfl (fun c => ?_) (fun c => ?_)
 ·replace h := itt h c
  rw [c]
  refine go ?_;intros
  cases h
  exact r_end
 replace h := itf h c
 rw [c]
 obtain ⟨x7, h8, h⟩ := bnd h
 refine go ?_;intros
 refine c_call (c := c_aw9) (a3) H_aw9 h8 fun ch => ?_
 refine go ?_;intros
 refine w_cond rfl (fun c => ?_) (fun c => ?_)
 ·replace h := itt h c
  try rw [c]
  refine go ?_;intros
  cases h
  exact r_end
 replace h := itf h c
 try rw [c]
 obtain ⟨q9, h49, h⟩ := bnd h
 refine go ?_;intros
 refine w_cut (fun t o => ∃ b17 b18 c19 b20 c21 b22 b24 c25 b27 c28 b29, Pin t (ovr [(1, .v (.string a1)), (2, .ro (List.map (eFeat false) a2)), (3, .v (.string a3)), (4, .ptr 32 b17 210 0 0), (8, .ptr 64 b22 210 0 0), (10, .ptr 80 b29 210 0 0)] t) ∧ PinH o (ovh [(32, ⟨b17, 1, 210, true, [[.sl false 3 (List.map (eCommit false) a0.commits), .sl false 2 (List.map eHead a0.heads)]]⟩), (1001024, ent b18 c19 115 (List.map (eCommit true) [])), (1001025, ent b20 c21 130 (List.map eHead [])), (64, ⟨b22, 1, 210, true, [[.al 1001024 b18 c19 0 ([] : List Commit).length 115, .al 1001025 b20 c21 0 ([] : List Head).length 130]]⟩), (1001280, ent b24 c25 115 (List.map (eCommit true) q9.1)), (1001281, ent b27 c28 130 (List.map eHead q9.2)), (80, ⟨b29, 1, 210, true, [[.al 1001280 b24 c25 0 q9.1.length 115, .al 1001281 b27 c28 0 q9.2.length 130]]⟩)] o)) ?_ ?_
 ·obtain ⟨x10, h11, h49⟩ := bnd h49
  refine go ?_;intros
  refine c_call (c := c_ba9) (a0) H_ba9 h11 fun ch => ?_
  refine go ?_;intros
  cases h49
  exact k_cn ⟨_, _, _, _, _, _, _, _, _, _, _, pin, pinh⟩
 rintro t o ⟨b17, b18, c19, b20, c21, b22, b24, c25, b27, c28, b29, pq1, pq2⟩
 refine pinned pq1 pq2 ?_
 obtain ⟨x30, h31, h⟩ := bnd h
 refine go ?_;intros
 refine c_call (c := c_ai9) (a0, a1) H_ai9 h31 fun ch => ?_
 refine go ?_;intros
 refine w_cond rfl (fun c => ?_) (fun c => ?_)
 ·replace h := itt h c
  try rw [c]
  refine go ?_;intros
  cases h
  exact r_end
 replace h := itf h c
 try rw [c]
 obtain ⟨x32, h33, h⟩ := bnd h
 refine go ?_;intros
 refine r_iro rfl rfl h33 rfl ?_
 obtain ⟨x34, h35, h⟩ := bnd h
 refine go ?_;intros
 refine r_iro rfl rfl h35 rfl ?_
 obtain ⟨x36, h37, h⟩ := bnd h
 refine go ?_;intros
 refine c_call (c := c_aq9) (x34.sheet, a2) H_aq9 h37 fun ch => ?_
 refine go ?_;intros
 refine w_cond rfl (fun c => ?_) (fun c => ?_)
 ·replace h := itt h c
  try rw [c]
  refine go ?_;intros
  cases h
  exact r_end
 replace h := itf h c
 try rw [c]
 obtain ⟨x39, h40, h⟩ := bnd h
 refine go ?_;intros
 refine c_callg (c := c_al9) ((⟨q9.1, q9.2⟩ : Repo), x30, (⟨[x32.at_], a2, a3⟩ : Commit)) H_al9 h40 fun ch => ?_
 refine go ?_;intros
 refine w_cond rfl (fun c => ?_) (fun c => ?_)
 ·replace h := itt h c
  try rw [c]
  refine go ?_;intros
  simp only [List.length_map]
  refine go ?_;intros
  cases h
  exact r_end
 replace h := itf h c
 try rw [c]
 refine go ?_;intros
 simp only [List.length_map]
 refine go ?_;intros
 cases h
 exact r_end
theorem d_ad9 {G : Gam} (H_af9 : Has G c_af9) (H_am9 : Has G c_am9) (H_ak9 : Has G c_ak9) (a0 : Repo) (a1 : Int) (a2 : Int) (r : Bool) (h : gf_ad9 a0 a1 a2 = some r) : Does G if_ad9 ks_ad9 (c_ad9.args (a0, a1, a2)) [] (c_ad9.ans (a0, a1, a2) r) := by
 refine does_pn (L := [(0, .agg [.ro (List.map (eCommit false) a0.commits), .ro (List.map eHead a0.heads)]), (1, .v (.int .i64 a1)), (2, .v (.int .i64 a2))]) (fun bs => pin) fun bs t o => ?_
 show vwp _ ib_ad9 _ _
 unfold ib_ad9
 refine w_ir ?_
 unfold gf_ad9 at h
 obtain ⟨x2, h3, h⟩ := bnd h
 refine go ?_;intros
 refine c_call (c := c_af9) (a0) H_af9 h3 fun ch => ?_
 refine go ?_;intros
 refine s_split rfl (fun c => ?_) (fun c => ?_)
 ·replace h := itt h c
  rw [c]
  obtain ⟨x4, h5, h⟩ := bnd h
  refine go ?_;intros
  refine c_call (c := c_am9) (a0, a1) H_am9 h5 fun ch => ?_
  refine go ?_;intros
  refine s_split rfl (fun c => ?_) (fun c => ?_)
  ·replace h := itt h c
   rw [c]
   obtain ⟨x6, h7, h⟩ := bnd h
   refine go ?_;intros
   refine c_call (c := c_am9) (a0, a2) H_am9 h7 fun ch => ?_
   refine go ?_;intros
   refine s_split rfl (fun c => ?_) (fun c => ?_)
   ·replace h := itt h c
    rw [c]
    obtain ⟨x8, h9, h⟩ := bnd h
    refine go ?_;intros
    refine c_call (c := c_ak9) (a0, a2) H_ak9 h9 fun ch => ?_
    obtain ⟨x12, h13, h⟩ := bnd h
    refine go ?_;intros
    refine r_ire (xs := x8) rfl rfl h13 rfl ?_
    refine go ?_;intros
    refine r_lde (f := eBool) (xs := x8) (x := x12) rfl rfl (idx_get h13).2 rfl rfl rfl ?_
    refine go ?_;intros
    cases h
    exact r_end
   replace h := itf h c
   rw [c]
   refine go ?_;intros
   cases h
   exact r_end
  replace h := itf h c
  rw [c]
  refine go ?_;intros
  cases h
  exact r_end
 replace h := itf h c
 rw [c]
 refine go ?_;intros
 cases h
 exact r_end
end Go.Proofs.AM
