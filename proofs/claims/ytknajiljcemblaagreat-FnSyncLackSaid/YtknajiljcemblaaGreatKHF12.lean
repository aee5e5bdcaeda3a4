/- Lemmas of the proof (KHF12), on an abstract machine. Conditions: none. -/
import Derived.Test.YtknajiljcemblaaGreatKHD
set_option linter.unusedVariables false
set_option linter.unusedSimpArgs false
set_option maxRecDepth 100000
set_option maxHeartbeats 4000000
namespace Go.Proofs.AM
attribute [local irreducible] vwp vstps vstpLs vstp vdo vret kseq kblk kloop kend kcut kloop2 frzV renV shutK pfzV trnV unrV
theorem d_dk9 {G : Gam} (H_cm9 : Has G c_cm9) (H_cy9 : Has G c_cy9) (H_cx9 : Has G c_cx9) (H_dj9 : Has G c_dj9) (a0 : Rd) (g0 : Option Addr) (g1 : Nat) (r : ((List Feat) × Int)) (h : gf_dk9 a0 = some r) : Does G if_dk9 ks_dk9 (c_dk9.args (a0, g0, g1)) (c_dk9.ins (a0, g0, g1)) (c_dk9.ans (a0, g0, g1) r) := by
 refine does_pg (L := fun bs => [(0, .ptr 0 (bs 0).1 290 0 0)]) (H := fun bs => [(0, ⟨(bs 0).1, (bs 0).2, 290, true, [[.rw g0 g1 (List.map eU8 a0.b), .v (.int .i64 a0.p)]]⟩)]) (fun bs => pin) (fun bs => pinh) fun bs t o => ?_
 show vwp _ ib_dk9 _ _
 unfold ib_dk9
 refine w_ir ?_
 unfold gf_dk9 at h
 refine go ?_;intros
 refine r_ren ?_
 refine go ?_;intros
 refine r_rn rfl rfl ?_
 obtain ⟨x2, h3, h⟩ := bnd h
 refine go ?_;intros
 refine c_callg (c := c_cm9) (a0, 5, g0, g1) H_cm9 h3 fun ch => ?_
 obtain ⟨q47, h70, h⟩ := bnd h
 refine go ?_;intros
 refine w_last (fun t o => ∃ b67 c68, Pin t (ovr [(3, .ref 2000003 b67 c68 0 q47.1.length 100)] t) ∧ PinH o (ovh [(2000003, ent b67 c68 100 (List.map (eFeat false) q47.1)), (0, ⟨(bs 0).1, (bs 0).2, 290, true, [[.rw g0 g1 (List.map eU8 a0.b), .v (.int .i64 q47.2)]]⟩)] o)) ?_ ?_
 ·refine w_loop2 (fun n t o => ∃ n53 v48 v49 v50 b51 c52, gl_dk9_1 a0 n53 v48 v49 v50 = some q47 ∧ n53 = n ∧ Pin t (ovr [(0, .ptr 0 (bs 0).1 290 0 0), (3, .ref 2000003 b51 c52 0 v50.length 100), (4, .v (.int .i64 v48))] t) ∧ PinH o (ovh [(0, ⟨(bs 0).1, (bs 0).2, 290, true, [[.rw g0 g1 (List.map eU8 a0.b), .v (.int .i64 v49)]]⟩), (2000003, ent b51 c52 100 (List.map (eFeat false) v50))] o)) _ ⟨_, _, _, _, _, _, h70, rfl, pin, pinh⟩ ?_
  rintro n t o ⟨n53, v48, v49, v50, b51, c52, h70, rfl, pq1, pq2⟩
  refine pinned pq1 pq2 ?_
  cases n53 with
  | zero => rw [gl_dk9_1] at h70; cases h70
  | succ n53 =>
   rw [gl_dk9_1] at h70
   refine go ?_;intros
   refine w_cond rfl (fun c => ?_) (fun c => ?_)
   ·replace h70 := itt h70 c
    try rw [c]
    obtain ⟨x54, h55, h70⟩ := bnd h70
    refine go ?_;intros
    refine c_callg (c := c_cy9) ((⟨a0.b, v49⟩ : Rd), g0, g1) H_cy9 h55 fun ch => ?_
    refine go ?_;intros
    refine r_frz ?_
    obtain ⟨x56, h57, h70⟩ := bnd h70
    refine go ?_;intros
    refine c_callg (c := c_cx9) ((⟨a0.b, x54.2⟩ : Rd), x54.1, g0, g1) H_cx9 h57 fun ch => ?_
    refine go ?_;intros
    refine c_fz ?_
    obtain ⟨x62, h63, h70⟩ := bnd h70
    refine go ?_;intros
    refine c_callg (c := c_dj9) (v50, x56.1) H_dj9 h63 fun ch => ?_
    refine go ?_;intros
    refine r_ren ?_
    refine go ?_;intros
    refine r_rn rfl rfl ?_
    refine go ?_;intros
    exact k_ln2 _ (Nat.lt_succ_self _) ⟨_, _, _, _, _, _, h70, rfl, pin, pinh⟩
   replace h70 := itf h70 c
   try rw [c]
   refine go ?_;intros
   cases h70
   exact k_cn ⟨_, _, pin, pinh⟩
 rintro t o ⟨b67, c68, pq1, pq2⟩
 refine pinnedQ pq1 pq2 ?_
 refine go ?_;intros
 cases h
 exact r_endg
theorem d_de9 {G : Gam} (H_dk9 : Has G c_dk9) (H_cm9 : Has G c_cm9) (H_cv9 : Has G c_cv9) (H_dj9 : Has G c_dj9) (a0 : Rd) (g0 : Option Addr) (g1 : Nat) (r : ((List Feat) × Int)) (h : gf_de9 a0 = some r) : Does G if_de9 ks_de9 (c_de9.args (a0, g0, g1)) (c_de9.ins (a0, g0, g1)) (c_de9.ans (a0, g0, g1) r) := by
 refine does_pg (L := fun bs => [(0, .ptr 0 (bs 0).1 290 0 0)]) (H := fun bs => [(0, ⟨(bs 0).1, (bs 0).2, 290, true, [[.rw g0 g1 (List.map eU8 a0.b), .v (.int .i64 a0.p)]]⟩)]) (fun bs => pin) (fun bs => pinh) fun bs t o => ?_
 show vwp _ ib_de9 _ _
 unfold ib_de9
 refine w_ir ?_
 unfold gf_de9 at h
 obtain ⟨x1, h2, h⟩ := bnd h
 refine go ?_;intros
 refine c_callg (c := c_dk9) (a0, g0, g1) H_dk9 h2 fun ch => ?_
 refine go ?_;intros
 refine r_ren ?_
 refine go ?_;intros
 refine r_rn rfl rfl ?_
 obtain ⟨x5, h6, h⟩ := bnd h
 refine go ?_;intros
 refine c_callg (c := c_cm9) ((⟨a0.b, x1.2⟩ : Rd), 40, g0, g1) H_cm9 h6 fun ch => ?_
 refine go ?_;intros
 refine w_cond rfl (fun c => ?_) (fun c => ?_)
 ·replace h := itt h c
  try rw [c]
  refine go ?_;intros
  refine r_frz ?_
  obtain ⟨x7, h8, h⟩ := bnd h
  refine go ?_;intros
  refine c_callg (c := c_cv9) ((⟨a0.b, x5.2⟩ : Rd), g0, g1) H_cv9 h8 fun ch => ?_
  refine go ?_;intros
  refine c_fz ?_
  obtain ⟨h16, h⟩ := gd h
  refine go ?_;intros
  refine r_app (f := (eFeat false)) (xs := x1.1) (ys := ([x7.1] : (List Feat))) rfl (src_mv rfl rfl (by first | rfl | simp)) rfl rfl (by first | rfl | simp) h16 fun b14 c15 => ?_
  refine go ?_;intros
  refine r_ren ?_
  refine go ?_;intros
  refine r_rn rfl rfl ?_
  refine go ?_;intros
  cases h
  exact r_endg
 replace h := itf h c
 try rw [c]
 refine go ?_;intros
 refine w_cond rfl (fun c => ?_) (fun c => ?_)
 ·replace h := itt h c
  try rw [c]
  obtain ⟨h19, h⟩ := gd h
  refine go ?_;intros
  refine r_app (f := (eFeat false)) (xs := x1.1) (ys := x1.1) rfl (src_cp (f := (eFeat false)) rfl (by first | rfl | simp) (fun _ => rfl)) rfl rfl (by first | rfl | simp) h19 fun b17 c18 => ?_
  refine go ?_;intros
  cases h
  exact r_endg
 replace h := itf h c
 try rw [c]
 refine go ?_;intros
 refine w_cond rfl (fun c => ?_) (fun c => ?_)
 ·replace h := itt h c
  try rw [c]
  obtain ⟨q47, h63, h⟩ := bnd h
  refine go ?_;intros
  refine w_last (fun t o => ∃ b61 c62, Pin t (ovr [(3, .ref 2000003 b61 c62 0 q47.length 100)] t) ∧ PinH o (ovh [(2000003, ent b61 c62 100 (List.map (eFeat false) q47)), (0, ⟨(bs 0).1, (bs 0).2, 290, true, [[.rw g0 g1 (List.map eU8 a0.b), .v (.int .i64 x5.2)]]⟩)] o)) ?_ ?_
  ·refine w_loop2 (fun n t o => ∃ n52 v48 v49 b50 c51, gl_de9_1 n52 v48 v49 = some q47 ∧ n52 = n ∧ Pin t (ovr [(3, .ref 2000003 b50 c51 0 v49.length 100), (4, .v (.int .i64 v48))] t) ∧ PinH o (ovh [(2000003, ent b50 c51 100 (List.map (eFeat false) v49)), (0, ⟨(bs 0).1, (bs 0).2, 290, true, [[.rw g0 g1 (List.map eU8 a0.b), .v (.int .i64 x5.2)]]⟩)] o)) _ ⟨_, _, _, _, _, h63, rfl, pin, pinh⟩ ?_
   rintro n t o ⟨n52, v48, v49, b50, c51, h63, rfl, pq1, pq2⟩
   refine pinned pq1 pq2 ?_
   cases n52 with
   | zero => rw [gl_de9_1] at h63; cases h63
   | succ n52 =>
    rw [gl_de9_1] at h63
    refine go ?_;intros
    refine w_cond rfl (fun c => ?_) (fun c => ?_)
    ·replace h63 := itt h63 c
     try rw [c]
     obtain ⟨x53, h54, h63⟩ := bnd h63
     refine go ?_;intros
     refine r_ssl rfl rfl rfl h54 ?_
     refine go ?_;intros
     refine r_frz ?_
     refine go ?_;intros
     refine c_fz (h := (fz_agg (fzs_cons fz_v (fzs_cons fz_v (fzs_cons (fz_ref (f := ePt) (g := ePt) (xs := ([(⟨0, 0⟩ : Pt)] : (List Pt))) rfl er_Pt (by first | rfl | simp)) (fzs_cons fz_nil fzs_nil)))))) ?_
     obtain ⟨x56, h57, h63⟩ := bnd h63
     refine go ?_;intros
     refine c_callg (c := c_dj9) (v49, (⟨x53, ⟨1, [(⟨0, 0⟩ : Pt)]⟩, []⟩ : Feat)) H_dj9 h57 fun ch => ?_
     refine go ?_;intros
     refine r_ren ?_
     refine go ?_;intros
     refine r_rn rfl rfl ?_
     refine go ?_;intros
     exact k_ln2 _ (Nat.lt_succ_self _) ⟨_, _, _, _, _, h63, rfl, pin, pinh⟩
    replace h63 := itf h63 c
    try rw [c]
    refine go ?_;intros
    cases h63
    exact k_cn ⟨_, _, pin, pinh⟩
  rintro t o ⟨b61, c62, pq1, pq2⟩
  refine pinnedQ pq1 pq2 ?_
  refine go ?_;intros
  cases h
  exact r_endg
 replace h := itf h c
 try rw [c]
 refine go ?_;intros
 cases h
 exact r_endg
theorem d_by9 {G : Gam} (H_cf9 : Has G c_cf9) (a0 : Str) (r : (Repo × Bool)) (h : gf_by9 a0 = some r) : Does G if_by9 ks_by9 (c_by9.args (a0)) [] (c_by9.ans (a0) r) := by
 refine does_pn (L := [(0, .v (.string a0))]) (fun bs => pin) fun bs t o => ?_
 show vwp _ ib_by9 _ _
 unfold ib_by9
 refine w_ir ?_
 unfold gf_by9 at h
 obtain ⟨x2, h3, h⟩ := bnd h
 refine go ?_;intros
 refine c_call (c := c_cf9) (a0) H_cf9 h3 fun ch => ?_
 refine go ?_;intros
 refine w_cond rfl (fun c => ?_) (fun c => ?_)
 ·replace h := itt h c
  try rw [c]
  refine go ?_;intros
  cases h
  exact r_end
 replace h := itf h c
 try rw [c]
 refine go ?_;intros
 cases h
 exact r_end
theorem d_bx9 {G : Gam} (H_bz9 : Has G c_bz9) (H_cf9 : Has G c_cf9) (H_dp9 : Has G c_dp9) (H_ds9 : Has G c_ds9) (a0 : Repo) (a1 : Str) (a2 : Str) (r : (Repo × Int)) (h : gf_bx9 a0 a1 a2 = some r) : Does G if_bx9 ks_bx9 (c_bx9.args (a0, a1, a2)) [] (c_bx9.ans (a0, a1, a2) r) := by
 refine does_pn (L := [(0, .agg [.ro (List.map (eCommit false) a0.commits), .ro (List.map eHead a0.heads)]), (1, .v (.string a1)), (2, .v (.string a2))]) (fun bs => pin) fun bs t o => ?_
 show vwp _ ib_bx9 _ _
 unfold ib_bx9
 refine w_ir ?_
 unfold gf_bx9 at h
 obtain ⟨x3, h4, h⟩ := bnd h
 refine go ?_;intros
 refine c_call (c := c_bz9) (a0) H_bz9 h4 fun ch => ?_
 refine go ?_;intros
 refine s_split rfl (fun c => ?_) (fun c => ?_)
 ·replace h := itt h c
  rw [c]
  refine go ?_;intros
  cases h
  exact r_end
 replace h := itf h c
 rw [c]
 obtain ⟨x5, h6, h⟩ := bnd h
 refine go ?_;intros
 refine c_call (c := c_cf9) (a1) H_cf9 h6 fun ch => ?_
 refine go ?_;intros
 refine w_cond rfl (fun c => ?_) (fun c => ?_)
 ·replace h := itt h c
  try rw [c]
  refine go ?_;intros
  cases h
  exact r_end
 replace h := itf h c
 try rw [c]
 obtain ⟨q7, h38, h⟩ := bnd h
 refine go ?_;intros
 refine w_cut (fun t o => ∃ b15 b16 c17 b18 c19 b20 b22 c23 b25 c26 b27, Pin t (ovr [(1, .v (.string a1)), (2, .v (.string a2)), (3, .ptr 24 b15 210 0 0), (6, .ptr 48 b20 210 0 0), (8, .ptr 64 b27 210 0 0)] t) ∧ PinH o (ovh [(24, ⟨b15, 1, 210, true, [[.sl false 3 (List.map (eCommit false) a0.commits), .sl false 2 (List.map eHead a0.heads)]]⟩), (1000768, ent b16 c17 115 (List.map (eCommit true) [])), (1000769, ent b18 c19 130 (List.map eHead [])), (48, ⟨b20, 1, 210, true, [[.al 1000768 b16 c17 0 ([] : List Commit).length 115, .al 1000769 b18 c19 0 ([] : List Head).length 130]]⟩), (1001024, ent b22 c23 115 (List.map (eCommit true) q7.1)), (1001025, ent b25 c26 130 (List.map eHead q7.2)), (64, ⟨b27, 1, 210, true, [[.al 1001024 b22 c23 0 q7.1.length 115, .al 1001025 b25 c26 0 q7.2.length 130]]⟩)] o)) ?_ ?_
 ·obtain ⟨x8, h9, h38⟩ := bnd h38
  refine go ?_;intros
  refine c_call (c := c_dp9) (a0) H_dp9 h9 fun ch => ?_
  refine go ?_;intros
  cases h38
  exact k_cn ⟨_, _, _, _, _, _, _, _, _, _, _, pin, pinh⟩
 rintro t o ⟨b15, b16, c17, b18, c19, b20, b22, c23, b25, c26, b27, pq1, pq2⟩
 refine pinned pq1 pq2 ?_
 obtain ⟨x28, h29, h⟩ := bnd h
 refine go ?_;intros
 refine c_call (c := c_ds9) (a0, a2) H_ds9 h29 fun ch => ?_
 refine go ?_;intros
 refine w_cond rfl (fun c => ?_) (fun c => ?_)
 ·replace h := itt h c
  try rw [c]
  refine go ?_;intros
  cases h
  exact r_end
 replace h := itf h c
 try rw [c]
 obtain ⟨x30, h31, h⟩ := bnd h
 refine go ?_;intros
 refine c_call (c := c_ds9) (a0, a1) H_ds9 h31 fun ch => ?_
 refine go ?_;intros
 refine s_split rfl (fun c => ?_) (fun c => ?_)
 ·replace h := itt h c
  rw [c]
  refine go ?_;intros
  cases h
  exact r_end
 replace h := itf h c
 rw [c]
 refine go ?_;intros
 refine w_cond rfl (fun c => ?_) (fun c => ?_)
 ·replace h := itt h (by first | exact c | (have c2 := c; simp only [List.length_map] at c2; exact c2))
  try rw [c]
  refine go ?_;intros
  cases h
  exact r_end
 replace h := itf h (by first | exact c | (have c2 := c; simp only [List.length_map] at c2; exact c2))
 try rw [c]
 obtain ⟨x32, h33, h⟩ := bnd h
 refine go ?_;intros
 refine r_iro rfl rfl h33 rfl ?_
 obtain ⟨h37, h⟩ := gd h
 refine go ?_;intros
 refine r_app (f := eHead) (xs := q7.2) (ys := ([(⟨a1, x32.at_⟩ : Head)] : (List Head))) rfl (src_mv rfl rfl (by first | rfl | simp)) rfl rfl (by first | rfl | simp) h37 fun b35 c36 => ?_
 refine go ?_;intros
 cases h
 exact r_end
theorem d_dv9 {G : Gam} (H_cl9 : Has G c_cl9) (a0 : Rd) (g0 : Option Addr) (g1 : Nat) (r : (Str × Int)) (h : gf_dv9 a0 = some r) : Does G if_dv9 ks_dv9 (c_dv9.args (a0, g0, g1)) (c_dv9.ins (a0, g0, g1)) (c_dv9.ans (a0, g0, g1) r) := by
 refine does_pg (L := fun bs => [(0, .ptr 0 (bs 0).1 290 0 0)]) (H := fun bs => [(0, ⟨(bs 0).1, (bs 0).2, 290, true, [[.rw g0 g1 (List.map eU8 a0.b), .v (.int .i64 a0.p)]]⟩)]) (fun bs => pin) (fun bs => pinh) fun bs t o => ?_
 show vwp _ ib_dv9 _ _
 unfold ib_dv9
 refine w_ir ?_
 unfold gf_dv9 at h
 obtain ⟨x2, h3, h⟩ := bnd h
 refine go ?_;intros
 refine c_callg (c := c_cl9) (a0, ([(⟨#[109, 97, 105, 110]⟩ : Str), (⟨#[97, 110, 110]⟩ : Str), (⟨#[98, 111, 98]⟩ : Str)] : (List Str)), g0, g1) H_cl9 h3 fun ch => ?_
 refine go ?_;intros
 cases h
 exact r_endg
theorem d_dg9 {G : Gam}  (a0 : (List Feat)) (a1 : Str) (r : (List Feat)) (h : gf_dg9 a0 a1 = some r) : Does G if_dg9 ks_dg9 (c_dg9.args (a0, a1)) [] (c_dg9.ans (a0, a1) r) := by
 refine does_pn (L := [(0, .ro (List.map (eFeat false) a0)), (1, .v (.string a1))]) (fun bs => pin) fun bs t o => ?_
 show vwp _ ib_dg9 _ _
 unfold ib_dg9
 refine w_ir ?_
 unfold gf_dg9 at h
 obtain ⟨hf39, h⟩ := gd h
 obtain ⟨q26, h47, h⟩ := bnd h
 refine go ?_;intros
 refine w_last (fun t o => ∃ b45 c46, Pin t (ovr [(5, .ref 56 b45 c46 0 q26.length 100)] t) ∧ PinH o (ovh [(56, ent b45 c46 100 (List.map (eFeat false) q26))] o)) ?_ ?_
 ·refine w_loop2 (fun n t o => ∃ l33 k31 v28 b29 c30, gl_dg9_1 a1 l33 k31 v28 = some q26 ∧ n = l33.length ∧ (a0).drop k31 = l33 ∧ Pin t (ovr [(0, .ro (List.map (eFeat false) a0)), (1, .v (.string a1)), (5, .ref 56 b29 c30 0 v28.length 100), (6, .v (.int .i64 (k31 : Int)))] t) ∧ PinH o (ovh [(56, ent b29 c30 100 (List.map (eFeat false) v28))] o)) _ ⟨_, _, _, _, _, h47, rfl, rfl, pin, pinh⟩ ?_
  rintro n t o ⟨l33, k31, v28, b29, c30, h47, rfl, hd34, pq1, pq2⟩
  refine pinned pq1 pq2 ?_
  cases l33 with
  | nil =>
   have hge36 := drop_ge hd34
   rw [gl_dg9_1] at h47
   refine go ?_;intros
   rw [hge36]
   refine go ?_;intros
   cases h47
   exact k_cn ⟨_, _, pin, pinh⟩
  | cons x32 l33 =>
   have hlt35 := drop_lt hd34
   have hx37 := drop_ix hd34
   have hw38 := drop_wr hd34 hf39
   rw [gl_dg9_1] at h47
   refine go ?_;intros
   rw [hlt35]
   refine go ?_;intros
   refine r_iro rfl rfl hx37 rfl ?_
   refine go ?_;intros
   refine w_cond rfl (fun c => ?_) (fun c => ?_)
   ·replace h47 := itt h47 c
    try rw [c]
    refine go ?_;intros
    refine r_iro rfl rfl hx37 rfl ?_
    obtain ⟨h43, h47⟩ := gd h47
    refine go ?_;intros
    refine r_app (f := (eFeat false)) (xs := v28) (ys := ([x32] : (List Feat))) rfl (src_mv rfl rfl (by first | rfl | simp)) rfl rfl (by first | rfl | simp) h43 fun b41 c42 => ?_
    refine go ?_;intros
    rw [hw38]
    exact k_ln2 _ (Nat.lt_succ_self _) ⟨_, _, _, _, _, h47, rfl, drop_next hd34, pin, pinh⟩
   replace h47 := itf h47 c
   try rw [c]
   refine go ?_;intros
   rw [hw38]
   exact k_ln2 _ (Nat.lt_succ_self _) ⟨_, _, _, _, _, h47, rfl, drop_next hd34, pin, pinh⟩
 rintro t o ⟨b45, c46, pq1, pq2⟩
 refine pinnedQ pq1 pq2 ?_
 refine go ?_;intros
 cases h
 exact r_end
theorem d_dl9 {G : Gam} (H_cm9 : Has G c_cm9) (H_cr9 : Has G c_cr9) (H_ca9 : Has G c_ca9) (a0 : Rd) (a1 : Shape) (g0 : Option Addr) (g1 : Nat) (r : (Shape × Int)) (h : gf_dl9 a0 a1 = some r) : Does G if_dl9 ks_dl9 (c_dl9.args (a0, a1, g0, g1)) (c_dl9.ins (a0, a1, g0, g1)) (c_dl9.ans (a0, a1, g0, g1) r) := by
 refine does_pg (L := fun bs => [(0, .ptr 0 (bs 0).1 290 0 0), (1, .agg [.v (.int .i64 a1.kind), .ro (List.map ePt a1.pts)])]) (H := fun bs => [(0, ⟨(bs 0).1, (bs 0).2, 290, true, [[.rw g0 g1 (List.map eU8 a0.b), .v (.int .i64 a0.p)]]⟩)]) (fun bs => pin) (fun bs => pinh) fun bs t o => ?_
 show vwp _ ib_dl9 _ _
 unfold ib_dl9
 refine w_ir ?_
 unfold gf_dl9 at h
 refine go ?_;intros
 refine w_cond rfl (fun c => ?_) (fun c => ?_)
 ·replace h := itt h (by first | exact c | (have c2 := c; simp only [List.length_map] at c2; exact c2))
  try rw [c]
  refine go ?_;intros
  cases h
  exact r_endg
 replace h := itf h (by first | exact c | (have c2 := c; simp only [List.length_map] at c2; exact c2))
 try rw [c]
 obtain ⟨x3, h4, h⟩ := bnd h
 refine go ?_;intros
 refine c_callg (c := c_cm9) (a0, (a1.pts.length : Int), g0, g1) H_cm9 h4 fun ch => ?_
 obtain ⟨x6, h7, h⟩ := bnd h
 refine go ?_;intros
 refine r_sls (f := ePt) rfl rfl rfl h7 (fun _ => rfl) ?_
 obtain ⟨h10, h⟩ := gd h
 refine go ?_;intros
 refine r_app (f := ePt) (xs := ([] : (List Pt))) (ys := x6) rfl (src_ro (fun _ => rfl) (fun _ => rfl)) rfl rfl (by first | rfl | simp) h10 fun b8 c9 => ?_
 obtain ⟨q40, h81, h⟩ := bnd h
 refine go ?_;intros
 refine w_cut (fun t o => ∃ b70 b71 c72 b73 b75 c76, Pin t (ovr [(3, .ptr 24 b70 226 0 0), (4, .ptr 32 b73 226 0 0), (6, .ref 144 b75 c76 0 q40.1.length 66)] t) ∧ PinH o (ovh [(24, ⟨b70, 1, 226, true, [[.v (.int .i64 a1.kind), .sl false 2 (List.map ePt a1.pts)]]⟩), (1000513, ent b71 c72 66 (List.map ePt [])), (32, ⟨b73, 1, 226, true, [[.v (.int .i64 0), .al 1000513 b71 c72 0 ([] : List Pt).length 66]]⟩), (144, ent b75 c76 66 (List.map ePt q40.1)), (0, ⟨(bs 0).1, (bs 0).2, 290, true, [[.rw g0 g1 (List.map eU8 a0.b), .v (.int .i64 q40.2)]]⟩)] o)) ?_ ?_
 ·obtain ⟨x41, h42, h81⟩ := bnd h81
  refine go ?_;intros
  refine c_callg (c := c_cm9) ((⟨a0.b, x3.2⟩ : Rd), 3, g0, g1) H_cm9 h42 fun ch => ?_
  refine go ?_;intros
  refine w_cond rfl (fun c => ?_) (fun c => ?_)
  ·replace h81 := itt h81 c
   try rw [c]
   obtain ⟨x43, h44, h81⟩ := bnd h81
   refine go ?_;intros
   refine c_callg (c := c_cr9) ((⟨a0.b, x41.2⟩ : Rd), g0, g1) H_cr9 h44 fun ch => ?_
   obtain ⟨h48, h81⟩ := gd h81
   refine go ?_;intros
   refine r_app (f := ePt) (xs := ([] ++ x6)) (ys := ([x43.1] : (List Pt))) rfl (src_mv rfl rfl (by first | rfl | simp)) rfl rfl (by first | rfl | simp) h48 fun b46 c47 => ?_
   obtain ⟨x49, h50, h81⟩ := bnd h81
   refine go ?_;intros
   refine r_sls (f := ePt) rfl rfl rfl h50 (fun _ => rfl) ?_
   obtain ⟨h53, h81⟩ := gd h81
   refine go ?_;intros
   refine r_app (f := ePt) (xs := (([] ++ x6) ++ ([x43.1] : (List Pt)))) (ys := x49) rfl (src_ro (fun _ => rfl) (fun _ => rfl)) rfl rfl (by first | rfl | simp) h53 fun b51 c52 => ?_
   refine go ?_;intros
   cases h81
   exact k_cn ⟨_, _, _, _, _, _, pin, pinh⟩
  replace h81 := itf h81 c
  try rw [c]
  refine go ?_;intros
  refine w_cond rfl (fun c => ?_) (fun c => ?_)
  ·replace h81 := itt h81 c
   try rw [c]
   obtain ⟨x54, h55, h81⟩ := bnd h81
   refine go ?_;intros
   refine r_sls (f := ePt) rfl rfl rfl h55 (fun _ => rfl) ?_
   obtain ⟨h58, h81⟩ := gd h81
   refine go ?_;intros
   refine r_app (f := ePt) (xs := ([] ++ x6)) (ys := x54) rfl (src_ro (fun _ => rfl) (fun _ => rfl)) rfl rfl (by first | rfl | simp) h58 fun b56 c57 => ?_
   refine go ?_;intros
   cases h81
   exact k_cn ⟨_, _, _, _, _, _, pin, pinh⟩
  replace h81 := itf h81 c
  try rw [c]
  obtain ⟨x59, h60, h81⟩ := bnd h81
  refine go ?_;intros
  refine c_callg (c := c_cr9) ((⟨a0.b, x41.2⟩ : Rd), g0, g1) H_cr9 h60 fun ch => ?_
  obtain ⟨h64, h81⟩ := gd h81
  refine go ?_;intros
  refine r_app (f := ePt) (xs := ([] ++ x6)) (ys := ([x59.1] : (List Pt))) rfl (src_mv rfl rfl (by first | rfl | simp)) rfl rfl (by first | rfl | simp) h64 fun b62 c63 => ?_
  obtain ⟨x65, h66, h81⟩ := bnd h81
  refine go ?_;intros
  refine r_sls (f := ePt) rfl rfl rfl h66 (fun _ => rfl) ?_
  obtain ⟨h69, h81⟩ := gd h81
  refine go ?_;intros
  refine r_app (f := ePt) (xs := (([] ++ x6) ++ ([x59.1] : (List Pt)))) (ys := x65) rfl (src_ro (fun _ => rfl) (fun _ => rfl)) rfl rfl (by first | rfl | simp) h69 fun b67 c68 => ?_
  refine go ?_;intros
  cases h81
  exact k_cn ⟨_, _, _, _, _, _, pin, pinh⟩
 rintro t o ⟨b70, b71, c72, b73, b75, c76, pq1, pq2⟩
 refine pinned pq1 pq2 ?_
 obtain ⟨x79, h80, h⟩ := bnd h
 refine go ?_;intros
 refine c_call (c := c_ca9) ((⟨a1.kind, q40.1⟩ : Shape)) H_ca9 h80 fun ch => ?_
 refine go ?_;intros
 refine w_cond rfl (fun c => ?_) (fun c => ?_)
 ·replace h := itt h c
  try rw [c]
  refine go ?_;intros
  cases h
  exact r_endg
 replace h := itf h c
 try rw [c]
 refine go ?_;intros
 refine r_frz ?_
 refine go ?_;intros
 refine c_fz ?_
 refine go ?_;intros
 cases h
 exact r_endg
theorem d_dm9 {G : Gam} (H_cm9 : Has G c_cm9) (H_cy9 : Has G c_cy9) (H_dh9 : Has G c_dh9) (H_cx9 : Has G c_cx9) (H_di9 : Has G c_di9) (H_dg9 : Has G c_dg9) (H_cw9 : Has G c_cw9) (H_cz9 : Has G c_cz9) (H_dd9 : Has G c_dd9) (H_da9 : Has G c_da9) (H_dl9 : Has G c_dl9) (H_cc9 : Has G c_cc9) (a0 : Rd) (a1 : (List Feat)) (g0 : Option Addr) (g1 : Nat) (r : ((List Feat) × Int)) (h : gf_dm9 a0 a1 = some r) : Does G if_dm9 ks_dm9 (c_dm9.args (a0, a1, g0, g1)) (c_dm9.ins (a0, a1, g0, g1)) (c_dm9.ans (a0, a1, g0, g1) r) := by
 refine does_pg (L := fun bs => [(0, .ptr 0 (bs 0).1 290 0 0), (1, .ro (List.map (eFeat false) a1))]) (H := fun bs => [(0, ⟨(bs 0).1, (bs 0).2, 290, true, [[.rw g0 g1 (List.map eU8 a0.b), .v (.int .i64 a0.p)]]⟩)]) (fun bs => pin) (fun bs => pinh) fun bs t o => ?_
 show vwp _ ib_dm9 _ _
 unfold ib_dm9
 refine w_ir ?_
 unfold gf_dm9 at h
 obtain ⟨x1, h2, h⟩ := bnd h
 refine go ?_;intros
 refine c_callg (c := c_cm9) (a0, 3, g0, g1) H_cm9 h2 fun ch => ?_
 obtain ⟨q210, h287, h⟩ := bnd h
 refine go ?_;intros
 refine w_last (fun t o => Pin t (ovr [(1, .ro (List.map (eFeat false) a1)), (5, .ro (List.map (eFeat false) q210.1))] t) ∧ PinH o (ovh [(0, ⟨(bs 0).1, (bs 0).2, 290, true, [[.rw g0 g1 (List.map eU8 a0.b), .v (.int .i64 q210.2)]]⟩)] o)) ?_ ?_
 ·refine w_loop2 (fun n t o => ∃ n214 v211 v212 v213 , gl_dm9_1 a0 n214 v211 v212 v213 = some q210 ∧ n214 = n ∧ Pin t (ovr [(0, .ptr 0 (bs 0).1 290 0 0), (1, .ro (List.map (eFeat false) a1)), (5, .ro (List.map (eFeat false) v211)), (6, .v (.int .i64 v212))] t) ∧ PinH o (ovh [(0, ⟨(bs 0).1, (bs 0).2, 290, true, [[.rw g0 g1 (List.map eU8 a0.b), .v (.int .i64 v213)]]⟩)] o)) _ ⟨_, _, _, _, h287, rfl, pin, pinh⟩ ?_
  rintro n t o ⟨n214, v211, v212, v213, h287, rfl, pq1, pq2⟩
  refine pinned pq1 pq2 ?_
  cases n214 with
  | zero => rw [gl_dm9_1] at h287; cases h287
  | succ n214 =>
   rw [gl_dm9_1] at h287
   refine go ?_;intros
   refine w_cond rfl (fun c => ?_) (fun c => ?_)
   ·replace h287 := itt h287 c
    try rw [c]
    obtain ⟨x215, h216, h287⟩ := bnd h287
    refine go ?_;intros
    refine c_callg (c := c_cy9) ((⟨a0.b, v213⟩ : Rd), g0, g1) H_cy9 h216 fun ch => ?_
    obtain ⟨x217, h218, h287⟩ := bnd h287
    refine go ?_;intros
    refine c_call (c := c_dh9) (v211, x215.1) H_dh9 h218 fun ch => ?_
    refine go ?_;intros
    refine w_cond rfl (fun c => ?_) (fun c => ?_)
    ·replace h287 := itt h287 c
     try rw [c]
     refine go ?_;intros
     refine r_frz ?_
     obtain ⟨x219, h220, h287⟩ := bnd h287
     refine go ?_;intros
     refine c_callg (c := c_cx9) ((⟨a0.b, x215.2⟩ : Rd), x215.1, g0, g1) H_cx9 h220 fun ch => ?_
     refine go ?_;intros
     refine c_fz ?_
     refine go ?_;intros
     refine r_frz ?_
     obtain ⟨x225, h226, h287⟩ := bnd h287
     refine go ?_;intros
     refine c_call (c := c_di9) (v211, x219.1) H_di9 h226 fun ch => ?_
     refine go ?_;intros
     refine c_fz ?_
     refine go ?_;intros
     exact k_ln2 _ (Nat.lt_succ_self _) ⟨_, _, _, _, h287, rfl, pin, pinh⟩
    replace h287 := itf h287 c
    try rw [c]
    obtain ⟨x229, h230, h287⟩ := bnd h287
    refine go ?_;intros
    refine c_callg (c := c_cm9) ((⟨a0.b, x215.2⟩ : Rd), 4, g0, g1) H_cm9 h230 fun ch => ?_
    refine go ?_;intros
    refine w_cond rfl (fun c => ?_) (fun c => ?_)
    ·replace h287 := itt h287 c
     try rw [c]
     refine go ?_;intros
     refine r_frz ?_
     obtain ⟨x231, h232, h287⟩ := bnd h287
     refine go ?_;intros
     refine c_call (c := c_dg9) (v211, x215.1) H_dg9 h232 fun ch => ?_
     refine go ?_;intros
     refine c_fz ?_
     refine go ?_;intros
     exact k_ln2 _ (Nat.lt_succ_self _) ⟨_, _, _, _, h287, rfl, pin, pinh⟩
    replace h287 := itf h287 c
    try rw [c]
    obtain ⟨x235, h236, h287⟩ := bnd h287
    refine go ?_;intros
    refine c_callg (c := c_cm9) ((⟨a0.b, x229.2⟩ : Rd), 2, g0, g1) H_cm9 h236 fun ch => ?_
    refine go ?_;intros
    refine w_cond rfl (fun c => ?_) (fun c => ?_)
    ·replace h287 := itt h287 c
     try rw [c]
     obtain ⟨x237, h238, h287⟩ := bnd h287
     refine go ?_;intros
     refine r_iro rfl rfl h238 rfl ?_
     obtain ⟨x239, h240, h287⟩ := bnd h287
     refine go ?_;intros
     refine c_call (c := c_cw9) (x237) H_cw9 h240 fun ch => ?_
     obtain ⟨x246, h247, h287⟩ := bnd h287
     refine go ?_;intros
     refine c_callg (c := c_cz9) ((⟨a0.b, x235.2⟩ : Rd), g0, g1) H_cz9 h247 fun ch => ?_
     obtain ⟨x248, h249, h287⟩ := bnd h287
     refine go ?_;intros
     refine c_callg (c := c_dd9) ((⟨a0.b, x246.2⟩ : Rd), g0, g1) H_dd9 h249 fun ch => ?_
     obtain ⟨x250, h251, h287⟩ := bnd h287
     refine go ?_;intros
     refine c_call (c := c_da9) (x239.tags, x246.1, x248.1) H_da9 h251 fun ch => ?_
     refine go ?_;intros
     refine r_frz ?_
     refine go ?_;intros
     refine c_fz ?_
     refine go ?_;intros
     refine r_frz ?_
     obtain ⟨x254, h255, h287⟩ := bnd h287
     refine go ?_;intros
     refine c_call (c := c_di9) (v211, (⟨x239.id, x239.shape, x250⟩ : Feat)) H_di9 h255 fun ch => ?_
     refine go ?_;intros
     refine c_fz ?_
     refine go ?_;intros
     exact k_ln2 _ (Nat.lt_succ_self _) ⟨_, _, _, _, h287, rfl, pin, pinh⟩
    replace h287 := itf h287 c
    try rw [c]
    obtain ⟨q258, h288, h287⟩ := bnd h287
    refine go ?_;intros
    refine w_cut (fun t o => ∃ b269 c270 b272 c273 b276, Pin t (ovr [(0, .ptr 0 (bs 0).1 290 0 0), (1, .ro (List.map (eFeat false) a1)), (5, .ro (List.map (eFeat false) v211)), (6, .v (.int .i64 v212)), (10, .ptr 80 b276 100 0 0)] t) ∧ PinH o (ovh [(0, ⟨(bs 0).1, (bs 0).2, 290, true, [[.rw g0 g1 (List.map eU8 a0.b), .v (.int .i64 x235.2)]]⟩), (1001282, ent b269 c270 66 (List.map ePt q258.1)), (1001283, ent b272 c273 82 (List.map eTag q258.2.1)), (80, ⟨b276, 1, 100, true, [[.v (.string q258.2.2.1), .v (.int .i64 q258.2.2.2), .al 1001282 b269 c270 0 q258.1.length 66, .al 1001283 b272 c273 0 q258.2.1.length 82]]⟩)] o)) ?_ ?_
    ·obtain ⟨x259, h260, h288⟩ := bnd h288
     refine go ?_;intros
     refine r_iro rfl rfl h260 rfl ?_
     obtain ⟨x261, h262, h288⟩ := bnd h288
     refine go ?_;intros
     refine c_call (c := c_cw9) (x259) H_cw9 h262 fun ch => ?_
     refine go ?_;intros
     cases h288
     exact k_cn ⟨_, _, _, _, _, pin, pinh⟩
    rintro t o ⟨b269, c270, b272, c273, b276, pq1, pq2⟩
    refine pinned pq1 pq2 ?_
    refine go ?_;intros
    refine r_frz ?_
    refine go ?_;intros
    refine c_fz ?_
    obtain ⟨x277, h278, h287⟩ := bnd h287
    refine go ?_;intros
    refine c_callg (c := c_dl9) ((⟨a0.b, x235.2⟩ : Rd), (⟨q258.2.2.2, q258.1⟩ : Shape), g0, g1) H_dl9 h278 fun ch => ?_
    refine go ?_;intros
    refine r_frz ?_
    refine go ?_;intros
    refine c_fz ?_
    refine go ?_;intros
    refine r_frz ?_
    obtain ⟨x279, h280, h287⟩ := bnd h287
    refine go ?_;intros
    refine c_call (c := c_di9) (v211, (⟨q258.2.2.1, x277.1, q258.2.1⟩ : Feat)) H_di9 h280 fun ch => ?_
    refine go ?_;intros
    refine c_fz ?_
    refine go ?_;intros
    exact k_ln2 _ (Nat.lt_succ_self _) ⟨_, _, _, _, h287, rfl, pin, pinh⟩
   replace h287 := itf h287 c
   try rw [c]
   refine go ?_;intros
   cases h287
   exact k_cn ⟨pin, pinh⟩
 rintro t o ⟨pq1, pq2⟩
 refine pinnedQ pq1 pq2 ?_
 obtain ⟨x285, h286, h⟩ := bnd h
 refine go ?_;intros
 refine c_call (c := c_cc9) (q210.1) H_cc9 h286 fun ch => ?_
 refine go ?_;intros
 refine w_cond rfl (fun c => ?_) (fun c => ?_)
 ·replace h := itt h c
  try rw [c]
  refine go ?_;intros
  cases h
  exact r_endg
 replace h := itf h c
 try rw [c]
 refine go ?_;intros
 cases h
 exact r_endg
end Go.Proofs.AM
