/- Lemmas of the proof (KHF14), on an abstract machine. Conditions: none. -/
import Derived.Test.YtknajiljcemblaaGreatKHD
set_option linter.unusedVariables false
set_option linter.unusedSimpArgs false
set_option maxRecDepth 100000
set_option maxHeartbeats 4000000
namespace Go.Proofs.AM
attribute [local irreducible] vwp vstps vstpLs vstp vdo vret kseq kblk kloop kend kcut kloop2 frzV renV shutK pfzV trnV unrV
theorem d_dw9 {G : Gam} (H_cl9 : Has G c_cl9) (a0 : Rd) (g0 : Option Addr) (g1 : Nat) (r : (Str × Int)) (h : gf_dw9 a0 = some r) : Does G if_dw9 ks_dw9 (c_dw9.args (a0, g0, g1)) (c_dw9.ins (a0, g0, g1)) (c_dw9.ans (a0, g0, g1) r) := by
 refine does_pg (L := fun bs => [(0, .ptr 0 (bs 0).1 290 0 0)]) (H := fun bs => [(0, ⟨(bs 0).1, (bs 0).2, 290, true, [[.rw g0 g1 (List.map eU8 a0.b), .v (.int .i64 a0.p)]]⟩)]) (fun bs => pin) (fun bs => pinh) fun bs t o => ?_
 show vwp _ ib_dw9 _ _
 unfold ib_dw9
 refine w_ir ?_
 unfold gf_dw9 at h
 obtain ⟨x2, h3, h⟩ := bnd h
 refine go ?_;intros
 refine c_callg (c := c_cl9) (a0, ([(⟨#[97, 110, 110]⟩ : Str), (⟨#[98, 111, 98]⟩ : Str), (⟨#[102, 105, 120]⟩ : Str)] : (List Str)), g0, g1) H_cl9 h3 fun ch => ?_
 refine go ?_;intros
 cases h
 exact r_endg
theorem d_dr9 {G : Gam} (H_dv9 : Has G c_dv9) (H_ds9 : Has G c_ds9) (H_cm9 : Has G c_cm9) (H_bx9 : Has G c_bx9) (H_dm9 : Has G c_dm9) (H_dw9 : Has G c_dw9) (H_dp9 : Has G c_dp9) (H_dn9 : Has G c_dn9) (a0 : Rd) (a1 : Repo) (g0 : Option Addr) (g1 : Nat) (g2 : Option Addr) (g3 : Nat) (g4 : Option Addr) (g5 : Nat) (r : ((Option Repo) × Int)) (h : gf_dr9 a0 a1 = some r) : Does G if_dr9 ks_dr9 (c_dr9.args (a0, a1, g0, g1, g2, g3, g4, g5)) (c_dr9.ins (a0, a1, g0, g1, g2, g3, g4, g5)) (c_dr9.ans (a0, a1, g0, g1, g2, g3, g4, g5) r) := by
 refine does_pg (L := fun bs => [(0, .ptr 0 (bs 0).1 290 0 0), (1, .agg [.raw g2 g3 (List.map (eCommit false) a1.commits), .raw g4 g5 (List.map eHead a1.heads)])]) (H := fun bs => [(0, ⟨(bs 0).1, (bs 0).2, 290, true, [[.rw g0 g1 (List.map eU8 a0.b), .v (.int .i64 a0.p)]]⟩)]) (fun bs => pin) (fun bs => pinh) fun bs t o => ?_
 show vwp _ ib_dr9 _ _
 unfold ib_dr9
 refine w_ir ?_
 unfold gf_dr9 at h
 obtain ⟨x3, h4, h⟩ := bnd h
 refine go ?_;intros
 refine c_callg (c := c_dv9) (a0, g0, g1) H_dv9 h4 fun ch => ?_
 obtain ⟨x5, h6, h⟩ := bnd h
 refine go ?_;intros
 refine c_call (c := c_ds9) (a1, x3.1) H_ds9 h6 fun ch => ?_
 refine go ?_;intros
 refine w_cond rfl (fun c => ?_) (fun c => ?_)
 ·replace h := itt h c
  try rw [c]
  obtain ⟨x7, h8, h⟩ := bnd h
  refine go ?_;intros
  refine c_callg (c := c_cm9) ((⟨a0.b, x3.2⟩ : Rd), (a1.heads.length : Int), g0, g1) H_cm9 h8 fun ch => ?_
  obtain ⟨x9, h10, h⟩ := bnd h
  refine go ?_;intros
  refine r_iro rfl rfl h10 rfl ?_
  obtain ⟨x11, h12, h⟩ := bnd h
  refine go ?_;intros
  refine c_call (c := c_bx9) (a1, x3.1, x9.name) H_bx9 h12 fun ch => ?_
  refine go ?_;intros
  refine w_cond rfl (fun c => ?_) (fun c => ?_)
  ·replace h := itt h (by first | exact c | (have c2 := c; simp only [List.length_map] at c2; exact c2))
   try rw [c]
   refine go ?_;intros
   cases h
   exact r_endg
  replace h := itf h (by first | exact c | (have c2 := c; simp only [List.length_map] at c2; exact c2))
  try rw [c]
  refine go ?_;intros
  refine r_ldr rfl rfl rfl rfl ?_
  refine go ?_;intros
  cases h
  exact r_endg
 replace h := itf h c
 try rw [c]
 obtain ⟨x18, h19, h⟩ := bnd h
 refine go ?_;intros
 refine r_iro rfl rfl h19 rfl ?_
 obtain ⟨q20, h75, h⟩ := bnd h
 refine go ?_;intros
 refine w_cut (fun t o => ∃ b30 b31 c32 b33 c34 b35 b36 c37 b40, Pin t (ovr [(0, .ptr 0 (bs 0).1 290 0 0), (3, .ptr 24 b30 210 0 0), (4, .ptr 32 b35 210 0 0), (6, .v (.int .i64 x5)), (9, .v (.int .i64 x18.at_)), (10, .ptr 80 b40 115 0 0)] t) ∧ PinH o (ovh [(0, ⟨(bs 0).1, (bs 0).2, 290, true, [[.rw g0 g1 (List.map eU8 a0.b), .v (.int .i64 q20.1)]]⟩), (24, ⟨b30, 1, 210, true, [[.rw g2 g3 (List.map (eCommit false) a1.commits), .rw g4 g5 (List.map eHead a1.heads)]]⟩), (1000512, ent b31 c32 115 (List.map (eCommit true) [])), (1000513, ent b33 c34 130 (List.map eHead [])), (32, ⟨b35, 1, 210, true, [[.al 1000512 b31 c32 0 ([] : List Commit).length 115, .al 1000513 b33 c34 0 ([] : List Head).length 130]]⟩), (1001280, ent b36 c37 17 (List.map eInt [x18.at_])), (80, ⟨b40, 1, 115, true, [[.al 1001280 b36 c37 0 [x18.at_].length 17, .sl false 4 (List.map (eFeat false) q20.2.1), .v (.string q20.2.2)]]⟩)] o)) ?_ ?_
 ·obtain ⟨x22, h23, h75⟩ := bnd h75
  refine go ?_;intros
  refine r_iro rfl rfl h23 rfl ?_
  obtain ⟨x24, h25, h75⟩ := bnd h75
  refine go ?_;intros
  refine c_callg (c := c_dm9) ((⟨a0.b, x3.2⟩ : Rd), x22.sheet, g0, g1) H_dm9 h25 fun ch => ?_
  obtain ⟨x26, h27, h75⟩ := bnd h75
  refine go ?_;intros
  refine c_callg (c := c_dw9) ((⟨a0.b, x24.2⟩ : Rd), g0, g1) H_dw9 h27 fun ch => ?_
  refine go ?_;intros
  cases h75
  exact k_cn ⟨_, _, _, _, _, _, _, _, _, pin, pinh⟩
 rintro t o ⟨b30, b31, c32, b33, c34, b35, b36, c37, b40, pq1, pq2⟩
 refine pinned pq1 pq2 ?_
 obtain ⟨x41, h42, h⟩ := bnd h
 refine go ?_;intros
 refine c_callg (c := c_cm9) ((⟨a0.b, q20.1⟩ : Rd), (a1.heads.length : Int), g0, g1) H_cm9 h42 fun ch => ?_
 obtain ⟨x43, h44, h⟩ := bnd h
 refine go ?_;intros
 refine r_iro rfl rfl h44 rfl ?_
 obtain ⟨q48, h76, h⟩ := bnd h
 refine go ?_;intros
 refine w_cut (fun t o => ∃ b52 b53 c54 b55 c56 b57 b59 c60 b61, Pin t (ovr [(3, .ptr 24 b52 210 0 0), (4, .ptr 32 b57 210 0 0), (6, .v (.int .i64 x5)), (10, .ptr 80 b61 115 0 0)] t) ∧ PinH o (ovh [(24, ⟨b52, 1, 210, true, [[.rw g2 g3 (List.map (eCommit false) a1.commits), .rw g4 g5 (List.map eHead a1.heads)]]⟩), (1000512, ent b53 c54 115 (List.map (eCommit true) [])), (1000513, ent b55 c56 130 (List.map eHead [])), (32, ⟨b57, 1, 210, true, [[.al 1000512 b53 c54 0 ([] : List Commit).length 115, .al 1000513 b55 c56 0 ([] : List Head).length 130]]⟩), (1001280, ent b59 c60 17 (List.map eInt q48.1)), (80, ⟨b61, 1, 115, true, [[.al 1001280 b59 c60 0 q48.1.length 17, .sl false 4 (List.map (eFeat false) q20.2.1), .v (.string q20.2.2)]]⟩), (0, ⟨(bs 0).1, (bs 0).2, 290, true, [[.rw g0 g1 (List.map eU8 a0.b), .v (.int .i64 q48.2)]]⟩)] o)) ?_ ?_
 ·refine go ?_;intros
  refine s_split rfl (fun c => ?_) (fun c => ?_)
  ·replace h76 := itt h76 c
   rw [c]
   obtain ⟨x49, h50, h76⟩ := bnd h76
   refine go ?_;intros
   refine c_callg (c := c_cm9) ((⟨a0.b, x41.2⟩ : Rd), 4, g0, g1) H_cm9 h50 fun ch => ?_
   refine go ?_;intros
   refine w_cond rfl (fun c => ?_) (fun c => ?_)
   ·replace h76 := itt h76 c
    try rw [c]
    refine go ?_;intros
    cases h76
    exact k_cn ⟨_, _, _, _, _, _, _, _, _, pin, pinh⟩
   replace h76 := itf h76 c
   try rw [c]
   refine go ?_;intros
   cases h76
   exact k_cn ⟨_, _, _, _, _, _, _, _, _, pin, pinh⟩
  replace h76 := itf h76 c
  rw [c]
  refine go ?_;intros
  cases h76
  exact k_cn ⟨_, _, _, _, _, _, _, _, _, pin, pinh⟩
 rintro t o ⟨b52, b53, c54, b55, c56, b57, b59, c60, b61, pq1, pq2⟩
 refine pinned pq1 pq2 ?_
 refine go ?_;intros
 refine w_cond rfl (fun c => ?_) (fun c => ?_)
 ·replace h := itt h (by first | exact c | (have c2 := c; simp only [List.length_map] at c2; exact c2))
  try rw [c]
  refine go ?_;intros
  refine r_ldr rfl rfl rfl rfl ?_
  refine go ?_;intros
  cases h
  exact r_endg
 replace h := itf h (by first | exact c | (have c2 := c; simp only [List.length_map] at c2; exact c2))
 try rw [c]
 obtain ⟨x63, h64, h⟩ := bnd h
 refine go ?_;intros
 refine c_call (c := c_dp9) (a1) H_dp9 h64 fun ch => ?_
 obtain ⟨x69, h70, h⟩ := bnd h
 refine go ?_;intros
 refine c_callg (c := c_dn9) (x63, x5, (⟨q48.1, q20.2.1, q20.2.2⟩ : Commit)) H_dn9 h70 fun ch => ?_
 refine go ?_;intros
 cases h
 exact r_endg
theorem d_dy9 {G : Gam} (H_by9 : Has G c_by9) (H_dk9 : Has G c_dk9) (H_cm9 : Has G c_cm9) (H_dr9 : Has G c_dr9) (a0 : Rd) (g0 : Option Addr) (g1 : Nat) (r : (Repo × Int)) (h : gf_dy9 a0 = some r) : Does G if_dy9 ks_dy9 (c_dy9.args (a0, g0, g1)) (c_dy9.ins (a0, g0, g1)) (c_dy9.ans (a0, g0, g1) r) := by
 refine does_pg (L := fun bs => [(0, .ptr 0 (bs 0).1 290 0 0)]) (H := fun bs => [(0, ⟨(bs 0).1, (bs 0).2, 290, true, [[.rw g0 g1 (List.map eU8 a0.b), .v (.int .i64 a0.p)]]⟩)]) (fun bs => pin) (fun bs => pinh) fun bs t o => ?_
 show vwp _ ib_dy9 _ _
 unfold ib_dy9
 refine w_ir ?_
 unfold gf_dy9 at h
 obtain ⟨x2, h3, h⟩ := bnd h
 refine go ?_;intros
 refine c_call (c := c_by9) ((⟨#[109, 97, 105, 110]⟩ : Str)) H_by9 h3 fun ch => ?_
 refine go ?_;intros
 refine r_pfz ?_
 refine go ?_;intros
 refine r_pz (f := (eCommit true)) (g := eCommitX) (pf_Commit _) rfl rfl ?_
 refine go ?_;intros
 refine r_frz ?_
 obtain ⟨x9, h10, h⟩ := bnd h
 refine go ?_;intros
 refine c_callg (c := c_dk9) (a0, g0, g1) H_dk9 h10 fun ch => ?_
 refine go ?_;intros
 refine c_fz ?_
 obtain ⟨x13, h14, h⟩ := bnd h
 refine go ?_;intros
 refine r_ire (xs := x2.1.commits) rfl rfl h14 rfl ?_
 refine go ?_;intros
 refine c_ste (f := eCommitX) x2.1.commits (⟨x13.up, x9.1, x13.note⟩ : Commit) (idx_get h14).2 ?_
 obtain ⟨x15, h16, h⟩ := bnd h
 refine go ?_;intros
 refine c_callg (c := c_cm9) ((⟨a0.b, x9.2⟩ : Rd), 7, g0, g1) H_cm9 h16 fun ch => ?_
 obtain ⟨q56, h94, h⟩ := bnd h
 refine go ?_;intros
 refine w_last (fun t o => ∃ b78 c79 b80 c81 b82 b84 c85 b87 c88 b89, Pin t (ovr [(0, .ptr 0 (bs 0).1 290 0 0), (2, .ptr 16 b82 210 0 0), (3, .ptr 24 b89 210 0 0)] t) ∧ PinH o (ovh [(0, ⟨(bs 0).1, (bs 0).2, 290, true, [[.rw g0 g1 (List.map eU8 a0.b), .v (.int .i64 q56.1)]]⟩), (1000256, ent b78 c79 115 (List.map (eCommit true) [])), (1000257, ent b80 c81 130 (List.map eHead [])), (16, ⟨b82, 1, 210, true, [[.al 1000256 b78 c79 0 ([] : List Commit).length 115, .al 1000257 b80 c81 0 ([] : List Head).length 130]]⟩), (1000384, ent b84 c85 115 (List.map eCommitX q56.2.1)), (1000385, ent b87 c88 130 (List.map eHead q56.2.2)), (24, ⟨b89, 1, 210, true, [[.al 1000384 b84 c85 0 q56.2.1.length 115, .al 1000385 b87 c88 0 q56.2.2.length 130]]⟩)] o)) ?_ ?_
 ·refine w_loop2 (fun n t o => ∃ n71 v57 v58 v64 v67 b59 c60 b61 c62 b63 b65 c66 b68 c69 b70, gl_dy9_1 a0 n71 v57 v58 v64 v67 = some q56 ∧ n71 = n ∧ Pin t (ovr [(0, .ptr 0 (bs 0).1 290 0 0), (2, .ptr 16 b63 210 0 0), (3, .ptr 24 b70 210 0 0), (5, .v (.int .i64 v57))] t) ∧ PinH o (ovh [(0, ⟨(bs 0).1, (bs 0).2, 290, true, [[.rw g0 g1 (List.map eU8 a0.b), .v (.int .i64 v58)]]⟩), (1000256, ent b59 c60 115 (List.map (eCommit true) [])), (1000257, ent b61 c62 130 (List.map eHead [])), (16, ⟨b63, 1, 210, true, [[.al 1000256 b59 c60 0 ([] : List Commit).length 115, .al 1000257 b61 c62 0 ([] : List Head).length 130]]⟩), (1000384, ent b65 c66 115 (List.map eCommitX v64)), (1000385, ent b68 c69 130 (List.map eHead v67)), (24, ⟨b70, 1, 210, true, [[.al 1000384 b65 c66 0 v64.length 115, .al 1000385 b68 c69 0 v67.length 130]]⟩)] o)) _ ⟨_, _, _, _, _, _, _, _, _, _, _, _, _, _, _, h94, rfl, pin, pinh⟩ ?_
  rintro n t o ⟨n71, v57, v58, v64, v67, b59, c60, b61, c62, b63, b65, c66, b68, c69, b70, h94, rfl, pq1, pq2⟩
  refine pinned pq1 pq2 ?_
  cases n71 with
  | zero => rw [gl_dy9_1] at h94; cases h94
  | succ n71 =>
   rw [gl_dy9_1] at h94
   refine go ?_;intros
   refine w_cond rfl (fun c => ?_) (fun c => ?_)
   ·replace h94 := itt h94 c
    try rw [c]
    refine go ?_;intros
    refine r_rawl ?_
    refine go ?_;intros
    refine r_rl rfl rfl ?_
    refine go ?_;intros
    refine r_pfz ?_
    refine go ?_;intros
    refine r_unr ?_
    obtain ⟨x72, h73, h94⟩ := bnd h94
    rcases x72 with ⟨_ | y74, p75⟩
    ·dsimp only at h94
     refine go ?_;intros
     refine c_callg (c := c_dr9) ((⟨a0.b, v58⟩ : Rd), (⟨v64, v67⟩ : Repo), g0, g1, (hdrA b65), c66, (hdrA b68), c69) H_dr9 h73 fun ch76 => ?_
     refine go ?_;intros
     refine r_un rfl (un_hit rfl rfl (by first | rfl | simp) (un_hit rfl rfl (by first | rfl | simp) un_nil)) ?_
     refine go ?_;intros
     refine r_pz (f := eCommitX) (g := eCommitX) (pf_CommitX _) rfl rfl ?_
     refine go ?_;intros
     exact k_ln2 _ (Nat.lt_succ_self _) ⟨_, _, _, _, _, _, _, _, _, _, _, _, _, _, _, h94, rfl, pin, pinh⟩
    dsimp only at h94
    refine go ?_;intros
    refine c_callg (c := c_dr9) ((⟨a0.b, v58⟩ : Rd), (⟨v64, v67⟩ : Repo), g0, g1, (hdrA b65), c66, (hdrA b68), c69) H_dr9 h73 fun ch76 => ?_
    refine go ?_;intros
    refine r_un rfl (un_ref (un_ref un_nil)) ?_
    refine go ?_;intros
    refine r_pz (f := (eCommit true)) (g := eCommitX) (pf_Commit _) rfl rfl ?_
    refine go ?_;intros
    exact k_ln2 _ (Nat.lt_succ_self _) ⟨_, _, _, _, _, _, _, _, _, _, _, _, _, _, _, h94, rfl, pin, pinh⟩
   replace h94 := itf h94 c
   try rw [c]
   refine go ?_;intros
   cases h94
   exact k_cn ⟨_, _, _, _, _, _, _, _, _, _, pin, pinh⟩
 rintro t o ⟨b78, c79, b80, c81, b82, b84, c85, b87, c88, b89, pq1, pq2⟩
 refine pinnedQ pq1 pq2 ?_
 obtain ⟨x90, h91, h⟩ := bnd h
 refine go ?_;intros
 refine c_callg (c := c_cm9) ((⟨a0.b, q56.1⟩ : Rd), 4, g0, g1) H_cm9 h91 fun ch => ?_
 refine go ?_;intros
 refine s_split rfl (fun c => ?_) (fun c => ?_)
 ·replace h := itt h c
  rw [c]
  refine go ?_;intros
  refine w_cond rfl (fun c => ?_) (fun c => ?_)
  ·replace h := itt h (by first | exact c | (have c2 := c; simp only [List.length_map] at c2; exact c2))
   try rw [c]
   refine go ?_;intros
   refine r_trn ?_
   obtain ⟨x92, h93, h⟩ := bnd h
   refine go ?_;intros
   refine r_slr (xs := q56.2.2) h93 rfl rfl rfl rfl (by first | rfl | simp) ?_
   refine go ?_;intros
   refine r_tr (f := eHead) h93 rfl rfl rfl ?_
   refine go ?_;intros
   cases h
   exact r_endg
  replace h := itf h (by first | exact c | (have c2 := c; simp only [List.length_map] at c2; exact c2))
  try rw [c]
  refine go ?_;intros
  cases h
  exact r_endg
 replace h := itf h c
 rw [c]
 refine go ?_;intros
 cases h
 exact r_endg
theorem d_do9 {G : Gam} (H_dy9 : Has G c_dy9) (H_cm9 : Has G c_cm9) (H_ck9 : Has G c_ck9) (H_de9 : Has G c_de9) (a0 : Rd) (g0 : Option Addr) (g1 : Nat) (r : (Repo × Int)) (h : gf_do9 a0 = some r) : Does G if_do9 ks_do9 (c_do9.args (a0, g0, g1)) (c_do9.ins (a0, g0, g1)) (c_do9.ans (a0, g0, g1) r) := by
 refine does_pg (L := fun bs => [(0, .ptr 0 (bs 0).1 290 0 0)]) (H := fun bs => [(0, ⟨(bs 0).1, (bs 0).2, 290, true, [[.rw g0 g1 (List.map eU8 a0.b), .v (.int .i64 a0.p)]]⟩)]) (fun bs => pin) (fun bs => pinh) fun bs t o => ?_
 show vwp _ ib_do9 _ _
 unfold ib_do9
 refine w_ir ?_
 unfold gf_do9 at h
 obtain ⟨x2, h3, h⟩ := bnd h
 refine go ?_;intros
 refine c_callg (c := c_dy9) (a0, g0, g1) H_dy9 h3 fun ch => ?_
 obtain ⟨x9, h10, h⟩ := bnd h
 refine go ?_;intros
 refine c_callg (c := c_cm9) ((⟨a0.b, x2.2⟩ : Rd), (x2.1.commits.length : Int), g0, g1) H_cm9 h10 fun ch => ?_
 obtain ⟨x11, h12, h⟩ := bnd h
 refine go ?_;intros
 refine c_callg (c := c_cm9) ((⟨a0.b, x9.2⟩ : Rd), 48, g0, g1) H_cm9 h12 fun ch => ?_
 obtain ⟨q13, h53, h⟩ := bnd h
 refine go ?_;intros
 refine w_cut (fun t o => ∃ b14 c15 b16 c17 b18 b19 c20 b21 c22 b23, Pin t (ovr [(0, .ptr 0 (bs 0).1 290 0 0), (2, .ptr 16 b18 210 0 0), (3, .ptr 24 b23 210 0 0), (4, .v (.int .i64 x9.1)), (13, .v (.int .i64 x11.1)), (14, .v (.bool (x11.1 == 0)))] t) ∧ PinH o (ovh [(0, ⟨(bs 0).1, (bs 0).2, 290, true, [[.rw g0 g1 (List.map eU8 a0.b), .v (.int .i64 x11.2)]]⟩), (1000256, ent b14 c15 115 (List.map (eCommit true) [])), (1000257, ent b16 c17 130 (List.map eHead [])), (16, ⟨b18, 1, 210, true, [[.al 1000256 b14 c15 0 ([] : List Commit).length 115, .al 1000257 b16 c17 0 ([] : List Head).length 130]]⟩), (1000384, ent b19 c20 115 (List.map eCommitX x2.1.commits)), (1000385, ent b21 c22 130 (List.map eHead x2.1.heads)), (24, ⟨b23, 1, 210, true, [[.al 1000384 b19 c20 0 x2.1.commits.length 115, .al 1000385 b21 c22 0 x2.1.heads.length 130]]⟩)] o)) ?_ ?_
 ·refine go ?_;intros
  cases h53
  exact k_cn ⟨_, _, _, _, _, _, _, _, _, _, pin, pinh⟩
 rintro t o ⟨b14, c15, b16, c17, b18, b19, c20, b21, c22, b23, pq1, pq2⟩
 refine pinned pq1 pq2 ?_
 refine go ?_;intros
 refine w_cond rfl (fun c => ?_) (fun c => ?_)
 ·replace h := itt h c
  try rw [c]
  obtain ⟨x25, h26, h⟩ := bnd h
  refine go ?_;intros
  refine c_callg (c := c_ck9) ((⟨a0.b, x11.2⟩ : Rd), ([(-1), (x2.1.commits.length : Int)] : (List Int)), g0, g1) H_ck9 h26 fun ch => ?_
  obtain ⟨x27, h28, h⟩ := bnd h
  refine go ?_;intros
  refine r_ire (xs := x2.1.heads) rfl rfl h28 rfl ?_
  refine go ?_;intros
  refine c_ste (f := eHead) x2.1.heads (⟨x27.name, x25.1⟩ : Head) (idx_get h28).2 ?_
  refine go ?_;intros
  cases h
  exact r_endg
 replace h := itf h c
 try rw [c]
 refine go ?_;intros
 refine w_cond rfl (fun c => ?_) (fun c => ?_)
 ·replace h := itt h c
  try rw [c]
  obtain ⟨x29, h30, h⟩ := bnd h
  refine go ?_;intros
  refine r_ire (xs := x2.1.commits) rfl rfl h30 rfl ?_
  refine go ?_;intros
  refine r_lopg (f := eCommitX) (g := eInt) (xs := x2.1.commits) (x := x29) (ys := x29.up) (idx_get h30).2 rfl rfl rfl fun b31 c32 => ?_
  obtain ⟨h36, h⟩ := gd h
  refine go ?_;intros
  refine r_app (f := eInt) (xs := x29.up) (ys := ([x9.1] : (List Int))) rfl (src_mv rfl rfl (by first | rfl | simp)) rfl rfl (by first | rfl | simp) h36 fun b34 c35 => ?_
  refine go ?_;intros
  refine r_ire (xs := x2.1.commits) rfl rfl h30 rfl ?_
  refine go ?_;intros
  refine c_stc (f := eCommitX) x2.1.commits (⟨(x29.up ++ ([x9.1] : (List Int))), x29.sheet, x29.note⟩ : Commit) (idx_get h30).2 ?_
  refine go ?_;intros
  cases h
  exact r_endg
 replace h := itf h c
 try rw [c]
 refine go ?_;intros
 refine w_cond rfl (fun c => ?_) (fun c => ?_)
 ·replace h := itt h c
  try rw [c]
  refine go ?_;intros
  refine r_frz ?_
  obtain ⟨x37, h38, h⟩ := bnd h
  refine go ?_;intros
  refine c_callg (c := c_de9) ((⟨a0.b, x11.2⟩ : Rd), g0, g1) H_de9 h38 fun ch => ?_
  refine go ?_;intros
  refine c_fz ?_
  obtain ⟨x41, h42, h⟩ := bnd h
  refine go ?_;intros
  refine r_ire (xs := x2.1.commits) rfl rfl h42 rfl ?_
  refine go ?_;intros
  refine c_ste (f := eCommitX) x2.1.commits (⟨x41.up, x37.1, x41.note⟩ : Commit) (idx_get h42).2 ?_
  refine go ?_;intros
  cases h
  exact r_endg
 replace h := itf h c
 try rw [c]
 refine go ?_;intros
 refine w_cond rfl (fun c => ?_) (fun c => ?_)
 ·replace h := itt h c
  try rw [c]
  obtain ⟨x43, h44, h⟩ := bnd h
  refine go ?_;intros
  refine r_ire (xs := x2.1.commits) rfl rfl h44 rfl ?_
  refine go ?_;intros
  refine c_ste (f := eCommitX) x2.1.commits (⟨x43.up, x43.sheet, (⟨#[]⟩ : Str)⟩ : Commit) (idx_get h44).2 ?_
  refine go ?_;intros
  cases h
  exact r_endg
 replace h := itf h c
 try rw [c]
 refine go ?_;intros
 refine w_cond rfl (fun c => ?_) (fun c => ?_)
 ·replace h := itt h c
  try rw [c]
  obtain ⟨x45, h46, h⟩ := bnd h
  refine go ?_;intros
  refine r_ire (xs := x2.1.heads) rfl rfl h46 rfl ?_
  refine go ?_;intros
  refine r_lde (f := eHead) (xs := x2.1.heads) (x := x45) rfl rfl (idx_get h46).2 rfl rfl rfl ?_
  obtain ⟨h50, h⟩ := gd h
  refine go ?_;intros
  refine r_app (f := eHead) (xs := x2.1.heads) (ys := ([x45] : (List Head))) rfl (src_mv rfl rfl (by first | rfl | simp)) rfl rfl (by first | rfl | simp) h50 fun b48 c49 => ?_
  refine go ?_;intros
  cases h
  exact r_endg
 replace h := itf h c
 try rw [c]
 refine go ?_;intros
 refine w_cond rfl (fun c => ?_) (fun c => ?_)
 ·replace h := itt h c
  try rw [c]
  obtain ⟨x51, h52, h⟩ := bnd h
  refine go ?_;intros
  refine r_ire (xs := x2.1.commits) rfl rfl h52 rfl ?_
  refine go ?_;intros
  refine c_ste (f := eCommitX) x2.1.commits (⟨[], x51.sheet, x51.note⟩ : Commit) (idx_get h52).2 ?_
  refine go ?_;intros
  cases h
  exact r_endg
 replace h := itf h c
 try rw [c]
 refine go ?_;intros
 cases h
 exact r_endg
theorem d_ac9 {G : Gam} (H_ah9 : Has G c_ah9) (H_ad9 : Has G c_ad9) (a0 : Repo) (a1 : Str) (r : Int) (h : gf_ac9 a0 a1 = some r) : Does G if_ac9 ks_ac9 (c_ac9.args (a0, a1)) [] (c_ac9.ans (a0, a1) r) := by
 refine does_pn (L := [(0, .agg [.ro (List.map (eCommit false) a0.commits), .ro (List.map eHead a0.heads)]), (1, .v (.string a1))]) (fun bs => pin) fun bs t o => ?_
 show vwp _ ib_ac9 _ _
 unfold ib_ac9
 refine w_ir ?_
 unfold gf_ac9 at h
 obtain ⟨x2, h3, h⟩ := bnd h
 refine go ?_;intros
 refine c_call (c := c_ah9) (a0, a1) H_ah9 h3 fun ch => ?_
 obtain ⟨x4, h5, h⟩ := bnd h
 refine go ?_;intros
 refine c_call (c := c_ad9) (a0) H_ad9 h5 fun ch => ?_
 refine go ?_;intros
 refine s_split rfl (fun c => ?_) (fun c => ?_)
 ·replace h := itt h c
  rw [c]
  refine go ?_;intros
  cases h
  exact r_end
 replace h := itf h c
 rw [c]
 refine go ?_;intros
 refine w_cond rfl (fun c => ?_) (fun c => ?_)
 ·replace h := itt h c
  try rw [c]
  refine go ?_;intros
  cases h
  exact r_end
 replace h := itf h c
 try rw [c]
 obtain ⟨x6, h7, h⟩ := bnd h
 refine go ?_;intros
 refine r_iro rfl rfl h7 rfl ?_
 refine go ?_;intros
 cases h
 exact r_end
theorem d_bb9 {G : Gam}  (a0 : (List Bool)) (r : (List Int)) (h : gf_bb9 a0 = some r) : Does G if_bb9 ks_bb9 (c_bb9.args (a0)) [] (c_bb9.ans (a0) r) := by
 refine does_pn (L := [(0, .ro (List.map eBool a0))]) (fun bs => pin) fun bs t o => ?_
 show vwp _ ib_bb9 _ _
 unfold ib_bb9
 refine w_ir ?_
 unfold gf_bb9 at h
 obtain ⟨q26, h41, h⟩ := bnd h
 refine go ?_;intros
 refine w_last (fun t o => ∃ b39 c40, Pin t (ovr [(3, .ref 40 b39 c40 0 q26.length 17)] t) ∧ PinH o (ovh [(40, ent b39 c40 17 (List.map eInt q26))] o)) ?_ ?_
 ·refine w_loop2 (fun n t o => ∃ n31 v27 v28 b29 c30, gl_bb9_1 a0 n31 v27 v28 = some q26 ∧ n31 = n ∧ Pin t (ovr [(0, .ro (List.map eBool a0)), (3, .ref 40 b29 c30 0 v28.length 17), (4, .v (.int .i64 v27))] t) ∧ PinH o (ovh [(40, ent b29 c30 17 (List.map eInt v28))] o)) _ ⟨_, _, _, _, _, h41, rfl, pin, pinh⟩ ?_
  rintro n t o ⟨n31, v27, v28, b29, c30, h41, rfl, pq1, pq2⟩
  refine pinned pq1 pq2 ?_
  cases n31 with
  | zero => rw [gl_bb9_1] at h41; cases h41
  | succ n31 =>
   rw [gl_bb9_1] at h41
   refine go ?_;intros
   refine w_cond rfl (fun c => ?_) (fun c => ?_)
   ·replace h41 := itt h41 c
    try rw [c]
    obtain ⟨x32, h33, h41⟩ := bnd h41
    refine go ?_;intros
    refine r_iro rfl rfl h33 rfl ?_
    refine go ?_;intros
    refine w_cond rfl (fun c => ?_) (fun c => ?_)
    ·replace h41 := itt h41 c
     try rw [c]
     obtain ⟨h37, h41⟩ := gd h41
     refine go ?_;intros
     refine r_app (f := eInt) (xs := v28) (ys := ([v27] : (List Int))) rfl (src_mv rfl rfl (by first | rfl | simp)) rfl rfl (by first | rfl | simp) h37 fun b35 c36 => ?_
     refine go ?_;intros
     exact k_ln2 _ (Nat.lt_succ_self _) ⟨_, _, _, _, _, h41, rfl, pin, pinh⟩
    replace h41 := itf h41 c
    try rw [c]
    refine go ?_;intros
    exact k_ln2 _ (Nat.lt_succ_self _) ⟨_, _, _, _, _, h41, rfl, pin, pinh⟩
   replace h41 := itf h41 c
   try rw [c]
   refine go ?_;intros
   cases h41
   exact k_cn ⟨_, _, pin, pinh⟩
 rintro t o ⟨b39, c40, pq1, pq2⟩
 refine pinnedQ pq1 pq2 ?_
 refine go ?_;intros
 cases h
 exact r_end
theorem d_ae9 {G : Gam} (H_ad9 : Has G c_ad9) (H_ak9 : Has G c_ak9) (H_aj9 : Has G c_aj9) (H_bb9 : Has G c_bb9) (a0 : Repo) (a1 : Int) (r : (List Int)) (h : gf_ae9 a0 a1 = some r) : Does G if_ae9 ks_ae9 (c_ae9.args (a0, a1)) [] (c_ae9.ans (a0, a1) r) := by
 refine does_pn (L := [(0, .agg [.ro (List.map (eCommit false) a0.commits), .ro (List.map eHead a0.heads)]), (1, .v (.int .i64 a1))]) (fun bs => pin) fun bs t o => ?_
 show vwp _ ib_ae9 _ _
 unfold ib_ae9
 refine w_ir ?_
 unfold gf_ae9 at h
 obtain ⟨x2, h3, h⟩ := bnd h
 refine go ?_;intros
 refine c_call (c := c_ad9) (a0) H_ad9 h3 fun ch => ?_
 refine go ?_;intros
 refine s_split rfl (fun c => ?_) (fun c => ?_)
 ·replace h := itt h c
  rw [c]
  refine go ?_;intros
  cases h
  exact r_end
 replace h := itf h c
 rw [c]
 obtain ⟨x4, h5, h⟩ := bnd h
 refine go ?_;intros
 refine c_call (c := c_ak9) (a0, a1) H_ak9 h5 fun ch => ?_
 refine go ?_;intros
 refine w_cond rfl (fun c => ?_) (fun c => ?_)
 ·replace h := itt h c
  try rw [c]
  refine go ?_;intros
  cases h
  exact r_end
 replace h := itf h c
 try rw [c]
 obtain ⟨x8, h9, h⟩ := bnd h
 refine go ?_;intros
 refine c_call (c := c_aj9) (a0, a1) H_aj9 h9 fun ch => ?_
 obtain ⟨x12, h13, h⟩ := bnd h
 refine go ?_;intros
 refine c_call (c := c_bb9) (x8) H_bb9 h13 fun ch => ?_
 refine go ?_;intros
 cases h
 exact r_end
theorem d_ci9 {G : Gam} (H_dy9 : Has G c_dy9) (H_dp9 : Has G c_dp9) (H_cm9 : Has G c_cm9) (H_dr9 : Has G c_dr9) (H_do9 : Has G c_do9) (a0 : Rd) (g0 : Option Addr) (g1 : Nat) (r : (Repo × Repo × Int)) (h : gf_ci9 a0 = some r) : Does G if_ci9 ks_ci9 (c_ci9.args (a0, g0, g1)) (c_ci9.ins (a0, g0, g1)) (c_ci9.ans (a0, g0, g1) r) := by
 refine does_pg (L := fun bs => [(0, .ptr 0 (bs 0).1 290 0 0)]) (H := fun bs => [(0, ⟨(bs 0).1, (bs 0).2, 290, true, [[.rw g0 g1 (List.map eU8 a0.b), .v (.int .i64 a0.p)]]⟩)]) (fun bs => pin) (fun bs => pinh) fun bs t o => ?_
 show vwp _ ib_ci9 _ _
 unfold ib_ci9
 refine w_ir ?_
 unfold gf_ci9 at h
 obtain ⟨x3, h4, h⟩ := bnd h
 refine go ?_;intros
 refine c_callg (c := c_dy9) (a0, g0, g1) H_dy9 h4 fun ch => ?_
 refine go ?_;intros
 refine r_pfz ?_
 obtain ⟨x10, h11, h⟩ := bnd h
 refine go ?_;intros
 refine c_call (c := c_dp9) (x3.1) H_dp9 h11 fun ch => ?_
 refine go ?_;intros
 refine r_pz (f := (eCommit true)) (g := eCommitX) (pf_Commit _) rfl rfl ?_
 obtain ⟨x17, h18, h⟩ := bnd h
 refine go ?_;intros
 refine c_callg (c := c_cm9) ((⟨a0.b, x3.2⟩ : Rd), 4, g0, g1) H_cm9 h18 fun ch => ?_
 obtain ⟨q78, h258, h⟩ := bnd h
 refine go ?_;intros
 refine w_last (fun t o => ∃ b110 c111 b112 c113 b114 b115 c116 b117 c118 b119 b120 c121 b122 c123 b124 b126 c127 b129 c130 b131, Pin t (ovr [(0, .ptr 0 (bs 0).1 290 0 0), (2, .ptr 16 b114 210 0 0), (3, .ptr 24 b119 210 0 0), (4, .ptr 32 b124 210 0 0), (5, .ptr 40 b131 210 0 0)] t) ∧ PinH o (ovh [(0, ⟨(bs 0).1, (bs 0).2, 290, true, [[.rw g0 g1 (List.map eU8 a0.b), .v (.int .i64 q78.1)]]⟩), (1000256, ent b110 c111 115 (List.map (eCommit true) [])), (1000257, ent b112 c113 130 (List.map eHead [])), (16, ⟨b114, 1, 210, true, [[.al 1000256 b110 c111 0 ([] : List Commit).length 115, .al 1000257 b112 c113 0 ([] : List Head).length 130]]⟩), (1000384, ent b115 c116 115 (List.map (eCommit true) [])), (1000385, ent b117 c118 130 (List.map eHead [])), (24, ⟨b119, 1, 210, true, [[.al 1000384 b115 c116 0 ([] : List Commit).length 115, .al 1000385 b117 c118 0 ([] : List Head).length 130]]⟩), (1000512, ent b120 c121 115 (List.map eCommitX x3.1.commits)), (1000513, ent b122 c123 130 (List.map eHead x3.1.heads)), (32, ⟨b124, 1, 210, true, [[.al 1000512 b120 c121 0 x3.1.commits.length 115, .al 1000513 b122 c123 0 x3.1.heads.length 130]]⟩), (1000640, ent b126 c127 115 (List.map eCommitX q78.2.1)), (1000641, ent b129 c130 130 (List.map eHead q78.2.2)), (40, ⟨b131, 1, 210, true, [[.al 1000640 b126 c127 0 q78.2.1.length 115, .al 1000641 b129 c130 0 q78.2.2.length 130]]⟩)] o)) ?_ ?_
 ·refine w_loop2 (fun n t o => ∃ n103 v79 v80 v96 v99 b81 c82 b83 c84 b85 b86 c87 b88 c89 b90 b91 c92 b93 c94 b95 b97 c98 b100 c101 b102, gl_ci9_1 a0 n103 v79 v80 v96 v99 = some q78 ∧ n103 = n ∧ Pin t (ovr [(0, .ptr 0 (bs 0).1 290 0 0), (2, .ptr 16 b85 210 0 0), (3, .ptr 24 b90 210 0 0), (4, .ptr 32 b95 210 0 0), (5, .ptr 40 b102 210 0 0), (6, .v (.int .i64 v79))] t) ∧ PinH o (ovh [(0, ⟨(bs 0).1, (bs 0).2, 290, true, [[.rw g0 g1 (List.map eU8 a0.b), .v (.int .i64 v80)]]⟩), (1000256, ent b81 c82 115 (List.map (eCommit true) [])), (1000257, ent b83 c84 130 (List.map eHead [])), (16, ⟨b85, 1, 210, true, [[.al 1000256 b81 c82 0 ([] : List Commit).length 115, .al 1000257 b83 c84 0 ([] : List Head).length 130]]⟩), (1000384, ent b86 c87 115 (List.map (eCommit true) [])), (1000385, ent b88 c89 130 (List.map eHead [])), (24, ⟨b90, 1, 210, true, [[.al 1000384 b86 c87 0 ([] : List Commit).length 115, .al 1000385 b88 c89 0 ([] : List Head).length 130]]⟩), (1000512, ent b91 c92 115 (List.map eCommitX x3.1.commits)), (1000513, ent b93 c94 130 (List.map eHead x3.1.heads)), (32, ⟨b95, 1, 210, true, [[.al 1000512 b91 c92 0 x3.1.commits.length 115, .al 1000513 b93 c94 0 x3.1.heads.length 130]]⟩), (1000640, ent b97 c98 115 (List.map eCommitX v96)), (1000641, ent b100 c101 130 (List.map eHead v99)), (40, ⟨b102, 1, 210, true, [[.al 1000640 b97 c98 0 v96.length 115, .al 1000641 b100 c101 0 v99.length 130]]⟩)] o)) _ ⟨_, _, _, _, _, _, _, _, _, _, _, _, _, _, _, _, _, _, _, _, _, _, _, _, _, h258, rfl, pin, pinh⟩ ?_
  rintro n t o ⟨n103, v79, v80, v96, v99, b81, c82, b83, c84, b85, b86, c87, b88, c89, b90, b91, c92, b93, c94, b95, b97, c98, b100, c101, b102, h258, rfl, pq1, pq2⟩
  refine pinned pq1 pq2 ?_
  cases n103 with
  | zero => rw [gl_ci9_1] at h258; cases h258
  | succ n103 =>
   rw [gl_ci9_1] at h258
   refine go ?_;intros
   refine w_cond rfl (fun c => ?_) (fun c => ?_)
   ·replace h258 := itt h258 c
    try rw [c]
    refine go ?_;intros
    refine r_rawl ?_
    refine go ?_;intros
    refine r_rl rfl rfl ?_
    refine go ?_;intros
    refine r_pfz ?_
    refine go ?_;intros
    refine r_unr ?_
    obtain ⟨x104, h105, h258⟩ := bnd h258
    rcases x104 with ⟨_ | y106, p107⟩
    ·dsimp only at h258
     refine go ?_;intros
     refine c_callg (c := c_dr9) ((⟨a0.b, v80⟩ : Rd), (⟨v96, v99⟩ : Repo), g0, g1, (hdrA b97), c98, (hdrA b100), c101) H_dr9 h105 fun ch108 => ?_
     refine go ?_;intros
     refine r_un rfl (un_hit rfl rfl (by first | rfl | simp) (un_hit rfl rfl (by first | rfl | simp) un_nil)) ?_
     refine go ?_;intros
     refine r_pz (f := eCommitX) (g := eCommitX) (pf_CommitX _) rfl rfl ?_
     refine go ?_;intros
     exact k_ln2 _ (Nat.lt_succ_self _) ⟨_, _, _, _, _, _, _, _, _, _, _, _, _, _, _, _, _, _, _, _, _, _, _, _, _, h258, rfl, pin, pinh⟩
    dsimp only at h258
    refine go ?_;intros
    refine c_callg (c := c_dr9) ((⟨a0.b, v80⟩ : Rd), (⟨v96, v99⟩ : Repo), g0, g1, (hdrA b97), c98, (hdrA b100), c101) H_dr9 h105 fun ch108 => ?_
    refine go ?_;intros
    refine r_un rfl (un_ref (un_ref un_nil)) ?_
    refine go ?_;intros
    refine r_pz (f := (eCommit true)) (g := eCommitX) (pf_Commit _) rfl rfl ?_
    refine go ?_;intros
    exact k_ln2 _ (Nat.lt_succ_self _) ⟨_, _, _, _, _, _, _, _, _, _, _, _, _, _, _, _, _, _, _, _, _, _, _, _, _, h258, rfl, pin, pinh⟩
   replace h258 := itf h258 c
   try rw [c]
   refine go ?_;intros
   cases h258
   exact k_cn ⟨_, _, _, _, _, _, _, _, _, _, _, _, _, _, _, _, _, _, _, _, pin, pinh⟩
 rintro t o ⟨b110, c111, b112, c113, b114, b115, c116, b117, c118, b119, b120, c121, b122, c123, b124, b126, c127, b129, c130, b131, pq1, pq2⟩
 refine pinnedQ pq1 pq2 ?_
 obtain ⟨q183, h259, h⟩ := bnd h
 refine go ?_;intros
 refine w_cut (fun t o => ∃ q183_, q183 = .inr q183_ ∧ ∃ b235 c236 b237 c238 b239 b240 c241 b242 c243 b244 b246 c247 b249 c250 b251 b252 c253 b254 c255 b256, Pin t (ovr [(2, .ptr 16 b239 210 0 0), (3, .ptr 24 b244 210 0 0), (4, .ptr 32 b251 210 0 0), (5, .ptr 40 b256 210 0 0)] t) ∧ PinH o (ovh [(1000256, ent b235 c236 115 (List.map (eCommit true) [])), (1000257, ent b237 c238 130 (List.map eHead [])), (16, ⟨b239, 1, 210, true, [[.al 1000256 b235 c236 0 ([] : List Commit).length 115, .al 1000257 b237 c238 0 ([] : List Head).length 130]]⟩), (1000384, ent b240 c241 115 (List.map (eCommit true) [])), (1000385, ent b242 c243 130 (List.map eHead [])), (24, ⟨b244, 1, 210, true, [[.al 1000384 b240 c241 0 ([] : List Commit).length 115, .al 1000385 b242 c243 0 ([] : List Head).length 130]]⟩), (1000512, ent b246 c247 115 (List.map eCommitX q183_.1)), (1000513, ent b249 c250 130 (List.map eHead q183_.2.1)), (32, ⟨b251, 1, 210, true, [[.al 1000512 b246 c247 0 q183_.1.length 115, .al 1000513 b249 c250 0 q183_.2.1.length 130]]⟩), (1000640, ent b252 c253 115 (List.map eCommitX q78.2.1)), (1000641, ent b254 c255 130 (List.map eHead q78.2.2)), (40, ⟨b256, 1, 210, true, [[.al 1000640 b252 c253 0 q78.2.1.length 115, .al 1000641 b254 c255 0 q78.2.2.length 130]]⟩), (0, ⟨(bs 0).1, (bs 0).2, 290, true, [[.rw g0 g1 (List.map eU8 a0.b), .v (.int .i64 q183_.2.2)]]⟩)] o)) ?_ ?_
 ·obtain ⟨x184, h185, h259⟩ := bnd h259
  refine go ?_;intros
  refine c_callg (c := c_cm9) ((⟨a0.b, q78.1⟩ : Rd), 10, g0, g1) H_cm9 h185 fun ch => ?_
  refine go ?_;intros
  refine w_cond rfl (fun c => ?_) (fun c => ?_)
  ·replace h259 := itt h259 c
   try rw [c]
   obtain ⟨x186, h187, h259⟩ := bnd h259
   refine go ?_;intros
   refine c_callg (c := c_do9) ((⟨a0.b, x184.2⟩ : Rd), g0, g1) H_do9 h187 fun ch => ?_
   refine go ?_;intros
   cases h259
   replace h : some _ = some _ := h
   cases h
   exact r_endg
  replace h259 := itf h259 c
  try rw [c]
  refine go ?_;intros
  refine w_cond rfl (fun c => ?_) (fun c => ?_)
  ·replace h259 := itt h259 c
   try rw [c]
   obtain ⟨x192, h193, h259⟩ := bnd h259
   refine go ?_;intros
   refine c_callg (c := c_do9) ((⟨a0.b, x184.2⟩ : Rd), g0, g1) H_do9 h193 fun ch => ?_
   refine go ?_;intros
   cases h259
   replace h : some _ = some _ := h
   cases h
   exact r_endg
  replace h259 := itf h259 c
  try rw [c]
  obtain ⟨q198, h260, h259⟩ := bnd h259
  refine go ?_;intros
  refine w_cut (fun t o => ∃ b200 c201 b202 c203 b204 b205 c206 b207 c208 b209 b210 c211 b212 c213 b214 b215 c216 b217 c218 b219, Pin t (ovr [(0, .ptr 0 (bs 0).1 290 0 0), (2, .ptr 16 b204 210 0 0), (3, .ptr 24 b209 210 0 0), (4, .ptr 32 b214 210 0 0), (5, .ptr 40 b219 210 0 0), (32, .v (.bool q198))] t) ∧ PinH o (ovh [(0, ⟨(bs 0).1, (bs 0).2, 290, true, [[.rw g0 g1 (List.map eU8 a0.b), .v (.int .i64 x184.2)]]⟩), (1000256, ent b200 c201 115 (List.map (eCommit true) [])), (1000257, ent b202 c203 130 (List.map eHead [])), (16, ⟨b204, 1, 210, true, [[.al 1000256 b200 c201 0 ([] : List Commit).length 115, .al 1000257 b202 c203 0 ([] : List Head).length 130]]⟩), (1000384, ent b205 c206 115 (List.map (eCommit true) [])), (1000385, ent b207 c208 130 (List.map eHead [])), (24, ⟨b209, 1, 210, true, [[.al 1000384 b205 c206 0 ([] : List Commit).length 115, .al 1000385 b207 c208 0 ([] : List Head).length 130]]⟩), (1000512, ent b210 c211 115 (List.map eCommitX x3.1.commits)), (1000513, ent b212 c213 130 (List.map eHead x3.1.heads)), (32, ⟨b214, 1, 210, true, [[.al 1000512 b210 c211 0 x3.1.commits.length 115, .al 1000513 b212 c213 0 x3.1.heads.length 130]]⟩), (1000640, ent b215 c216 115 (List.map eCommitX q78.2.1)), (1000641, ent b217 c218 130 (List.map eHead q78.2.2)), (40, ⟨b219, 1, 210, true, [[.al 1000640 b215 c216 0 q78.2.1.length 115, .al 1000641 b217 c218 0 q78.2.2.length 130]]⟩)] o)) ?_ ?_
  ·refine go ?_;intros
   refine w_cond rfl (fun c => ?_) (fun c => ?_)
   ·replace h260 := itt h260 c
    try rw [c]
    refine go ?_;intros
    cases h260
    exact k_cn ⟨_, _, _, _, _, _, _, _, _, _, _, _, _, _, _, _, _, _, _, _, pin, pinh⟩
   replace h260 := itf h260 c
   try rw [c]
   refine go ?_;intros
   refine w_cond rfl (fun c => ?_) (fun c => ?_)
   ·replace h260 := itt h260 c
    try rw [c]
    refine go ?_;intros
    cases h260
    exact k_cn ⟨_, _, _, _, _, _, _, _, _, _, _, _, _, _, _, _, _, _, _, _, pin, pinh⟩
   replace h260 := itf h260 c
   try rw [c]
   refine go ?_;intros
   cases h260
   exact k_cn ⟨_, _, _, _, _, _, _, _, _, _, _, _, _, _, _, _, _, _, _, _, pin, pinh⟩
  rintro t o ⟨b200, c201, b202, c203, b204, b205, c206, b207, c208, b209, b210, c211, b212, c213, b214, b215, c216, b217, c218, b219, pq1, pq2⟩
  refine pinned pq1 pq2 ?_
  refine go ?_;intros
  refine w_cond rfl (fun c => ?_) (fun c => ?_)
  ·replace h259 := itt h259 c
   try rw [c]
   refine go ?_;intros
   refine r_rawl ?_
   refine go ?_;intros
   refine r_rl rfl rfl ?_
   refine go ?_;intros
   refine r_rawl ?_
   refine go ?_;intros
   refine r_ren ?_
   refine go ?_;intros
   refine r_pfz ?_
   refine go ?_;intros
   refine r_unr ?_
   obtain ⟨x220, h221, h259⟩ := bnd h259
   rcases x220 with ⟨_ | y222, p223⟩
   ·dsimp only at h259
    refine go ?_;intros
    refine c_callg (c := c_dr9) ((⟨a0.b, x184.2⟩ : Rd), x3.1, g0, g1, (hdrA b210), c211, (hdrA b212), c213) H_dr9 h221 fun ch224 => ?_
    refine go ?_;intros
    refine r_un rfl (un_hit rfl rfl (by first | rfl | simp) (un_hit rfl rfl (by first | rfl | simp) un_nil)) ?_
    refine go ?_;intros
    refine r_pz (f := eCommitX) (g := eCommitX) (pf_CommitX _) rfl rfl ?_
    refine go ?_;intros
    refine r_rna rfl (rn_ref (m2 := 2000625) rfl rfl (rn_ref (m2 := 2000626) rfl rfl rn_nil)) ?_
    refine go ?_;intros
    refine r_rl rfl rfl ?_
    refine go ?_;intros
    refine r_pfz ?_
    refine go ?_;intros
    refine r_unr ?_
    obtain ⟨x225, h226, h259⟩ := bnd h259
    rcases x225 with ⟨_ | y227, p228⟩
    ·dsimp only at h259
     refine go ?_;intros
     refine c_callg (c := c_dr9) ((⟨a0.b, p223⟩ : Rd), x3.1, g0, g1, (hdrA b210), c211, (hdrA b212), c213) H_dr9 h226 fun ch229 => ?_
     refine go ?_;intros
     refine r_un rfl (un_hit rfl rfl (by first | rfl | simp) (un_hit rfl rfl (by first | rfl | simp) un_nil)) ?_
     refine go ?_;intros
     refine r_pz (f := eCommitX) (g := eCommitX) (pf_CommitX _) rfl rfl ?_
     refine go ?_;intros
     cases h259
     exact k_cn ⟨_, rfl, _, _, _, _, _, _, _, _, _, _, _, _, _, _, _, _, _, _, _, _, pin, pinh⟩
    dsimp only at h259
    refine go ?_;intros
    refine c_callg (c := c_dr9) ((⟨a0.b, p223⟩ : Rd), x3.1, g0, g1, (hdrA b210), c211, (hdrA b212), c213) H_dr9 h226 fun ch229 => ?_
    refine go ?_;intros
    refine r_un rfl (un_ref (un_ref un_nil)) ?_
    refine go ?_;intros
    refine r_pz (f := (eCommit true)) (g := eCommitX) (pf_Commit _) rfl rfl ?_
    refine go ?_;intros
    cases h259
    exact k_cn ⟨_, rfl, _, _, _, _, _, _, _, _, _, _, _, _, _, _, _, _, _, _, _, _, pin, pinh⟩
   dsimp only at h259
   refine go ?_;intros
   refine c_callg (c := c_dr9) ((⟨a0.b, x184.2⟩ : Rd), x3.1, g0, g1, (hdrA b210), c211, (hdrA b212), c213) H_dr9 h221 fun ch224 => ?_
   refine go ?_;intros
   refine r_un rfl (un_ref (un_ref un_nil)) ?_
   refine go ?_;intros
   refine r_pz (f := (eCommit true)) (g := eCommitX) (pf_Commit _) rfl rfl ?_
   refine go ?_;intros
   refine r_rna rfl (rn_ref (m2 := 2000625) rfl rfl (rn_ref (m2 := 2000626) rfl rfl rn_nil)) ?_
   refine go ?_;intros
   refine r_rl rfl rfl ?_
   refine go ?_;intros
   refine r_pfz ?_
   refine go ?_;intros
   refine r_unr ?_
   obtain ⟨x230, h231, h259⟩ := bnd h259
   rcases x230 with ⟨_ | y232, p233⟩
   ·dsimp only at h259
    refine go ?_;intros
    refine c_callg (c := c_dr9) ((⟨a0.b, p223⟩ : Rd), y222, g0, g1, (hdrA (ch224 0).1), (ch224 0).2, (hdrA (ch224 1).1), (ch224 1).2) H_dr9 h231 fun ch234 => ?_
    refine go ?_;intros
    refine r_un rfl (un_hit rfl rfl (by first | rfl | simp) (un_hit rfl rfl (by first | rfl | simp) un_nil)) ?_
    refine go ?_;intros
    refine r_pz (f := eCommitX) (g := eCommitX) (pf_CommitX _) rfl rfl ?_
    refine go ?_;intros
    cases h259
    exact k_cn ⟨_, rfl, _, _, _, _, _, _, _, _, _, _, _, _, _, _, _, _, _, _, _, _, pin, pinh⟩
   dsimp only at h259
   refine go ?_;intros
   refine c_callg (c := c_dr9) ((⟨a0.b, p223⟩ : Rd), y222, g0, g1, (hdrA (ch224 0).1), (ch224 0).2, (hdrA (ch224 1).1), (ch224 1).2) H_dr9 h231 fun ch234 => ?_
   refine go ?_;intros
   refine r_un rfl (un_ref (un_ref un_nil)) ?_
   refine go ?_;intros
   refine r_pz (f := (eCommit true)) (g := eCommitX) (pf_Commit _) rfl rfl ?_
   refine go ?_;intros
   cases h259
   exact k_cn ⟨_, rfl, _, _, _, _, _, _, _, _, _, _, _, _, _, _, _, _, _, _, _, _, pin, pinh⟩
  replace h259 := itf h259 c
  try rw [c]
  refine go ?_;intros
  cases h259
  exact k_cn ⟨_, rfl, _, _, _, _, _, _, _, _, _, _, _, _, _, _, _, _, _, _, _, _, pin, pinh⟩
 rintro t o ⟨q183, rfl, b235, c236, b237, c238, b239, b240, c241, b242, c243, b244, b246, c247, b249, c250, b251, b252, c253, b254, c255, b256, pq1, pq2⟩
 refine pinned pq1 pq2 ?_
 refine go ?_;intros
 cases h
 exact r_endg
end Go.Proofs.AM
