/- A part of the proofs of this seat's statements (KBF12): lemmas on an abstract machine for the program's functions. Conditions: none. -/
import Derived.Test.YtbildbphkmdemaaKBD
set_option linter.unusedVariables false
set_option linter.unusedSimpArgs false
set_option maxRecDepth 100000
set_option maxHeartbeats 4000000
namespace Go.Proofs.AM
attribute [local irreducible] vwp vstps vstpLs vstp vdo vret kseq kblk kloop kend kcut kloop2 frzV renV shutK pfzV trnV unrV
theorem d_spec_l7Note {G : Gam} (H_spec_l12Rd_of : Has G c_spec_l12Rd_of) (a0 : Rd) (g0 : Option Addr) (g1 : Nat) (r : (Str × Int)) (h : gf_spec_l7Note a0 = some r) : Does G if_spec_l7Note ks_spec_l7Note (c_spec_l7Note.args (a0, g0, g1)) (c_spec_l7Note.ins (a0, g0, g1)) (c_spec_l7Note.ans (a0, g0, g1) r) := by
  refine does_pg (L := fun bs => [(0, .ptr 0 (bs 0).1 290 0 0)]) (H := fun bs => [(0, ⟨(bs 0).1, (bs 0).2, 290, true, [[.rw g0 g1 (List.map eU8 a0.b), .v (.int .i64 a0.p)]]⟩)]) (fun bs => pin) (fun bs => pinh) fun bs t o => ?_
  show vwp _ ib_spec_l7Note _ _
  unfold ib_spec_l7Note
  refine w_ir ?_
  unfold gf_spec_l7Note at h
  obtain ⟨x2, h3, h⟩ := bnd h
  refine go ?_; intros
  refine c_callg (c := c_spec_l12Rd_of) (a0, ([(⟨#[97, 110, 110]⟩ : Str), (⟨#[98, 111, 98]⟩ : Str), (⟨#[102, 105, 120]⟩ : Str)] : (List Str)), g0, g1) H_spec_l12Rd_of h3 fun ch => ?_
  refine go ?_; intros
  cases h
  exact r_endg
theorem d_spec_l7Grow {G : Gam} (H_spec_l7Name : Has G c_spec_l7Name) (H_spec_l7Head : Has G c_spec_l7Head) (H_spec_l12Rd_pick : Has G c_spec_l12Rd_pick) (H_spec_RepoBranch : Has G c_spec_RepoBranch) (H_spec_l4Near : Has G c_spec_l4Near) (H_spec_l7Note : Has G c_spec_l7Note) (H_spec_l7Copy : Has G c_spec_l7Copy) (H_spec_l7Add : Has G c_spec_l7Add) (a0 : Rd) (a1 : Repo) (g0 : Option Addr) (g1 : Nat) (g2 : Option Addr) (g3 : Nat) (g4 : Option Addr) (g5 : Nat) (r : ((Option Repo) × Int)) (h : gf_spec_l7Grow a0 a1 = some r) : Does G if_spec_l7Grow ks_spec_l7Grow (c_spec_l7Grow.args (a0, a1, g0, g1, g2, g3, g4, g5)) (c_spec_l7Grow.ins (a0, a1, g0, g1, g2, g3, g4, g5)) (c_spec_l7Grow.ans (a0, a1, g0, g1, g2, g3, g4, g5) r) := by
  refine does_pg (L := fun bs => [(0, .ptr 0 (bs 0).1 290 0 0), (1, .agg [.raw g2 g3 (List.map (eCommit false) a1.commits), .raw g4 g5 (List.map eHead a1.heads)])]) (H := fun bs => [(0, ⟨(bs 0).1, (bs 0).2, 290, true, [[.rw g0 g1 (List.map eU8 a0.b), .v (.int .i64 a0.p)]]⟩)]) (fun bs => pin) (fun bs => pinh) fun bs t o => ?_
  show vwp _ ib_spec_l7Grow _ _
  unfold ib_spec_l7Grow
  refine w_ir ?_
  unfold gf_spec_l7Grow at h
  obtain ⟨x3, h4, h⟩ := bnd h
  refine go ?_; intros
  refine c_callg (c := c_spec_l7Name) (a0, g0, g1) H_spec_l7Name h4 fun ch => ?_
  obtain ⟨x5, h6, h⟩ := bnd h
  refine go ?_; intros
  refine c_call (c := c_spec_l7Head) (a1, x3.1) H_spec_l7Head h6 fun ch => ?_
  refine go ?_; intros
  refine w_cond rfl (fun c => ?_) (fun c => ?_)
  · replace h := itt h c
    try rw [c]
    obtain ⟨x7, h8, h⟩ := bnd h
    refine go ?_; intros
    refine c_callg (c := c_spec_l12Rd_pick) ((⟨a0.b, x3.2⟩ : Rd), (a1.heads.length : Int), g0, g1) H_spec_l12Rd_pick h8 fun ch => ?_
    obtain ⟨x9, h10, h⟩ := bnd h
    refine go ?_; intros
    refine r_iro rfl rfl h10 rfl ?_
    obtain ⟨x11, h12, h⟩ := bnd h
    refine go ?_; intros
    refine c_call (c := c_spec_RepoBranch) (a1, x3.1, x9.name) H_spec_RepoBranch h12 fun ch => ?_
    refine go ?_; intros
    refine w_cond rfl (fun c => ?_) (fun c => ?_)
    · replace h := itt h (by first | exact c | (have c2 := c; simp only [List.length_map] at c2; exact c2))
      try rw [c]
      refine go ?_; intros
      cases h
      exact r_endg
    replace h := itf h (by first | exact c | (have c2 := c; simp only [List.length_map] at c2; exact c2))
    try rw [c]
    refine go ?_; intros
    refine r_ldr rfl rfl rfl rfl ?_
    refine go ?_; intros
    cases h
    exact r_endg
  replace h := itf h c
  try rw [c]
  obtain ⟨x18, h19, h⟩ := bnd h
  refine go ?_; intros
  refine r_iro rfl rfl h19 rfl ?_
  obtain ⟨q20, h75, h⟩ := bnd h
  refine go ?_; intros
  refine w_cut (fun t o => ∃ b30 b31 c32 b33 c34 b35 b36 c37 b40, Pin t (ovr [(0, .ptr 0 (bs 0).1 290 0 0), (3, .ptr 24 b30 210 0 0), (4, .ptr 32 b35 210 0 0), (6, .v (.int .i64 x5)), (9, .v (.int .i64 x18.at_)), (10, .ptr 80 b40 115 0 0)] t) ∧ PinH o (ovh [(0, ⟨(bs 0).1, (bs 0).2, 290, true, [[.rw g0 g1 (List.map eU8 a0.b), .v (.int .i64 q20.1)]]⟩), (24, ⟨b30, 1, 210, true, [[.rw g2 g3 (List.map (eCommit false) a1.commits), .rw g4 g5 (List.map eHead a1.heads)]]⟩), (1000512, ent b31 c32 115 (List.map (eCommit true) [])), (1000513, ent b33 c34 130 (List.map eHead [])), (32, ⟨b35, 1, 210, true, [[.al 1000512 b31 c32 0 ([] : List Commit).length 115, .al 1000513 b33 c34 0 ([] : List Head).length 130]]⟩), (1001280, ent b36 c37 17 (List.map eInt [x18.at_])), (80, ⟨b40, 1, 115, true, [[.al 1001280 b36 c37 0 [x18.at_].length 17, .sl false 4 (List.map (eFeat false) q20.2.1), .v (.string q20.2.2)]]⟩)] o)) ?_ ?_
  · obtain ⟨x22, h23, h75⟩ := bnd h75
    refine go ?_; intros
    refine r_iro rfl rfl h23 rfl ?_
    obtain ⟨x24, h25, h75⟩ := bnd h75
    refine go ?_; intros
    refine c_callg (c := c_spec_l4Near) ((⟨a0.b, x3.2⟩ : Rd), x22.sheet, g0, g1) H_spec_l4Near h25 fun ch => ?_
    obtain ⟨x26, h27, h75⟩ := bnd h75
    refine go ?_; intros
    refine c_callg (c := c_spec_l7Note) ((⟨a0.b, x24.2⟩ : Rd), g0, g1) H_spec_l7Note h27 fun ch => ?_
    refine go ?_; intros
    cases h75
    exact k_cn ⟨_, _, _, _, _, _, _, _, _, pin, pinh⟩
  rintro t o ⟨b30, b31, c32, b33, c34, b35, b36, c37, b40, pq1, pq2⟩
  refine pinned pq1 pq2 ?_
  obtain ⟨x41, h42, h⟩ := bnd h
  refine go ?_; intros
  refine c_callg (c := c_spec_l12Rd_pick) ((⟨a0.b, q20.1⟩ : Rd), (a1.heads.length : Int), g0, g1) H_spec_l12Rd_pick h42 fun ch => ?_
  obtain ⟨x43, h44, h⟩ := bnd h
  refine go ?_; intros
  refine r_iro rfl rfl h44 rfl ?_
  obtain ⟨q48, h76, h⟩ := bnd h
  refine go ?_; intros
  refine w_cut (fun t o => ∃ b52 b53 c54 b55 c56 b57 b59 c60 b61, Pin t (ovr [(3, .ptr 24 b52 210 0 0), (4, .ptr 32 b57 210 0 0), (6, .v (.int .i64 x5)), (10, .ptr 80 b61 115 0 0)] t) ∧ PinH o (ovh [(24, ⟨b52, 1, 210, true, [[.rw g2 g3 (List.map (eCommit false) a1.commits), .rw g4 g5 (List.map eHead a1.heads)]]⟩), (1000512, ent b53 c54 115 (List.map (eCommit true) [])), (1000513, ent b55 c56 130 (List.map eHead [])), (32, ⟨b57, 1, 210, true, [[.al 1000512 b53 c54 0 ([] : List Commit).length 115, .al 1000513 b55 c56 0 ([] : List Head).length 130]]⟩), (1001280, ent b59 c60 17 (List.map eInt q48.1)), (80, ⟨b61, 1, 115, true, [[.al 1001280 b59 c60 0 q48.1.length 17, .sl false 4 (List.map (eFeat false) q20.2.1), .v (.string q20.2.2)]]⟩), (0, ⟨(bs 0).1, (bs 0).2, 290, true, [[.rw g0 g1 (List.map eU8 a0.b), .v (.int .i64 q48.2)]]⟩)] o)) ?_ ?_
  · refine go ?_; intros
    refine s_split rfl (fun c => ?_) (fun c => ?_)
    · replace h76 := itt h76 c
      rw [c]
      obtain ⟨x49, h50, h76⟩ := bnd h76
      refine go ?_; intros
      refine c_callg (c := c_spec_l12Rd_pick) ((⟨a0.b, x41.2⟩ : Rd), 4, g0, g1) H_spec_l12Rd_pick h50 fun ch => ?_
      refine go ?_; intros
      refine w_cond rfl (fun c => ?_) (fun c => ?_)
      · replace h76 := itt h76 c
        try rw [c]
        refine go ?_; intros
        cases h76
        exact k_cn ⟨_, _, _, _, _, _, _, _, _, pin, pinh⟩
      replace h76 := itf h76 c
      try rw [c]
      refine go ?_; intros
      cases h76
      exact k_cn ⟨_, _, _, _, _, _, _, _, _, pin, pinh⟩
    replace h76 := itf h76 c
    rw [c]
    refine go ?_; intros
    cases h76
    exact k_cn ⟨_, _, _, _, _, _, _, _, _, pin, pinh⟩
  rintro t o ⟨b52, b53, c54, b55, c56, b57, b59, c60, b61, pq1, pq2⟩
  refine pinned pq1 pq2 ?_
  refine go ?_; intros
  refine w_cond rfl (fun c => ?_) (fun c => ?_)
  · replace h := itt h (by first | exact c | (have c2 := c; simp only [List.length_map] at c2; exact c2))
    try rw [c]
    refine go ?_; intros
    refine r_ldr rfl rfl rfl rfl ?_
    refine go ?_; intros
    cases h
    exact r_endg
  replace h := itf h (by first | exact c | (have c2 := c; simp only [List.length_map] at c2; exact c2))
  try rw [c]
  obtain ⟨x63, h64, h⟩ := bnd h
  refine go ?_; intros
  refine c_call (c := c_spec_l7Copy) (a1) H_spec_l7Copy h64 fun ch => ?_
  obtain ⟨x69, h70, h⟩ := bnd h
  refine go ?_; intros
  refine c_callg (c := c_spec_l7Add) (x63, x5, (⟨q48.1, q20.2.1, q20.2.2⟩ : Commit)) H_spec_l7Add h70 fun ch => ?_
  refine go ?_; intros
  cases h
  exact r_endg
theorem d_spec_l7Repo {G : Gam} (H_spec_RepoNew : Has G c_spec_RepoNew) (H_spec_l3Sheet : Has G c_spec_l3Sheet) (H_spec_l12Rd_pick : Has G c_spec_l12Rd_pick) (H_spec_l7Grow : Has G c_spec_l7Grow) (a0 : Rd) (g0 : Option Addr) (g1 : Nat) (r : (Repo × Int)) (h : gf_spec_l7Repo a0 = some r) : Does G if_spec_l7Repo ks_spec_l7Repo (c_spec_l7Repo.args (a0, g0, g1)) (c_spec_l7Repo.ins (a0, g0, g1)) (c_spec_l7Repo.ans (a0, g0, g1) r) := by
  refine does_pg (L := fun bs => [(0, .ptr 0 (bs 0).1 290 0 0)]) (H := fun bs => [(0, ⟨(bs 0).1, (bs 0).2, 290, true, [[.rw g0 g1 (List.map eU8 a0.b), .v (.int .i64 a0.p)]]⟩)]) (fun bs => pin) (fun bs => pinh) fun bs t o => ?_
  show vwp _ ib_spec_l7Repo _ _
  unfold ib_spec_l7Repo
  refine w_ir ?_
  unfold gf_spec_l7Repo at h
  obtain ⟨x2, h3, h⟩ := bnd h
  refine go ?_; intros
  refine c_call (c := c_spec_RepoNew) ((⟨#[109, 97, 105, 110]⟩ : Str)) H_spec_RepoNew h3 fun ch => ?_
  refine go ?_; intros
  refine r_pfz ?_
  refine go ?_; intros
  refine r_pz (f := (eCommit true)) (g := eCommitX) (pf_Commit _) rfl rfl ?_
  refine go ?_; intros
  refine r_frz ?_
  obtain ⟨x9, h10, h⟩ := bnd h
  refine go ?_; intros
  refine c_callg (c := c_spec_l3Sheet) (a0, g0, g1) H_spec_l3Sheet h10 fun ch => ?_
  refine go ?_; intros
  refine c_fz ?_
  obtain ⟨x13, h14, h⟩ := bnd h
  refine go ?_; intros
  refine r_ire (xs := x2.1.commits) rfl rfl h14 rfl ?_
  refine go ?_; intros
  refine c_ste (f := eCommitX) x2.1.commits (⟨x13.up, x9.1, x13.note⟩ : Commit) (idx_get h14).2 ?_
  obtain ⟨x15, h16, h⟩ := bnd h
  refine go ?_; intros
  refine c_callg (c := c_spec_l12Rd_pick) ((⟨a0.b, x9.2⟩ : Rd), 7, g0, g1) H_spec_l12Rd_pick h16 fun ch => ?_
  obtain ⟨q56, h94, h⟩ := bnd h
  refine go ?_; intros
  refine w_last (fun t o => ∃ b78 c79 b80 c81 b82 b84 c85 b87 c88 b89, Pin t (ovr [(0, .ptr 0 (bs 0).1 290 0 0), (2, .ptr 16 b82 210 0 0), (3, .ptr 24 b89 210 0 0)] t) ∧ PinH o (ovh [(0, ⟨(bs 0).1, (bs 0).2, 290, true, [[.rw g0 g1 (List.map eU8 a0.b), .v (.int .i64 q56.1)]]⟩), (1000256, ent b78 c79 115 (List.map (eCommit true) [])), (1000257, ent b80 c81 130 (List.map eHead [])), (16, ⟨b82, 1, 210, true, [[.al 1000256 b78 c79 0 ([] : List Commit).length 115, .al 1000257 b80 c81 0 ([] : List Head).length 130]]⟩), (1000384, ent b84 c85 115 (List.map eCommitX q56.2.1)), (1000385, ent b87 c88 130 (List.map eHead q56.2.2)), (24, ⟨b89, 1, 210, true, [[.al 1000384 b84 c85 0 q56.2.1.length 115, .al 1000385 b87 c88 0 q56.2.2.length 130]]⟩)] o)) ?_ ?_
  · refine w_loop2 (fun n t o => ∃ n71 v57 v58 v64 v67 b59 c60 b61 c62 b63 b65 c66 b68 c69 b70, gl_spec_l7Repo_1 a0 n71 v57 v58 v64 v67 = some q56 ∧ n71 = n ∧ Pin t (ovr [(0, .ptr 0 (bs 0).1 290 0 0), (2, .ptr 16 b63 210 0 0), (3, .ptr 24 b70 210 0 0), (5, .v (.int .i64 v57))] t) ∧ PinH o (ovh [(0, ⟨(bs 0).1, (bs 0).2, 290, true, [[.rw g0 g1 (List.map eU8 a0.b), .v (.int .i64 v58)]]⟩), (1000256, ent b59 c60 115 (List.map (eCommit true) [])), (1000257, ent b61 c62 130 (List.map eHead [])), (16, ⟨b63, 1, 210, true, [[.al 1000256 b59 c60 0 ([] : List Commit).length 115, .al 1000257 b61 c62 0 ([] : List Head).length 130]]⟩), (1000384, ent b65 c66 115 (List.map eCommitX v64)), (1000385, ent b68 c69 130 (List.map eHead v67)), (24, ⟨b70, 1, 210, true, [[.al 1000384 b65 c66 0 v64.length 115, .al 1000385 b68 c69 0 v67.length 130]]⟩)] o)) _ ⟨_, _, _, _, _, _, _, _, _, _, _, _, _, _, _, h94, rfl, pin, pinh⟩ ?_
    rintro n t o ⟨n71, v57, v58, v64, v67, b59, c60, b61, c62, b63, b65, c66, b68, c69, b70, h94, rfl, pq1, pq2⟩
    refine pinned pq1 pq2 ?_
    cases n71 with
    | zero => rw [gl_spec_l7Repo_1] at h94; cases h94
    | succ n71 =>
      rw [gl_spec_l7Repo_1] at h94
      refine go ?_; intros
      refine w_cond rfl (fun c => ?_) (fun c => ?_)
      · replace h94 := itt h94 c
        try rw [c]
        refine go ?_; intros
        refine r_rawl ?_
        refine go ?_; intros
        refine r_rl rfl rfl ?_
        refine go ?_; intros
        refine r_pfz ?_
        refine go ?_; intros
        refine r_unr ?_
        obtain ⟨x72, h73, h94⟩ := bnd h94
        rcases x72 with ⟨_ | y74, p75⟩
        · dsimp only at h94
          refine go ?_; intros
          refine c_callg (c := c_spec_l7Grow) ((⟨a0.b, v58⟩ : Rd), (⟨v64, v67⟩ : Repo), g0, g1, (hdrA b65), c66, (hdrA b68), c69) H_spec_l7Grow h73 fun ch76 => ?_
          refine go ?_; intros
          refine r_un rfl (un_hit rfl rfl (by first | rfl | simp) (un_hit rfl rfl (by first | rfl | simp) un_nil)) ?_
          refine go ?_; intros
          refine r_pz (f := eCommitX) (g := eCommitX) (pf_CommitX _) rfl rfl ?_
          refine go ?_; intros
          exact k_ln2 _ (Nat.lt_succ_self _) ⟨_, _, _, _, _, _, _, _, _, _, _, _, _, _, _, h94, rfl, pin, pinh⟩
        dsimp only at h94
        refine go ?_; intros
        refine c_callg (c := c_spec_l7Grow) ((⟨a0.b, v58⟩ : Rd), (⟨v64, v67⟩ : Repo), g0, g1, (hdrA b65), c66, (hdrA b68), c69) H_spec_l7Grow h73 fun ch76 => ?_
        refine go ?_; intros
        refine r_un rfl (un_ref (un_ref un_nil)) ?_
        refine go ?_; intros
        refine r_pz (f := (eCommit true)) (g := eCommitX) (pf_Commit _) rfl rfl ?_
        refine go ?_; intros
        exact k_ln2 _ (Nat.lt_succ_self _) ⟨_, _, _, _, _, _, _, _, _, _, _, _, _, _, _, h94, rfl, pin, pinh⟩
      replace h94 := itf h94 c
      try rw [c]
      refine go ?_; intros
      cases h94
      exact k_cn ⟨_, _, _, _, _, _, _, _, _, _, pin, pinh⟩
  rintro t o ⟨b78, c79, b80, c81, b82, b84, c85, b87, c88, b89, pq1, pq2⟩
  refine pinnedQ pq1 pq2 ?_
  obtain ⟨x90, h91, h⟩ := bnd h
  refine go ?_; intros
  refine c_callg (c := c_spec_l12Rd_pick) ((⟨a0.b, q56.1⟩ : Rd), 4, g0, g1) H_spec_l12Rd_pick h91 fun ch => ?_
  refine go ?_; intros
  refine s_split rfl (fun c => ?_) (fun c => ?_)
  · replace h := itt h c
    rw [c]
    refine go ?_; intros
    refine w_cond rfl (fun c => ?_) (fun c => ?_)
    · replace h := itt h (by first | exact c | (have c2 := c; simp only [List.length_map] at c2; exact c2))
      try rw [c]
      refine go ?_; intros
      refine r_trn ?_
      obtain ⟨x92, h93, h⟩ := bnd h
      refine go ?_; intros
      refine r_slr (xs := q56.2.2) h93 rfl rfl rfl rfl (by first | rfl | simp) ?_
      refine go ?_; intros
      refine r_tr (f := eHead) h93 rfl rfl rfl ?_
      refine go ?_; intros
      cases h
      exact r_endg
    replace h := itf h (by first | exact c | (have c2 := c; simp only [List.length_map] at c2; exact c2))
    try rw [c]
    refine go ?_; intros
    cases h
    exact r_endg
  replace h := itf h c
  rw [c]
  refine go ?_; intros
  cases h
  exact r_endg
theorem d_spec_l7Bent {G : Gam} (H_spec_l7Repo : Has G c_spec_l7Repo) (H_spec_l12Rd_pick : Has G c_spec_l12Rd_pick) (H_spec_l12Rd_num : Has G c_spec_l12Rd_num) (H_spec_l3Bent : Has G c_spec_l3Bent) (a0 : Rd) (g0 : Option Addr) (g1 : Nat) (r : (Repo × Int)) (h : gf_spec_l7Bent a0 = some r) : Does G if_spec_l7Bent ks_spec_l7Bent (c_spec_l7Bent.args (a0, g0, g1)) (c_spec_l7Bent.ins (a0, g0, g1)) (c_spec_l7Bent.ans (a0, g0, g1) r) := by
  refine does_pg (L := fun bs => [(0, .ptr 0 (bs 0).1 290 0 0)]) (H := fun bs => [(0, ⟨(bs 0).1, (bs 0).2, 290, true, [[.rw g0 g1 (List.map eU8 a0.b), .v (.int .i64 a0.p)]]⟩)]) (fun bs => pin) (fun bs => pinh) fun bs t o => ?_
  show vwp _ ib_spec_l7Bent _ _
  unfold ib_spec_l7Bent
  refine w_ir ?_
  unfold gf_spec_l7Bent at h
  obtain ⟨x2, h3, h⟩ := bnd h
  refine go ?_; intros
  refine c_callg (c := c_spec_l7Repo) (a0, g0, g1) H_spec_l7Repo h3 fun ch => ?_
  obtain ⟨x9, h10, h⟩ := bnd h
  refine go ?_; intros
  refine c_callg (c := c_spec_l12Rd_pick) ((⟨a0.b, x2.2⟩ : Rd), (x2.1.commits.length : Int), g0, g1) H_spec_l12Rd_pick h10 fun ch => ?_
  obtain ⟨x11, h12, h⟩ := bnd h
  refine go ?_; intros
  refine c_callg (c := c_spec_l12Rd_pick) ((⟨a0.b, x9.2⟩ : Rd), 48, g0, g1) H_spec_l12Rd_pick h12 fun ch => ?_
  obtain ⟨q13, h53, h⟩ := bnd h
  refine go ?_; intros
  refine w_cut (fun t o => ∃ b14 c15 b16 c17 b18 b19 c20 b21 c22 b23, Pin t (ovr [(0, .ptr 0 (bs 0).1 290 0 0), (2, .ptr 16 b18 210 0 0), (3, .ptr 24 b23 210 0 0), (4, .v (.int .i64 x9.1)), (13, .v (.int .i64 x11.1)), (14, .v (.bool (x11.1 == 0)))] t) ∧ PinH o (ovh [(0, ⟨(bs 0).1, (bs 0).2, 290, true, [[.rw g0 g1 (List.map eU8 a0.b), .v (.int .i64 x11.2)]]⟩), (1000256, ent b14 c15 115 (List.map (eCommit true) [])), (1000257, ent b16 c17 130 (List.map eHead [])), (16, ⟨b18, 1, 210, true, [[.al 1000256 b14 c15 0 ([] : List Commit).length 115, .al 1000257 b16 c17 0 ([] : List Head).length 130]]⟩), (1000384, ent b19 c20 115 (List.map eCommitX x2.1.commits)), (1000385, ent b21 c22 130 (List.map eHead x2.1.heads)), (24, ⟨b23, 1, 210, true, [[.al 1000384 b19 c20 0 x2.1.commits.length 115, .al 1000385 b21 c22 0 x2.1.heads.length 130]]⟩)] o)) ?_ ?_
  · refine go ?_; intros
    cases h53
    exact k_cn ⟨_, _, _, _, _, _, _, _, _, _, pin, pinh⟩
  rintro t o ⟨b14, c15, b16, c17, b18, b19, c20, b21, c22, b23, pq1, pq2⟩
  refine pinned pq1 pq2 ?_
  refine go ?_; intros
  refine w_cond rfl (fun c => ?_) (fun c => ?_)
  · replace h := itt h c
    try rw [c]
    obtain ⟨x25, h26, h⟩ := bnd h
    refine go ?_; intros
    refine c_callg (c := c_spec_l12Rd_num) ((⟨a0.b, x11.2⟩ : Rd), ([(-1), (x2.1.commits.length : Int)] : (List Int)), g0, g1) H_spec_l12Rd_num h26 fun ch => ?_
    obtain ⟨x27, h28, h⟩ := bnd h
    refine go ?_; intros
    refine r_ire (xs := x2.1.heads) rfl rfl h28 rfl ?_
    refine go ?_; intros
    refine c_ste (f := eHead) x2.1.heads (⟨x27.name, x25.1⟩ : Head) (idx_get h28).2 ?_
    refine go ?_; intros
    cases h
    exact r_endg
  replace h := itf h c
  try rw [c]
  refine go ?_; intros
  refine w_cond rfl (fun c => ?_) (fun c => ?_)
  · replace h := itt h c
    try rw [c]
    obtain ⟨x29, h30, h⟩ := bnd h
    refine go ?_; intros
    refine r_ire (xs := x2.1.commits) rfl rfl h30 rfl ?_
    refine go ?_; intros
    refine r_lopg (f := eCommitX) (g := eInt) (xs := x2.1.commits) (x := x29) (ys := x29.up) (idx_get h30).2 rfl rfl rfl fun b31 c32 => ?_
    obtain ⟨h36, h⟩ := gd h
    refine go ?_; intros
    refine r_app (f := eInt) (xs := x29.up) (ys := ([x9.1] : (List Int))) rfl (src_mv rfl rfl (by first | rfl | simp)) rfl rfl (by first | rfl | simp) h36 fun b34 c35 => ?_
    refine go ?_; intros
    refine r_ire (xs := x2.1.commits) rfl rfl h30 rfl ?_
    refine go ?_; intros
    refine c_stc (f := eCommitX) x2.1.commits (⟨(x29.up ++ ([x9.1] : (List Int))), x29.sheet, x29.note⟩ : Commit) (idx_get h30).2 ?_
    refine go ?_; intros
    cases h
    exact r_endg
  replace h := itf h c
  try rw [c]
  refine go ?_; intros
  refine w_cond rfl (fun c => ?_) (fun c => ?_)
  · replace h := itt h c
    try rw [c]
    refine go ?_; intros
    refine r_frz ?_
    obtain ⟨x37, h38, h⟩ := bnd h
    refine go ?_; intros
    refine c_callg (c := c_spec_l3Bent) ((⟨a0.b, x11.2⟩ : Rd), g0, g1) H_spec_l3Bent h38 fun ch => ?_
    refine go ?_; intros
    refine c_fz ?_
    obtain ⟨x41, h42, h⟩ := bnd h
    refine go ?_; intros
    refine r_ire (xs := x2.1.commits) rfl rfl h42 rfl ?_
    refine go ?_; intros
    refine c_ste (f := eCommitX) x2.1.commits (⟨x41.up, x37.1, x41.note⟩ : Commit) (idx_get h42).2 ?_
    refine go ?_; intros
    cases h
    exact r_endg
  replace h := itf h c
  try rw [c]
  refine go ?_; intros
  refine w_cond rfl (fun c => ?_) (fun c => ?_)
  · replace h := itt h c
    try rw [c]
    obtain ⟨x43, h44, h⟩ := bnd h
    refine go ?_; intros
    refine r_ire (xs := x2.1.commits) rfl rfl h44 rfl ?_
    refine go ?_; intros
    refine c_ste (f := eCommitX) x2.1.commits (⟨x43.up, x43.sheet, (⟨#[]⟩ : Str)⟩ : Commit) (idx_get h44).2 ?_
    refine go ?_; intros
    cases h
    exact r_endg
  replace h := itf h c
  try rw [c]
  refine go ?_; intros
  refine w_cond rfl (fun c => ?_) (fun c => ?_)
  · replace h := itt h c
    try rw [c]
    obtain ⟨x45, h46, h⟩ := bnd h
    refine go ?_; intros
    refine r_ire (xs := x2.1.heads) rfl rfl h46 rfl ?_
    refine go ?_; intros
    refine r_lde (f := eHead) (xs := x2.1.heads) (x := x45) rfl rfl (idx_get h46).2 rfl rfl rfl ?_
    obtain ⟨h50, h⟩ := gd h
    refine go ?_; intros
    refine r_app (f := eHead) (xs := x2.1.heads) (ys := ([x45] : (List Head))) rfl (src_mv rfl rfl (by first | rfl | simp)) rfl rfl (by first | rfl | simp) h50 fun b48 c49 => ?_
    refine go ?_; intros
    cases h
    exact r_endg
  replace h := itf h c
  try rw [c]
  refine go ?_; intros
  refine w_cond rfl (fun c => ?_) (fun c => ?_)
  · replace h := itt h c
    try rw [c]
    obtain ⟨x51, h52, h⟩ := bnd h
    refine go ?_; intros
    refine r_ire (xs := x2.1.commits) rfl rfl h52 rfl ?_
    refine go ?_; intros
    refine c_ste (f := eCommitX) x2.1.commits (⟨[], x51.sheet, x51.note⟩ : Commit) (idx_get h52).2 ?_
    refine go ?_; intros
    cases h
    exact r_endg
  replace h := itf h c
  try rw [c]
  refine go ?_; intros
  cases h
  exact r_endg
theorem d_slices_Delete_impl_Head_impl_Head {G : Gam} (a0 : (List Head)) (a1 : Int) (a2 : Int) (r : (List Head)) (h : gf_slices_Delete_impl_Head_impl_Head a0 a1 a2 = some r) : Does G if_slices_Delete_impl_Head_impl_Head ks_slices_Delete_impl_Head_impl_Head (c_slices_Delete_impl_Head_impl_Head.args (a0, a1, a2)) (c_slices_Delete_impl_Head_impl_Head.ins (a0, a1, a2)) (c_slices_Delete_impl_Head_impl_Head.ans (a0, a1, a2) r) := by
  refine does_pg (L := fun bs => [(0, .ref 0 (bs 0).1 (bs 0).2 0 a0.length 130), (1, .v (.int .i64 a1)), (2, .v (.int .i64 a2))]) (H := fun bs => [(0, ent (bs 0).1 (bs 0).2 130 (List.map eHead a0))]) (fun bs => pin) (fun bs => pinh) fun bs t o => ?_
  show vwp _ ib_slices_Delete_impl_Head_impl_Head _ _
  unfold ib_slices_Delete_impl_Head_impl_Head
  refine w_ir ?_
  unfold gf_slices_Delete_impl_Head_impl_Head at h
  obtain ⟨q, hs, h⟩ := bnd h
  obtain ⟨s0, s1, s2⟩ := slc_le hs
  refine go ?_; intros
  refine r_sl3 rfl rfl rfl rfl rfl hs rfl ?_
  refine go ?_; intros
  refine w_cond rfl (fun c => ?_) (fun c => ?_)
  · replace h := itt h c
    try rw [c]
    refine go ?_; intros
    cases h
    exact r_endg
  replace h := itf h c
  try rw [c]
  refine go ?_; intros
  refine r_slv0 (j := a1) rfl rfl rfl rfl s0 (by omega) ?_
  refine go ?_; intros
  refine r_slv1 (j := a2) rfl rfl rfl rfl (by omega) s2 ?_
  refine go ?_; intros
  refine r_ain (f := eHead) (xs := a0) (ys := a0.drop a2.toNat) (i := a1.toNat) (j := a2.toNat) (m := a0.length - a2.toNat) rfl rfl rfl (del_ys a0) (by omega) (by omega) (fun _ => rfl) ?_
  refine go ?_; intros
  refine r_slx2 (i := ((a1.toNat + (a0.length - a2.toNat) : Nat) : Int)) (j := (a0.length : Int)) (rows := List.map eHead (a0.take a1.toNat ++ a0.drop a2.toNat ++ a0.drop (a1.toNat + (a0.length - a2.toNat)))) rfl rfl rfl rfl rfl (by omega) (by omega) (by simp; omega) ?_
  refine go ?_; intros
  refine r_clr (f := eHead) (xs := a0.take a1.toNat ++ a0.drop a2.toNat ++ a0.drop (a1.toNat + (a0.length - a2.toNat))) (z0 := (⟨⟨#[]⟩, 0⟩ : Head)) rfl rfl rfl (by simp; omega) (fun _ => rfl) ?_
  refine go ?_; intros
  refine r_trn ?_
  refine go ?_; intros
  refine r_trv (f := eHead) (ys := a0.take a1.toNat ++ a0.drop a2.toNat) (xs := del_xs a0 a1 a2 (⟨⟨#[]⟩, 0⟩ : Head)) rfl rfl (del_eq s0 s1 s2) (del_le s0 s1 s2) ?_
  refine go ?_; intros
  cases h
  rw [del_len s0 s1 s2]
  exact r_endg
theorem d_impl_RepoDrop {G : Gam} (H_impl_RepoOk : Has G c_impl_RepoOk) (H_impl_cloneRepo : Has G c_impl_cloneRepo) (H_impl_Repo_head : Has G c_impl_Repo_head) (H_slices_Delete_impl_Head_impl_Head : Has G c_slices_Delete_impl_Head_impl_Head) (a0 : Repo) (a1 : Str) (r : (Repo × Int)) (h : gf_impl_RepoDrop a0 a1 = some r) : Does G if_impl_RepoDrop ks_impl_RepoDrop (c_impl_RepoDrop.args (a0, a1)) [] (c_impl_RepoDrop.ans (a0, a1) r) := by
  refine does_pn (L := [(0, .agg [.ro (List.map (eCommit false) a0.commits), .ro (List.map eHead a0.heads)]), (1, .v (.string a1))]) (fun bs => pin) fun bs t o => ?_
  show vwp _ ib_impl_RepoDrop _ _
  unfold ib_impl_RepoDrop
  refine w_ir ?_
  unfold gf_impl_RepoDrop at h
  obtain ⟨x3, h4, h⟩ := bnd h
  refine go ?_; intros
  refine c_call (c := c_impl_RepoOk) (a0) H_impl_RepoOk h4 fun ch => ?_
  refine go ?_; intros
  refine w_cond rfl (fun c => ?_) (fun c => ?_)
  · replace h := itt h c
    try rw [c]
    refine go ?_; intros
    cases h
    exact r_end
  replace h := itf h c
  try rw [c]
  obtain ⟨q5, h36, h⟩ := bnd h
  refine go ?_; intros
  refine w_cut (fun t o => ∃ b13 b14 c15 b16 c17 b18 b20 c21 b23 c24 b25, Pin t (ovr [(1, .v (.string a1)), (2, .ptr 16 b13 210 0 0), (4, .ptr 32 b18 210 0 0), (6, .ptr 48 b25 210 0 0)] t) ∧ PinH o (ovh [(16, ⟨b13, 1, 210, true, [[.sl false 3 (List.map (eCommit false) a0.commits), .sl false 2 (List.map eHead a0.heads)]]⟩), (1000512, ent b14 c15 115 (List.map (eCommit true) [])), (1000513, ent b16 c17 130 (List.map eHead [])), (32, ⟨b18, 1, 210, true, [[.al 1000512 b14 c15 0 ([] : List Commit).length 115, .al 1000513 b16 c17 0 ([] : List Head).length 130]]⟩), (1000768, ent b20 c21 115 (List.map (eCommit true) q5.1)), (1000769, ent b23 c24 130 (List.map eHead q5.2)), (48, ⟨b25, 1, 210, true, [[.al 1000768 b20 c21 0 q5.1.length 115, .al 1000769 b23 c24 0 q5.2.length 130]]⟩)] o)) ?_ ?_
  · obtain ⟨x6, h7, h36⟩ := bnd h36
    refine go ?_; intros
    refine c_call (c := c_impl_cloneRepo) (a0) H_impl_cloneRepo h7 fun ch => ?_
    refine go ?_; intros
    cases h36
    exact k_cn ⟨_, _, _, _, _, _, _, _, _, _, _, pin, pinh⟩
  rintro t o ⟨b13, b14, c15, b16, c17, b18, b20, c21, b23, c24, b25, pq1, pq2⟩
  refine pinned pq1 pq2 ?_
  obtain ⟨x26, h27, h⟩ := bnd h
  refine go ?_; intros
  refine c_call (c := c_impl_Repo_head) (a0, a1) H_impl_Repo_head h27 fun ch => ?_
  refine go ?_; intros
  refine w_cond rfl (fun c => ?_) (fun c => ?_)
  · replace h := itt h c
    try rw [c]
    refine go ?_; intros
    cases h
    exact r_end
  replace h := itf h c
  try rw [c]
  refine go ?_; intros
  refine w_cond rfl (fun c => ?_) (fun c => ?_)
  · replace h := itt h (by first | exact c | (have c2 := c; simp only [List.length_map] at c2; exact c2))
    try rw [c]
    refine go ?_; intros
    cases h
    exact r_end
  replace h := itf h (by first | exact c | (have c2 := c; simp only [List.length_map] at c2; exact c2))
  try rw [c]
  obtain ⟨x29, h30, h⟩ := bnd h
  refine go ?_; intros
  refine c_callg (c := c_slices_Delete_impl_Head_impl_Head) (q5.2, x26, (IntKind.i64.wrap (x26 + 1))) H_slices_Delete_impl_Head_impl_Head h30 fun ch => ?_
  obtain ⟨h35, h⟩ := gd h
  refine go ?_; intros
  refine r_app (f := eHead) (xs := ([] : (List Head))) (ys := x29) rfl (src_cp (f := eHead) rfl (by first | rfl | simp) (fun _ => rfl)) rfl rfl (by first | rfl | simp) h35 fun b33 c34 => ?_
  refine go ?_; intros
  cases h
  exact r_end
theorem d_impl_RepoAt {G : Gam} (H_impl_Repo_head : Has G c_impl_Repo_head) (H_impl_RepoOk : Has G c_impl_RepoOk) (a0 : Repo) (a1 : Str) (r : Int) (h : gf_impl_RepoAt a0 a1 = some r) : Does G if_impl_RepoAt ks_impl_RepoAt (c_impl_RepoAt.args (a0, a1)) [] (c_impl_RepoAt.ans (a0, a1) r) := by
  refine does_pn (L := [(0, .agg [.ro (List.map (eCommit false) a0.commits), .ro (List.map eHead a0.heads)]), (1, .v (.string a1))]) (fun bs => pin) fun bs t o => ?_
  show vwp _ ib_impl_RepoAt _ _
  unfold ib_impl_RepoAt
  refine w_ir ?_
  unfold gf_impl_RepoAt at h
  obtain ⟨x2, h3, h⟩ := bnd h
  refine go ?_; intros
  refine c_call (c := c_impl_Repo_head) (a0, a1) H_impl_Repo_head h3 fun ch => ?_
  obtain ⟨x4, h5, h⟩ := bnd h
  refine go ?_; intros
  refine c_call (c := c_impl_RepoOk) (a0) H_impl_RepoOk h5 fun ch => ?_
  refine go ?_; intros
  refine s_split rfl (fun c => ?_) (fun c => ?_)
  · replace h := itt h c
    rw [c]
    refine go ?_; intros
    cases h
    exact r_end
  replace h := itf h c
  rw [c]
  refine go ?_; intros
  refine w_cond rfl (fun c => ?_) (fun c => ?_)
  · replace h := itt h c
    try rw [c]
    refine go ?_; intros
    cases h
    exact r_end
  replace h := itf h c
  try rw [c]
  obtain ⟨x6, h7, h⟩ := bnd h
  refine go ?_; intros
  refine r_iro rfl rfl h7 rfl ?_
  refine go ?_; intros
  cases h
  exact r_end
theorem d_spec_DrawRepoBranch {G : Gam} (H_spec_l12Open : Has G c_spec_l12Open) (H_spec_l7Bent : Has G c_spec_l7Bent) (H_spec_l12Rd_of : Has G c_spec_l12Rd_of) (H_spec_l7Name : Has G c_spec_l7Name) (a0 : (List UInt8)) (g0 : Option Addr) (g1 : Nat) (r : (Repo × Str × Str)) (h : gf_spec_DrawRepoBranch a0 = some r) : Does G if_spec_DrawRepoBranch ks_spec_DrawRepoBranch (c_spec_DrawRepoBranch.args (a0, g0, g1)) [] (c_spec_DrawRepoBranch.ans (a0, g0, g1) r) := by
  refine does_pn (L := [(0, .raw g0 g1 (List.map eU8 a0))]) (fun bs => pin) fun bs t o => ?_
  show vwp _ ib_spec_DrawRepoBranch _ _
  unfold ib_spec_DrawRepoBranch
  refine w_ir ?_
  unfold gf_spec_DrawRepoBranch at h
  obtain ⟨x2, h3, h⟩ := bnd h
  refine go ?_; intros
  refine c_call (c := c_spec_l12Open) (a0, g0, g1) H_spec_l12Open h3 fun ch => ?_
  obtain ⟨x5, h6, h⟩ := bnd h
  refine go ?_; intros
  refine c_callg (c := c_spec_l7Bent) (x2, g0, g1) H_spec_l7Bent h6 fun ch => ?_
  obtain ⟨x13, h14, h⟩ := bnd h
  refine go ?_; intros
  refine c_callg (c := c_spec_l12Rd_of) ((⟨x2.b, x5.2⟩ : Rd), ([(⟨#[99, 97, 116]⟩ : Str), (⟨#[97, 110, 110]⟩ : Str), (⟨#[100, 111, 103]⟩ : Str), (⟨#[65]⟩ : Str)] : (List Str)), g0, g1) H_spec_l12Rd_of h14 fun ch => ?_
  obtain ⟨x15, h16, h⟩ := bnd h
  refine go ?_; intros
  refine c_callg (c := c_spec_l7Name) ((⟨x2.b, x13.2⟩ : Rd), g0, g1) H_spec_l7Name h16 fun ch => ?_
  refine go ?_; intros
  cases h
  exact r_end
end Go.Proofs.AM
