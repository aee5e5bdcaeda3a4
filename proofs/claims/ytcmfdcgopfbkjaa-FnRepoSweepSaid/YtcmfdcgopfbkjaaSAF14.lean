/- A part of the proofs of this seat's statements (SAF14): lemmas on an abstract machine for the program's functions. Conditions: none. -/
import Derived.Test.YtcmfdcgopfbkjaaSAD
set_option linter.unusedVariables false
set_option linter.unusedSimpArgs false
set_option maxRecDepth 100000
set_option maxHeartbeats 4000000
namespace Go.Proofs.AM
attribute [local irreducible] vwp vstps vstpLs vstp vdo vret kseq kblk kloop kend kcut kloop2 frzV renV shutK pfzV trnV unrV
theorem d_spec_l7Note {G : Gam} (H_spec_l12Rd_of : Has G c_spec_l12Rd_of) (a0 : Rd) (g0 : Option Addr) (g1 : Nat) (r : (Str × Int)) (h : gf_spec_l7Note a0 = some r) : Does G if_spec_l7Note ks_spec_l7Note (c_spec_l7Note.args (a0, g0, g1)) (c_spec_l7Note.ins (a0, g0, g1)) (c_spec_l7Note.ans (a0, g0, g1) r) := by
  refine does_pg (L := fun bs => [(0, .ptr 0 (bs 0).1 290 0 0)]) (H := fun bs => [(0, ⟨(bs 0).1, (bs 0).2, 290, true, [[.rw g0 g1 (List.map eU8 a0.b), .v (.int .i64 a0.p)]]⟩)]) (fun bs => pin) (fun bs => pinh) fun bs t o => ?_
  show vwp _ ib_spec_l7Note _ _
  unfold ib_spec_l7Note
  refine w_ir ?_
  unfold gf_spec_l7Note at h
  obtain ⟨x2, h3, h⟩ := bnd h
  refine go ?_; intros
  refine c_callg (c := c_spec_l12Rd_of) (a0, ([(⟨#[97, 110, 110]⟩ : Str), (⟨#[98, 111, 98]⟩ : Str), (⟨#[102, 105, 120]⟩ : Str)] : (List Str)), g0, g1) H_spec_l12Rd_of h3 fun ch => ?_
  refine go ?_; intros
  cases h
  exact r_endg
theorem d_spec_l7Grow {G : Gam} (H_spec_l7Name : Has G c_spec_l7Name) (H_spec_l7Head : Has G c_spec_l7Head) (H_spec_l12Rd_pick : Has G c_spec_l12Rd_pick) (H_spec_RepoBranch : Has G c_spec_RepoBranch) (H_spec_l4Near : Has G c_spec_l4Near) (H_spec_l7Note : Has G c_spec_l7Note) (H_spec_l7Copy : Has G c_spec_l7Copy) (H_spec_l7Add : Has G c_spec_l7Add) (a0 : Rd) (a1 : Repo) (g0 : Option Addr) (g1 : Nat) (g2 : Option Addr) (g3 : Nat) (g4 : Option Addr) (g5 : Nat) (r : ((Option Repo) × Int)) (h : gf_spec_l7Grow a0 a1 = some r) : Does G if_spec_l7Grow ks_spec_l7Grow (c_spec_l7Grow.args (a0, a1, g0, g1, g2, g3, g4, g5)) (c_spec_l7Grow.ins (a0, a1, g0, g1, g2, g3, g4, g5)) (c_spec_l7Grow.ans (a0, a1, g0, g1, g2, g3, g4, g5) r) := by
  refine does_pg (L := fun bs => [(0, .ptr 0 (bs 0).1 290 0 0), (1, .agg [.raw g2 g3 (List.map (eCommit false) a1.commits), .raw g4 g5 (List.map eHead a1.heads)])]) (H := fun bs => [(0, ⟨(bs 0).1, (bs 0).2, 290, true, [[.rw g0 g1 (List.map eU8 a0.b), .v (.int .i64 a0.p)]]⟩)]) (fun bs => pin) (fun bs => pinh) fun bs t o => ?_
  show vwp _ ib_spec_l7Grow _ _
  unfold ib_spec_l7Grow
  refine w_ir ?_
  unfold gf_spec_l7Grow at h
  obtain ⟨x3, h4, h⟩ := bnd h
  refine go ?_; intros
  refine c_callg (c := c_spec_l7Name) (a0, g0, g1) H_spec_l7Name h4 fun ch => ?_
  obtain ⟨x5, h6, h⟩ := bnd h
  refine go ?_; intros
  refine c_call (c := c_spec_l7Head) (a1, x3.1) H_spec_l7Head h6 fun ch => ?_
  refine go ?_; intros
  refine w_cond rfl (fun c => ?_) (fun c => ?_)
  · replace h := itt h c
    try rw [c]
    obtain ⟨x7, h8, h⟩ := bnd h
    refine go ?_; intros
    refine c_callg (c := c_spec_l12Rd_pick) ((⟨a0.b, x3.2⟩ : Rd), (a1.heads.length : Int), g0, g1) H_spec_l12Rd_pick h8 fun ch => ?_
    obtain ⟨x9, h10, h⟩ := bnd h
    refine go ?_; intros
    refine r_iro rfl rfl h10 rfl ?_
    obtain ⟨x11, h12, h⟩ := bnd h
    refine go ?_; intros
    refine c_call (c := c_spec_RepoBranch) (a1, x3.1, x9.name) H_spec_RepoBranch h12 fun ch => ?_
    refine go ?_; intros
    refine w_cond rfl (fun c => ?_) (fun c => ?_)
    · replace h := itt h (by first | exact c | (have c2 := c; simp only [List.length_map] at c2; exact c2))
      try rw [c]
      refine go ?_; intros
      cases h
      exact r_endg
    replace h := itf h (by first | exact c | (have c2 := c; simp only [List.length_map] at c2; exact c2))
    try rw [c]
    refine go ?_; intros
    refine r_ldr rfl rfl rfl rfl ?_
    refine go ?_; intros
    cases h
    exact r_endg
  replace h := itf h c
  try rw [c]
  obtain ⟨x18, h19, h⟩ := bnd h
  refine go ?_; intros
  refine r_iro rfl rfl h19 rfl ?_
  obtain ⟨q20, h75, h⟩ := bnd h
  refine go ?_; intros
  refine w_cut (fun t o => ∃ b30 b31 c32 b33 c34 b35 b36 c37 b40, Pin t (ovr [(0, .ptr 0 (bs 0).1 290 0 0), (3, .ptr 24 b30 210 0 0), (4, .ptr 32 b35 210 0 0), (6, .v (.int .i64 x5)), (9, .v (.int .i64 x18.at_)), (10, .ptr 80 b40 115 0 0)] t) ∧ PinH o (ovh [(0, ⟨(bs 0).1, (bs 0).2, 290, true, [[.rw g0 g1 (List.map eU8 a0.b), .v (.int .i64 q20.1)]]⟩), (24, ⟨b30, 1, 210, true, [[.rw g2 g3 (List.map (eCommit false) a1.commits), .rw g4 g5 (List.map eHead a1.heads)]]⟩), (1000512, ent b31 c32 115 (List.map (eCommit true) [])), (1000513, ent b33 c34 130 (List.map eHead [])), (32, ⟨b35, 1, 210, true, [[.al 1000512 b31 c32 0 ([] : List Commit).length 115, .al 1000513 b33 c34 0 ([] : List Head).length 130]]⟩), (1001280, ent b36 c37 17 (List.map eInt [x18.at_])), (80, ⟨b40, 1, 115, true, [[.al 1001280 b36 c37 0 [x18.at_].length 17, .sl false 4 (List.map (eFeat false) q20.2.1), .v (.string q20.2.2)]]⟩)] o)) ?_ ?_
  · obtain ⟨x22, h23, h75⟩ := bnd h75
    refine go ?_; intros
    refine r_iro rfl rfl h23 rfl ?_
    obtain ⟨x24, h25, h75⟩ := bnd h75
    refine go ?_; intros
    refine c_callg (c := c_spec_l4Near) ((⟨a0.b, x3.2⟩ : Rd), x22.sheet, g0, g1) H_spec_l4Near h25 fun ch => ?_
    obtain ⟨x26, h27, h75⟩ := bnd h75
    refine go ?_; intros
    refine c_callg (c := c_spec_l7Note) ((⟨a0.b, x24.2⟩ : Rd), g0, g1) H_spec_l7Note h27 fun ch => ?_
    refine go ?_; intros
    cases h75
    exact k_cn ⟨_, _, _, _, _, _, _, _, _, pin, pinh⟩
  rintro t o ⟨b30, b31, c32, b33, c34, b35, b36, c37, b40, pq1, pq2⟩
  refine pinned pq1 pq2 ?_
  obtain ⟨x41, h42, h⟩ := bnd h
  refine go ?_; intros
  refine c_callg (c := c_spec_l12Rd_pick) ((⟨a0.b, q20.1⟩ : Rd), (a1.heads.length : Int), g0, g1) H_spec_l12Rd_pick h42 fun ch => ?_
  obtain ⟨x43, h44, h⟩ := bnd h
  refine go ?_; intros
  refine r_iro rfl rfl h44 rfl ?_
  obtain ⟨q48, h76, h⟩ := bnd h
  refine go ?_; intros
  refine w_cut (fun t o => ∃ b52 b53 c54 b55 c56 b57 b59 c60 b61, Pin t (ovr [(3, .ptr 24 b52 210 0 0), (4, .ptr 32 b57 210 0 0), (6, .v (.int .i64 x5)), (10, .ptr 80 b61 115 0 0)] t) ∧ PinH o (ovh [(24, ⟨b52, 1, 210, true, [[.rw g2 g3 (List.map (eCommit false) a1.commits), .rw g4 g5 (List.map eHead a1.heads)]]⟩), (1000512, ent b53 c54 115 (List.map (eCommit true) [])), (1000513, ent b55 c56 130 (List.map eHead [])), (32, ⟨b57, 1, 210, true, [[.al 1000512 b53 c54 0 ([] : List Commit).length 115, .al 1000513 b55 c56 0 ([] : List Head).length 130]]⟩), (1001280, ent b59 c60 17 (List.map eInt q48.1)), (80, ⟨b61, 1, 115, true, [[.al 1001280 b59 c60 0 q48.1.length 17, .sl false 4 (List.map (eFeat false) q20.2.1), .v (.string q20.2.2)]]⟩), (0, ⟨(bs 0).1, (bs 0).2, 290, true, [[.rw g0 g1 (List.map eU8 a0.b), .v (.int .i64 q48.2)]]⟩)] o)) ?_ ?_
  · refine go ?_; intros
    refine s_split rfl (fun c => ?_) (fun c => ?_)
    · replace h76 := itt h76 c
      rw [c]
      obtain ⟨x49, h50, h76⟩ := bnd h76
      refine go ?_; intros
      refine c_callg (c := c_spec_l12Rd_pick) ((⟨a0.b, x41.2⟩ : Rd), 4, g0, g1) H_spec_l12Rd_pick h50 fun ch => ?_
      refine go ?_; intros
      refine w_cond rfl (fun c => ?_) (fun c => ?_)
      · replace h76 := itt h76 c
        try rw [c]
        refine go ?_; intros
        cases h76
        exact k_cn ⟨_, _, _, _, _, _, _, _, _, pin, pinh⟩
      replace h76 := itf h76 c
      try rw [c]
      refine go ?_; intros
      cases h76
      exact k_cn ⟨_, _, _, _, _, _, _, _, _, pin, pinh⟩
    replace h76 := itf h76 c
    rw [c]
    refine go ?_; intros
    cases h76
    exact k_cn ⟨_, _, _, _, _, _, _, _, _, pin, pinh⟩
  rintro t o ⟨b52, b53, c54, b55, c56, b57, b59, c60, b61, pq1, pq2⟩
  refine pinned pq1 pq2 ?_
  refine go ?_; intros
  refine w_cond rfl (fun c => ?_) (fun c => ?_)
  · replace h := itt h (by first | exact c | (have c2 := c; simp only [List.length_map] at c2; exact c2))
    try rw [c]
    refine go ?_; intros
    refine r_ldr rfl rfl rfl rfl ?_
    refine go ?_; intros
    cases h
    exact r_endg
  replace h := itf h (by first | exact c | (have c2 := c; simp only [List.length_map] at c2; exact c2))
  try rw [c]
  obtain ⟨x63, h64, h⟩ := bnd h
  refine go ?_; intros
  refine c_call (c := c_spec_l7Copy) (a1) H_spec_l7Copy h64 fun ch => ?_
  obtain ⟨x69, h70, h⟩ := bnd h
  refine go ?_; intros
  refine c_callg (c := c_spec_l7Add) (x63, x5, (⟨q48.1, q20.2.1, q20.2.2⟩ : Commit)) H_spec_l7Add h70 fun ch => ?_
  refine go ?_; intros
  cases h
  exact r_endg
theorem d_spec_l7Repo {G : Gam} (H_spec_RepoNew : Has G c_spec_RepoNew) (H_spec_l3Sheet : Has G c_spec_l3Sheet) (H_spec_l12Rd_pick : Has G c_spec_l12Rd_pick) (H_spec_l7Grow : Has G c_spec_l7Grow) (a0 : Rd) (g0 : Option Addr) (g1 : Nat) (r : (Repo × Int)) (h : gf_spec_l7Repo a0 = some r) : Does G if_spec_l7Repo ks_spec_l7Repo (c_spec_l7Repo.args (a0, g0, g1)) (c_spec_l7Repo.ins (a0, g0, g1)) (c_spec_l7Repo.ans (a0, g0, g1) r) := by
  refine does_pg (L := fun bs => [(0, .ptr 0 (bs 0).1 290 0 0)]) (H := fun bs => [(0, ⟨(bs 0).1, (bs 0).2, 290, true, [[.rw g0 g1 (List.map eU8 a0.b), .v (.int .i64 a0.p)]]⟩)]) (fun bs => pin) (fun bs => pinh) fun bs t o => ?_
  show vwp _ ib_spec_l7Repo _ _
  unfold ib_spec_l7Repo
  refine w_ir ?_
  unfold gf_spec_l7Repo at h
  obtain ⟨x2, h3, h⟩ := bnd h
  refine go ?_; intros
  refine c_call (c := c_spec_RepoNew) ((⟨#[109, 97, 105, 110]⟩ : Str)) H_spec_RepoNew h3 fun ch => ?_
  refine go ?_; intros
  refine r_pfz ?_
  refine go ?_; intros
  refine r_pz (f := (eCommit true)) (g := eCommitX) (pf_Commit _) rfl rfl ?_
  refine go ?_; intros
  refine r_frz ?_
  obtain ⟨x9, h10, h⟩ := bnd h
  refine go ?_; intros
  refine c_callg (c := c_spec_l3Sheet) (a0, g0, g1) H_spec_l3Sheet h10 fun ch => ?_
  refine go ?_; intros
  refine c_fz ?_
  obtain ⟨x13, h14, h⟩ := bnd h
  refine go ?_; intros
  refine r_ire (xs := x2.1.commits) rfl rfl h14 rfl ?_
  refine go ?_; intros
  refine c_ste (f := eCommitX) x2.1.commits (⟨x13.up, x9.1, x13.note⟩ : Commit) (idx_get h14).2 ?_
  obtain ⟨x15, h16, h⟩ := bnd h
  refine go ?_; intros
  refine c_callg (c := c_spec_l12Rd_pick) ((⟨a0.b, x9.2⟩ : Rd), 7, g0, g1) H_spec_l12Rd_pick h16 fun ch => ?_
  obtain ⟨q65, h106, h⟩ := bnd h
  refine go ?_; intros
  refine w_last (fun t o => ∃ b90 c91 b92 c93 b94 b96 c97 b99 c100 b101, Pin t (ovr [(0, .ptr 0 (bs 0).1 290 0 0), (2, .ptr 16 b94 210 0 0), (3, .ptr 24 b101 210 0 0)] t) ∧ PinH o (ovh [(0, ⟨(bs 0).1, (bs 0).2, 290, true, [[.rw g0 g1 (List.map eU8 a0.b), .v (.int .i64 q65.1)]]⟩), (1000256, ent b90 c91 115 (List.map (eCommit true) [])), (1000257, ent b92 c93 130 (List.map eHead [])), (16, ⟨b94, 1, 210, true, [[.al 1000256 b90 c91 0 ([] : List Commit).length 115, .al 1000257 b92 c93 0 ([] : List Head).length 130]]⟩), (1000384, ent b96 c97 115 (List.map eCommitX q65.2.1)), (1000385, ent b99 c100 130 (List.map eHead q65.2.2)), (24, ⟨b101, 1, 210, true, [[.al 1000384 b96 c97 0 q65.2.1.length 115, .al 1000385 b99 c100 0 q65.2.2.length 130]]⟩)] o)) ?_ ?_
  · refine w_loop2 (fun n t o => ∃ n80 v66 v67 v73 v76 b68 c69 b70 c71 b72 b74 c75 b77 c78 b79, gl_spec_l7Repo_1 a0 n80 v66 v67 v73 v76 = some q65 ∧ n80 = n ∧ Pin t (ovr [(0, .ptr 0 (bs 0).1 290 0 0), (2, .ptr 16 b72 210 0 0), (3, .ptr 24 b79 210 0 0), (5, .v (.int .i64 v66))] t) ∧ PinH o (ovh [(0, ⟨(bs 0).1, (bs 0).2, 290, true, [[.rw g0 g1 (List.map eU8 a0.b), .v (.int .i64 v67)]]⟩), (1000256, ent b68 c69 115 (List.map (eCommit true) [])), (1000257, ent b70 c71 130 (List.map eHead [])), (16, ⟨b72, 1, 210, true, [[.al 1000256 b68 c69 0 ([] : List Commit).length 115, .al 1000257 b70 c71 0 ([] : List Head).length 130]]⟩), (1000384, ent b74 c75 115 (List.map eCommitX v73)), (1000385, ent b77 c78 130 (List.map eHead v76)), (24, ⟨b79, 1, 210, true, [[.al 1000384 b74 c75 0 v73.length 115, .al 1000385 b77 c78 0 v76.length 130]]⟩)] o)) _ ⟨_, _, _, _, _, _, _, _, _, _, _, _, _, _, _, h106, rfl, pin, pinh⟩ ?_
    rintro n t o ⟨n80, v66, v67, v73, v76, b68, c69, b70, c71, b72, b74, c75, b77, c78, b79, h106, rfl, pq1, pq2⟩
    refine pinned pq1 pq2 ?_
    cases n80 with
    | zero => rw [gl_spec_l7Repo_1] at h106; cases h106
    | succ n80 =>
      rw [gl_spec_l7Repo_1] at h106
      refine go ?_; intros
      refine w_cond rfl (fun c => ?_) (fun c => ?_)
      · replace h106 := itt h106 c
        try rw [c]
        refine go ?_; intros
        refine r_rawl ?_
        refine go ?_; intros
        refine r_rl rfl rfl ?_
        refine go ?_; intros
        refine r_pfz ?_
        refine go ?_; intros
        refine r_unr ?_
        obtain ⟨x81, h82, h106⟩ := bnd h106
        rcases x81 with ⟨_ | y83, p84⟩
        · dsimp only at h106
          refine go ?_; intros
          refine c_callg (c := c_spec_l7Grow) ((⟨a0.b, v67⟩ : Rd), (⟨v73, v76⟩ : Repo), g0, g1, (hdrA b74), c75, (hdrA b77), c78) H_spec_l7Grow h82 fun ch => ?_
          refine go ?_; intros
          refine r_un rfl (un_hit rfl rfl (by first | rfl | simp) (un_hit rfl rfl (by first | rfl | simp) un_nil)) ?_
          refine go ?_; intros
          refine r_pz (f := eCommitX) (g := eCommitX) (pf_CommitX _) rfl rfl ?_
          refine go ?_; intros
          exact k_ln2 _ (Nat.lt_succ_self _) ⟨_, _, _, _, _, _, _, _, _, _, _, _, _, _, _, h106, rfl, pin, pinh⟩
        dsimp only at h106
        refine go ?_; intros
        refine c_callg (c := c_spec_l7Grow) ((⟨a0.b, v67⟩ : Rd), (⟨v73, v76⟩ : Repo), g0, g1, (hdrA b74), c75, (hdrA b77), c78) H_spec_l7Grow h82 fun ch => ?_
        refine go ?_; intros
        refine r_un rfl (un_ref (un_ref un_nil)) ?_
        refine go ?_; intros
        refine r_pz (f := (eCommit true)) (g := eCommitX) (pf_Commit _) rfl rfl ?_
        refine go ?_; intros
        exact k_ln2 _ (Nat.lt_succ_self _) ⟨_, _, _, _, _, _, _, _, _, _, _, _, _, _, _, h106, rfl, pin, pinh⟩
      replace h106 := itf h106 c
      try rw [c]
      refine go ?_; intros
      cases h106
      exact k_cn ⟨_, _, _, _, _, _, _, _, _, _, pin, pinh⟩
  rintro t o ⟨b90, c91, b92, c93, b94, b96, c97, b99, c100, b101, pq1, pq2⟩
  refine pinnedQ pq1 pq2 ?_
  obtain ⟨x102, h103, h⟩ := bnd h
  refine go ?_; intros
  refine c_callg (c := c_spec_l12Rd_pick) ((⟨a0.b, q65.1⟩ : Rd), 4, g0, g1) H_spec_l12Rd_pick h103 fun ch => ?_
  refine go ?_; intros
  refine s_split rfl (fun c => ?_) (fun c => ?_)
  · replace h := itt h c
    rw [c]
    refine go ?_; intros
    refine w_cond rfl (fun c => ?_) (fun c => ?_)
    · replace h := itt h (by first | exact c | (have c2 := c; simp only [List.length_map] at c2; exact c2))
      try rw [c]
      refine go ?_; intros
      refine r_trn ?_
      obtain ⟨x104, h105, h⟩ := bnd h
      refine go ?_; intros
      refine r_slr (xs := q65.2.2) h105 rfl rfl rfl rfl (by first | rfl | simp) ?_
      refine go ?_; intros
      refine r_tr (f := eHead) h105 rfl rfl rfl ?_
      refine go ?_; intros
      cases h
      exact r_endg
    replace h := itf h (by first | exact c | (have c2 := c; simp only [List.length_map] at c2; exact c2))
    try rw [c]
    refine go ?_; intros
    cases h
    exact r_endg
  replace h := itf h c
  rw [c]
  refine go ?_; intros
  cases h
  exact r_endg
theorem d_spec_l7Bent {G : Gam} (H_spec_l7Repo : Has G c_spec_l7Repo) (H_spec_l12Rd_pick : Has G c_spec_l12Rd_pick) (H_spec_l12Rd_num : Has G c_spec_l12Rd_num) (H_spec_l3Bent : Has G c_spec_l3Bent) (a0 : Rd) (g0 : Option Addr) (g1 : Nat) (r : (Repo × Int)) (h : gf_spec_l7Bent a0 = some r) : Does G if_spec_l7Bent ks_spec_l7Bent (c_spec_l7Bent.args (a0, g0, g1)) (c_spec_l7Bent.ins (a0, g0, g1)) (c_spec_l7Bent.ans (a0, g0, g1) r) := by
  refine does_pg (L := fun bs => [(0, .ptr 0 (bs 0).1 290 0 0)]) (H := fun bs => [(0, ⟨(bs 0).1, (bs 0).2, 290, true, [[.rw g0 g1 (List.map eU8 a0.b), .v (.int .i64 a0.p)]]⟩)]) (fun bs => pin) (fun bs => pinh) fun bs t o => ?_
  show vwp _ ib_spec_l7Bent _ _
  unfold ib_spec_l7Bent
  refine w_ir ?_
  unfold gf_spec_l7Bent at h
  obtain ⟨x2, h3, h⟩ := bnd h
  refine go ?_; intros
  refine c_callg (c := c_spec_l7Repo) (a0, g0, g1) H_spec_l7Repo h3 fun ch => ?_
  obtain ⟨x9, h10, h⟩ := bnd h
  refine go ?_; intros
  refine c_callg (c := c_spec_l12Rd_pick) ((⟨a0.b, x2.2⟩ : Rd), (x2.1.commits.length : Int), g0, g1) H_spec_l12Rd_pick h10 fun ch => ?_
  obtain ⟨x11, h12, h⟩ := bnd h
  refine go ?_; intros
  refine c_callg (c := c_spec_l12Rd_pick) ((⟨a0.b, x9.2⟩ : Rd), 48, g0, g1) H_spec_l12Rd_pick h12 fun ch => ?_
  obtain ⟨q13, h53, h⟩ := bnd h
  refine go ?_; intros
  refine w_cut (fun t o => ∃ b14 c15 b16 c17 b18 b19 c20 b21 c22 b23, Pin t (ovr [(0, .ptr 0 (bs 0).1 290 0 0), (2, .ptr 16 b18 210 0 0), (3, .ptr 24 b23 210 0 0), (4, .v (.int .i64 x9.1)), (13, .v (.int .i64 x11.1)), (14, .v (.bool (x11.1 == 0)))] t) ∧ PinH o (ovh [(0, ⟨(bs 0).1, (bs 0).2, 290, true, [[.rw g0 g1 (List.map eU8 a0.b), .v (.int .i64 x11.2)]]⟩), (1000256, ent b14 c15 115 (List.map (eCommit true) [])), (1000257, ent b16 c17 130 (List.map eHead [])), (16, ⟨b18, 1, 210, true, [[.al 1000256 b14 c15 0 ([] : List Commit).length 115, .al 1000257 b16 c17 0 ([] : List Head).length 130]]⟩), (1000384, ent b19 c20 115 (List.map eCommitX x2.1.commits)), (1000385, ent b21 c22 130 (List.map eHead x2.1.heads)), (24, ⟨b23, 1, 210, true, [[.al 1000384 b19 c20 0 x2.1.commits.length 115, .al 1000385 b21 c22 0 x2.1.heads.length 130]]⟩)] o)) ?_ ?_
  · refine go ?_; intros
    cases h53
    exact k_cn ⟨_, _, _, _, _, _, _, _, _, _, pin, pinh⟩
  rintro t o ⟨b14, c15, b16, c17, b18, b19, c20, b21, c22, b23, pq1, pq2⟩
  refine pinned pq1 pq2 ?_
  refine go ?_; intros
  refine w_cond rfl (fun c => ?_) (fun c => ?_)
  · replace h := itt h c
    try rw [c]
    obtain ⟨x25, h26, h⟩ := bnd h
    refine go ?_; intros
    refine c_callg (c := c_spec_l12Rd_num) ((⟨a0.b, x11.2⟩ : Rd), ([(-1), (x2.1.commits.length : Int)] : (List Int)), g0, g1) H_spec_l12Rd_num h26 fun ch => ?_
    obtain ⟨x27, h28, h⟩ := bnd h
    refine go ?_; intros
    refine r_ire (xs := x2.1.heads) rfl rfl h28 rfl ?_
    refine go ?_; intros
    refine c_ste (f := eHead) x2.1.heads (⟨x27.name, x25.1⟩ : Head) (idx_get h28).2 ?_
    refine go ?_; intros
    cases h
    exact r_endg
  replace h := itf h c
  try rw [c]
  refine go ?_; intros
  refine w_cond rfl (fun c => ?_) (fun c => ?_)
  · replace h := itt h c
    try rw [c]
    obtain ⟨x29, h30, h⟩ := bnd h
    refine go ?_; intros
    refine r_ire (xs := x2.1.commits) rfl rfl h30 rfl ?_
    refine go ?_; intros
    refine r_lopg (f := eCommitX) (g := eInt) (xs := x2.1.commits) (x := x29) (ys := x29.up) (idx_get h30).2 rfl rfl rfl fun b31 c32 => ?_
    obtain ⟨h36, h⟩ := gd h
    refine go ?_; intros
    refine r_app (f := eInt) (xs := x29.up) (ys := ([x9.1] : (List Int))) rfl (src_mv rfl rfl (by first | rfl | simp)) rfl rfl (by first | rfl | simp) h36 fun b34 c35 => ?_
    refine go ?_; intros
    refine r_ire (xs := x2.1.commits) rfl rfl h30 rfl ?_
    refine go ?_; intros
    refine c_stc (f := eCommitX) x2.1.commits (⟨(x29.up ++ ([x9.1] : (List Int))), x29.sheet, x29.note⟩ : Commit) (idx_get h30).2 ?_
    refine go ?_; intros
    cases h
    exact r_endg
  replace h := itf h c
  try rw [c]
  refine go ?_; intros
  refine w_cond rfl (fun c => ?_) (fun c => ?_)
  · replace h := itt h c
    try rw [c]
    refine go ?_; intros
    refine r_frz ?_
    obtain ⟨x37, h38, h⟩ := bnd h
    refine go ?_; intros
    refine c_callg (c := c_spec_l3Bent) ((⟨a0.b, x11.2⟩ : Rd), g0, g1) H_spec_l3Bent h38 fun ch => ?_
    refine go ?_; intros
    refine c_fz ?_
    obtain ⟨x41, h42, h⟩ := bnd h
    refine go ?_; intros
    refine r_ire (xs := x2.1.commits) rfl rfl h42 rfl ?_
    refine go ?_; intros
    refine c_ste (f := eCommitX) x2.1.commits (⟨x41.up, x37.1, x41.note⟩ : Commit) (idx_get h42).2 ?_
    refine go ?_; intros
    cases h
    exact r_endg
  replace h := itf h c
  try rw [c]
  refine go ?_; intros
  refine w_cond rfl (fun c => ?_) (fun c => ?_)
  · replace h := itt h c
    try rw [c]
    obtain ⟨x43, h44, h⟩ := bnd h
    refine go ?_; intros
    refine r_ire (xs := x2.1.commits) rfl rfl h44 rfl ?_
    refine go ?_; intros
    refine c_ste (f := eCommitX) x2.1.commits (⟨x43.up, x43.sheet, (⟨#[]⟩ : Str)⟩ : Commit) (idx_get h44).2 ?_
    refine go ?_; intros
    cases h
    exact r_endg
  replace h := itf h c
  try rw [c]
  refine go ?_; intros
  refine w_cond rfl (fun c => ?_) (fun c => ?_)
  · replace h := itt h c
    try rw [c]
    obtain ⟨x45, h46, h⟩ := bnd h
    refine go ?_; intros
    refine r_ire (xs := x2.1.heads) rfl rfl h46 rfl ?_
    refine go ?_; intros
    refine r_lde (f := eHead) (xs := x2.1.heads) (x := x45) rfl rfl (idx_get h46).2 rfl rfl rfl ?_
    obtain ⟨h50, h⟩ := gd h
    refine go ?_; intros
    refine r_app (f := eHead) (xs := x2.1.heads) (ys := ([x45] : (List Head))) rfl (src_mv rfl rfl (by first | rfl | simp)) rfl rfl (by first | rfl | simp) h50 fun b48 c49 => ?_
    refine go ?_; intros
    cases h
    exact r_endg
  replace h := itf h c
  try rw [c]
  refine go ?_; intros
  refine w_cond rfl (fun c => ?_) (fun c => ?_)
  · replace h := itt h c
    try rw [c]
    obtain ⟨x51, h52, h⟩ := bnd h
    refine go ?_; intros
    refine r_ire (xs := x2.1.commits) rfl rfl h52 rfl ?_
    refine go ?_; intros
    refine c_ste (f := eCommitX) x2.1.commits (⟨[], x51.sheet, x51.note⟩ : Commit) (idx_get h52).2 ?_
    refine go ?_; intros
    cases h
    exact r_endg
  replace h := itf h c
  try rw [c]
  refine go ?_; intros
  cases h
  exact r_endg
theorem d_impl_greatestFirst {G : Gam}  (a0 : (List Bool)) (r : (List Int)) (h : gf_impl_greatestFirst a0 = some r) : Does G if_impl_greatestFirst ks_impl_greatestFirst (c_impl_greatestFirst.args (a0)) [] (c_impl_greatestFirst.ans (a0) r) := by
  refine does_pn (L := [(0, .ro (List.map eBool a0))]) (fun bs => pin) fun bs t o => ?_
  show vwp _ ib_impl_greatestFirst _ _
  unfold ib_impl_greatestFirst
  refine w_ir ?_
  unfold gf_impl_greatestFirst at h
  obtain ⟨q26, h41, h⟩ := bnd h
  refine go ?_; intros
  refine w_last (fun t o => ∃ b39 c40, Pin t (ovr [(3, .ref 40 b39 c40 0 q26.length 17)] t) ∧ PinH o (ovh [(40, ent b39 c40 17 (List.map eInt q26))] o)) ?_ ?_
  · refine w_loop2 (fun n t o => ∃ n31 v27 v28 b29 c30, gl_impl_greatestFirst_1 a0 n31 v27 v28 = some q26 ∧ n31 = n ∧ Pin t (ovr [(0, .ro (List.map eBool a0)), (3, .ref 40 b29 c30 0 v28.length 17), (4, .v (.int .i64 v27))] t) ∧ PinH o (ovh [(40, ent b29 c30 17 (List.map eInt v28))] o)) _ ⟨_, _, _, _, _, h41, rfl, pin, pinh⟩ ?_
    rintro n t o ⟨n31, v27, v28, b29, c30, h41, rfl, pq1, pq2⟩
    refine pinned pq1 pq2 ?_
    cases n31 with
    | zero => rw [gl_impl_greatestFirst_1] at h41; cases h41
    | succ n31 =>
      rw [gl_impl_greatestFirst_1] at h41
      refine go ?_; intros
      refine w_cond rfl (fun c => ?_) (fun c => ?_)
      · replace h41 := itt h41 c
        try rw [c]
        obtain ⟨x32, h33, h41⟩ := bnd h41
        refine go ?_; intros
        refine r_iro rfl rfl h33 rfl ?_
        refine go ?_; intros
        refine w_cond rfl (fun c => ?_) (fun c => ?_)
        · replace h41 := itt h41 c
          try rw [c]
          obtain ⟨h37, h41⟩ := gd h41
          refine go ?_; intros
          refine r_app (f := eInt) (xs := v28) (ys := ([v27] : (List Int))) rfl (src_mv rfl rfl (by first | rfl | simp)) rfl rfl (by first | rfl | simp) h37 fun b35 c36 => ?_
          refine go ?_; intros
          exact k_ln2 _ (Nat.lt_succ_self _) ⟨_, _, _, _, _, h41, rfl, pin, pinh⟩
        replace h41 := itf h41 c
        try rw [c]
        refine go ?_; intros
        exact k_ln2 _ (Nat.lt_succ_self _) ⟨_, _, _, _, _, h41, rfl, pin, pinh⟩
      replace h41 := itf h41 c
      try rw [c]
      refine go ?_; intros
      cases h41
      exact k_cn ⟨_, _, pin, pinh⟩
  rintro t o ⟨b39, c40, pq1, pq2⟩
  refine pinnedQ pq1 pq2 ?_
  refine go ?_; intros
  cases h
  exact r_end
theorem d_impl_RepoPast {G : Gam} (H_impl_RepoOk : Has G c_impl_RepoOk) (H_impl_Repo_version : Has G c_impl_Repo_version) (H_impl_Repo_past : Has G c_impl_Repo_past) (H_impl_greatestFirst : Has G c_impl_greatestFirst) (a0 : Repo) (a1 : Int) (r : (List Int)) (h : gf_impl_RepoPast a0 a1 = some r) : Does G if_impl_RepoPast ks_impl_RepoPast (c_impl_RepoPast.args (a0, a1)) [] (c_impl_RepoPast.ans (a0, a1) r) := by
  refine does_pn (L := [(0, .agg [.ro (List.map (eCommit false) a0.commits), .ro (List.map eHead a0.heads)]), (1, .v (.int .i64 a1))]) (fun bs => pin) fun bs t o => ?_
  show vwp _ ib_impl_RepoPast _ _
  unfold ib_impl_RepoPast
  refine w_ir ?_
  unfold gf_impl_RepoPast at h
  obtain ⟨x2, h3, h⟩ := bnd h
  refine go ?_; intros
  refine c_call (c := c_impl_RepoOk) (a0) H_impl_RepoOk h3 fun ch => ?_
  refine go ?_; intros
  refine s_split rfl (fun c => ?_) (fun c => ?_)
  · replace h := itt h c
    rw [c]
    refine go ?_; intros
    cases h
    exact r_end
  replace h := itf h c
  rw [c]
  obtain ⟨x4, h5, h⟩ := bnd h
  refine go ?_; intros
  refine c_call (c := c_impl_Repo_version) (a0, a1) H_impl_Repo_version h5 fun ch => ?_
  refine go ?_; intros
  refine w_cond rfl (fun c => ?_) (fun c => ?_)
  · replace h := itt h c
    try rw [c]
    refine go ?_; intros
    cases h
    exact r_end
  replace h := itf h c
  try rw [c]
  obtain ⟨x8, h9, h⟩ := bnd h
  refine go ?_; intros
  refine c_call (c := c_impl_Repo_past) (a0, a1) H_impl_Repo_past h9 fun ch => ?_
  obtain ⟨x12, h13, h⟩ := bnd h
  refine go ?_; intros
  refine c_call (c := c_impl_greatestFirst) (x8) H_impl_greatestFirst h13 fun ch => ?_
  refine go ?_; intros
  cases h
  exact r_end
theorem d_slices_Equal_impl_Head_impl_Head {G : Gam}  (a0 : (List Head)) (a1 : (List Head)) (r : Bool) (h : gf_slices_Equal_impl_Head_impl_Head a0 a1 = some r) : Does G if_slices_Equal_impl_Head_impl_Head ks_slices_Equal_impl_Head_impl_Head (c_slices_Equal_impl_Head_impl_Head.args (a0, a1)) [] (c_slices_Equal_impl_Head_impl_Head.ans (a0, a1) r) := by
  refine does_pn (L := [(0, .ro (List.map eHead a0)), (1, .ro (List.map eHead a1))]) (fun bs => pin) fun bs t o => ?_
  show vwp _ ib_slices_Equal_impl_Head_impl_Head _ _
  unfold ib_slices_Equal_impl_Head_impl_Head
  refine w_ir ?_
  unfold gf_slices_Equal_impl_Head_impl_Head at h
  refine go ?_; intros
  refine w_cond rfl (fun c => ?_) (fun c => ?_)
  · replace h := itt h (by first | exact c | (have c2 := c; simp only [List.length_map] at c2; exact c2))
    try rw [c]
    refine go ?_; intros
    cases h
    exact r_end
  replace h := itf h (by first | exact c | (have c2 := c; simp only [List.length_map] at c2; exact c2))
  try rw [c]
  obtain ⟨hf24, h⟩ := gd h
  obtain ⟨q14, h27, h⟩ := bnd h
  refine go ?_; intros
  refine w_last (fun t o => ∃ q14_, q14 = .inr q14_ ∧ Pin t (ovr [] t) ∧ PinH o (ovh [] o)) ?_ ?_
  · refine w_loop2 (fun n t o => ∃ l18 k16  , gl_slices_Equal_impl_Head_impl_Head_1 a1 l18 k16  = some q14 ∧ n = l18.length ∧ (a0).drop k16 = l18 ∧ Pin t (ovr [(0, .ro (List.map eHead a0)), (1, .ro (List.map eHead a1)), (12, .v (.int .i64 (a0.length : Int))), (13, .v (.int .i64 (k16 : Int)))] t) ∧ PinH o (ovh [] o)) _ ⟨_, _, h27, rfl, rfl, pin, pinh⟩ ?_
    rintro n t o ⟨l18, k16, h27, rfl, hd19, pq1, pq2⟩
    refine pinned pq1 pq2 ?_
    cases l18 with
    | nil =>
      have hge21 := drop_ge hd19
      rw [gl_slices_Equal_impl_Head_impl_Head_1] at h27
      refine go ?_; intros
      rw [hge21]
      refine go ?_; intros
      cases h27
      exact k_cn ⟨_, rfl, pin, pinh⟩
    | cons x17 l18 =>
      have hlt20 := drop_lt hd19
      have hx22 := drop_ix hd19
      have hw23 := drop_wr hd19 hf24
      rw [gl_slices_Equal_impl_Head_impl_Head_1] at h27
      refine go ?_; intros
      rw [hlt20]
      refine go ?_; intros
      refine r_iro rfl rfl hx22 rfl ?_
      obtain ⟨x25, h26, h27⟩ := bnd h27
      refine go ?_; intros
      refine r_iro rfl rfl h26 rfl ?_
      refine go ?_; intros
      refine w_cond rfl (fun c => ?_) (fun c => ?_)
      · replace h27 := itt h27 c
        try rw [c]
        refine go ?_; intros
        cases h27
        replace h : some _ = some _ := h
        cases h
        exact r_end
      replace h27 := itf h27 c
      try rw [c]
      refine go ?_; intros
      rw [hw23]
      exact k_ln2 _ (Nat.lt_succ_self _) ⟨_, _, h27, rfl, drop_next hd19, pin, pinh⟩
  rintro t o ⟨q14, rfl, pq1, pq2⟩
  refine pinnedQ pq1 pq2 ?_
  refine go ?_; intros
  cases h
  exact r_end
theorem d_slices_EqualFunc_impl_Commit_impl_Commit_impl_Commit_impl_Commit__impl_sameCommit {G : Gam} (H_impl_sameCommit : Has G c_impl_sameCommit) (a0 : (List Commit)) (a1 : (List Commit)) (r : Bool) (h : gf_slices_EqualFunc_impl_Commit_impl_Commit_impl_Commit_impl_Commit__impl_sameCommit a0 a1 = some r) : Does G if_slices_EqualFunc_impl_Commit_impl_Commit_impl_Commit_impl_Commit ks_slices_EqualFunc_impl_Commit_impl_Commit_impl_Commit_impl_Commit (c_slices_EqualFunc_impl_Commit_impl_Commit_impl_Commit_impl_Commit__impl_sameCommit.args (a0, a1)) [] (c_slices_EqualFunc_impl_Commit_impl_Commit_impl_Commit_impl_Commit__impl_sameCommit.ans (a0, a1) r) := by
  refine does_pn (L := [(0, .ro (List.map (eCommit false) a0)), (1, .ro (List.map (eCommit false) a1)), (2, .fn 330 [])]) (fun bs => pin) fun bs t o => ?_
  show vwp _ ib_slices_EqualFunc_impl_Commit_impl_Commit_impl_Commit_impl_Commit _ _
  unfold ib_slices_EqualFunc_impl_Commit_impl_Commit_impl_Commit_impl_Commit
  refine w_ir ?_
  unfold gf_slices_EqualFunc_impl_Commit_impl_Commit_impl_Commit_impl_Commit__impl_sameCommit at h
  refine go ?_; intros
  refine w_cond rfl (fun c => ?_) (fun c => ?_)
  · replace h := itt h (by first | exact c | (have c2 := c; simp only [List.length_map] at c2; exact c2))
    try rw [c]
    refine go ?_; intros
    cases h
    exact r_end
  replace h := itf h (by first | exact c | (have c2 := c; simp only [List.length_map] at c2; exact c2))
  try rw [c]
  obtain ⟨hf36, h⟩ := gd h
  obtain ⟨q26, h43, h⟩ := bnd h
  refine go ?_; intros
  refine w_last (fun t o => ∃ q26_, q26 = .inr q26_ ∧ Pin t (ovr [] t) ∧ PinH o (ovh [] o)) ?_ ?_
  · refine w_loop2 (fun n t o => ∃ l30 k28  , gl_slices_EqualFunc_impl_Commit_impl_Commit_impl_Commit_impl_Commit__impl_sameCommit_1 a1 l30 k28  = some q26 ∧ n = l30.length ∧ (a0).drop k28 = l30 ∧ Pin t (ovr [(1, .ro (List.map (eCommit false) a1)), (2, .fn 330 []), (15, .ro (List.map (eCommit false) a0)), (16, .v (.int .i64 (a0.length : Int))), (17, .v (.int .i64 (k28 : Int)))] t) ∧ PinH o (ovh [] o)) _ ⟨_, _, h43, rfl, rfl, pin, pinh⟩ ?_
    rintro n t o ⟨l30, k28, h43, rfl, hd31, pq1, pq2⟩
    refine pinned pq1 pq2 ?_
    cases l30 with
    | nil =>
      have hge33 := drop_ge hd31
      rw [gl_slices_EqualFunc_impl_Commit_impl_Commit_impl_Commit_impl_Commit__impl_sameCommit_1] at h43
      refine go ?_; intros
      rw [hge33]
      refine go ?_; intros
      cases h43
      exact k_cn ⟨_, rfl, pin, pinh⟩
    | cons x29 l30 =>
      have hlt32 := drop_lt hd31
      have hx34 := drop_ix hd31
      have hw35 := drop_wr hd31 hf36
      rw [gl_slices_EqualFunc_impl_Commit_impl_Commit_impl_Commit_impl_Commit__impl_sameCommit_1] at h43
      refine go ?_; intros
      rw [hlt32]
      refine go ?_; intros
      refine r_iro rfl rfl hx34 rfl ?_
      obtain ⟨x38, h39, h43⟩ := bnd h43
      refine go ?_; intros
      refine r_iro rfl rfl h39 rfl ?_
      obtain ⟨x41, h42, h43⟩ := bnd h43
      refine go ?_; intros
      refine c_calld (c := c_impl_sameCommit) (x29, x38) H_impl_sameCommit h42 fun ch => ?_
      refine go ?_; intros
      refine w_cond rfl (fun c => ?_) (fun c => ?_)
      · replace h43 := itt h43 c
        try rw [c]
        refine go ?_; intros
        cases h43
        replace h : some _ = some _ := h
        cases h
        exact r_end
      replace h43 := itf h43 c
      try rw [c]
      refine go ?_; intros
      rw [hw35]
      exact k_ln2 _ (Nat.lt_succ_self _) ⟨_, _, h43, rfl, drop_next hd31, pin, pinh⟩
  rintro t o ⟨q26, rfl, pq1, pq2⟩
  refine pinnedQ pq1 pq2 ?_
  refine go ?_; intros
  cases h
  exact r_end
end Go.Proofs.AM
