/- A part of the proofs of this seat's statements (KCF8): lemmas on an abstract machine for the program's functions. Conditions: none. -/
import Derived.Test.YtbildbphkmdemaaKCD
set_option linter.unusedVariables false
set_option linter.unusedSimpArgs false
set_option maxRecDepth 100000
set_option maxHeartbeats 4000000
namespace Go.Proofs.AM
attribute [local irreducible] vwp vstps vstpLs vstp vdo vret kseq kblk kloop kend kcut kloop2 frzV renV shutK pfzV trnV unrV
theorem d_impl_Repo_past {G : Gam}  (a0 : Repo) (a1 : Int) (r : (List Bool)) (h : gf_impl_Repo_past a0 a1 = some r) : Does G if_impl_Repo_past ks_impl_Repo_past (c_impl_Repo_past.args (a0, a1)) [] (c_impl_Repo_past.ans (a0, a1) r) := by
  refine does_pn (L := [(0, .agg [.ro (List.map (eCommit false) a0.commits), .ro (List.map eHead a0.heads)]), (1, .v (.int .i64 a1))]) (fun bs => pin) fun bs t o => ?_
  show vwp _ ib_impl_Repo_past _ _
  unfold ib_impl_Repo_past
  refine w_ir ?_
  unfold gf_impl_Repo_past at h
  obtain ⟨h4, h⟩ := gd h
  refine go ?_; intros
  refine r_mks (f := eBool) (x := false) rfl rfl (band1 h4) (band2 h4) rfl fun b2 => ?_
  obtain ⟨x5, h6, h⟩ := bnd h
  refine go ?_; intros
  refine r_ire (xs := (List.replicate ((a0.commits.length : Int)).toNat false)) rfl rfl h6 rfl ?_
  refine go ?_; intros
  refine c_ste (f := eBool) (List.replicate ((a0.commits.length : Int)).toNat false) true (idx_get h6).2 ?_
  obtain ⟨q150, h205, h⟩ := bnd h
  refine go ?_; intros
  refine w_last (fun t o => ∃ b203 c204, Pin t (ovr [(5, .ref 96 b203 c204 0 q150.length 33)] t) ∧ PinH o (ovh [(96, ent b203 c204 33 (List.map eBool q150))] o)) ?_ ?_
  · refine w_loop2 (fun n t o => ∃ n156 v151 v153 b152 b154 c155, gl_impl_Repo_past_4 a0 n156 v151 v153 = some q150 ∧ n156 = n ∧ Pin t (ovr [(2, .ptr 16 b152 210 0 0), (5, .ref 96 b154 c155 0 v153.length 33), (6, .v (.int .i64 v151))] t) ∧ PinH o (ovh [(16, ⟨b152, 1, 210, true, [[.sl false 3 (List.map (eCommit false) a0.commits), .sl false 2 (List.map eHead a0.heads)]]⟩), (96, ent b154 c155 33 (List.map eBool v153))] o)) _ ⟨_, _, _, _, _, _, h205, rfl, pin, pinh⟩ ?_
    rintro n t o ⟨n156, v151, v153, b152, b154, c155, h205, rfl, pq1, pq2⟩
    refine pinned pq1 pq2 ?_
    cases n156 with
    | zero => rw [gl_impl_Repo_past_4] at h205; cases h205
    | succ n156 =>
      rw [gl_impl_Repo_past_4] at h205
      refine go ?_; intros
      refine w_cond rfl (fun c => ?_) (fun c => ?_)
      · replace h205 := itt h205 c
        try rw [c]
        obtain ⟨x157, h158, h205⟩ := bnd h205
        refine go ?_; intros
        refine r_ire (xs := v153) rfl rfl h158 rfl ?_
        refine go ?_; intros
        refine r_lde (f := eBool) (xs := v153) (x := x157) rfl rfl (idx_get h158).2 rfl rfl rfl ?_
        refine go ?_; intros
        refine w_cond rfl (fun c => ?_) (fun c => ?_)
        · replace h205 := itt h205 c
          try rw [c]
          obtain ⟨x159, h160, h205⟩ := bnd h205
          refine go ?_; intros
          refine r_iro rfl rfl h160 rfl ?_
          obtain ⟨hf195, h205⟩ := gd h205
          obtain ⟨q181, h206, h205⟩ := bnd h205
          refine go ?_; intros
          refine w_last (fun t o => ∃ b198 b200 c201, Pin t (ovr [(2, .ptr 16 b198 210 0 0), (5, .ref 96 b200 c201 0 q181.length 33), (6, .v (.int .i64 v151))] t) ∧ PinH o (ovh [(16, ⟨b198, 1, 210, true, [[.sl false 3 (List.map (eCommit false) a0.commits), .sl false 2 (List.map eHead a0.heads)]]⟩), (96, ent b200 c201 33 (List.map eBool q181))] o)) ?_ ?_
          · refine w_loop2 (fun n t o => ∃ l189 k187 v184 b183 b185 c186, gl_impl_Repo_past_5 l189 k187 v184 = some q181 ∧ n = l189.length ∧ (x159.up).drop k187 = l189 ∧ Pin t (ovr [(2, .ptr 16 b183 210 0 0), (5, .ref 96 b185 c186 0 v184.length 33), (6, .v (.int .i64 v151)), (30, .ro (List.map eInt x159.up)), (31, .v (.int .i64 (x159.up.length : Int))), (32, .v (.int .i64 (k187 : Int)))] t) ∧ PinH o (ovh [(16, ⟨b183, 1, 210, true, [[.sl false 3 (List.map (eCommit false) a0.commits), .sl false 2 (List.map eHead a0.heads)]]⟩), (96, ent b185 c186 33 (List.map eBool v184))] o)) _ ⟨_, _, _, _, _, _, h206, rfl, rfl, pin, pinh⟩ ?_
            rintro n t o ⟨l189, k187, v184, b183, b185, c186, h206, rfl, hd190, pq1, pq2⟩
            refine pinned pq1 pq2 ?_
            cases l189 with
            | nil =>
              have hge192 := drop_ge hd190
              rw [gl_impl_Repo_past_5] at h206
              refine go ?_; intros
              rw [hge192]
              refine go ?_; intros
              cases h206
              exact k_cn ⟨_, _, _, pin, pinh⟩
            | cons x188 l189 =>
              have hlt191 := drop_lt hd190
              have hx193 := drop_ix hd190
              have hw194 := drop_wr hd190 hf195
              rw [gl_impl_Repo_past_5] at h206
              refine go ?_; intros
              rw [hlt191]
              refine go ?_; intros
              refine r_iro rfl rfl hx193 rfl ?_
              obtain ⟨x196, h197, h206⟩ := bnd h206
              refine go ?_; intros
              refine r_ire (xs := v184) rfl rfl h197 rfl ?_
              refine go ?_; intros
              refine c_ste (f := eBool) v184 true (idx_get h197).2 ?_
              refine go ?_; intros
              rw [hw194]
              exact k_ln2 _ (Nat.lt_succ_self _) ⟨_, _, _, _, _, _, h206, rfl, drop_next hd190, pin, pinh⟩
          rintro t o ⟨b198, b200, c201, pq1, pq2⟩
          refine pinnedQ pq1 pq2 ?_
          refine go ?_; intros
          exact k_ln2 _ (Nat.lt_succ_self _) ⟨_, _, _, _, _, _, h205, rfl, pin, pinh⟩
        replace h205 := itf h205 c
        try rw [c]
        refine go ?_; intros
        exact k_ln2 _ (Nat.lt_succ_self _) ⟨_, _, _, _, _, _, h205, rfl, pin, pinh⟩
      replace h205 := itf h205 c
      try rw [c]
      refine go ?_; intros
      cases h205
      exact k_cn ⟨_, _, pin, pinh⟩
  rintro t o ⟨b203, c204, pq1, pq2⟩
  refine pinnedQ pq1 pq2 ?_
  refine go ?_; intros
  cases h
  exact r_end
theorem d_impl_cloneRepo {G : Gam} (H_impl_cloneCommit : Has G c_impl_cloneCommit) (a0 : Repo) (r : Repo) (h : gf_impl_cloneRepo a0 = some r) : Does G if_impl_cloneRepo ks_impl_cloneRepo (c_impl_cloneRepo.args (a0)) [] (c_impl_cloneRepo.ans (a0) r) := by
  refine does_pn (L := [(0, .agg [.ro (List.map (eCommit false) a0.commits), .ro (List.map eHead a0.heads)])]) (fun bs => pin) fun bs t o => ?_
  show vwp _ ib_impl_cloneRepo _ _
  unfold ib_impl_cloneRepo
  refine w_ir ?_
  unfold gf_impl_cloneRepo at h
  obtain ⟨h7, h⟩ := gd h
  refine go ?_; intros
  refine r_app (f := eHead) (xs := ([] : (List Head))) (ys := a0.heads) rfl (src_ro (fun _ => rfl) (fun _ => rfl)) rfl rfl (by first | rfl | simp) h7 fun b5 c6 => ?_
  obtain ⟨hf91, h⟩ := gd h
  obtain ⟨q70, h114, h⟩ := bnd h
  refine go ?_; intros
  refine w_last (fun t o => ∃ b103 c104 b105 c106 b107 b109 c110 b111 c112 b113, Pin t (ovr [(2, .ptr 16 b107 210 0 0), (3, .ptr 24 b113 210 0 0)] t) ∧ PinH o (ovh [(1000256, ent b103 c104 115 (List.map (eCommit true) [])), (1000257, ent b105 c106 130 (List.map eHead [])), (16, ⟨b107, 1, 210, true, [[.al 1000256 b103 c104 0 ([] : List Commit).length 115, .al 1000257 b105 c106 0 ([] : List Head).length 130]]⟩), (1000384, ent b109 c110 115 (List.map (eCommit true) q70)), (1000385, ent b111 c112 130 (List.map eHead ([] ++ a0.heads))), (24, ⟨b113, 1, 210, true, [[.al 1000384 b109 c110 0 q70.length 115, .al 1000385 b111 c112 0 ([] ++ a0.heads).length 130]]⟩)] o)) ?_ ?_
  · refine w_loop2 (fun n t o => ∃ l85 k83 v77 b72 c73 b74 c75 b76 b78 c79 b80 c81 b82, gl_impl_cloneRepo_1 l85 k83 v77 = some q70 ∧ n = l85.length ∧ (a0.commits).drop k83 = l85 ∧ Pin t (ovr [(2, .ptr 16 b76 210 0 0), (3, .ptr 24 b82 210 0 0), (13, .ro (List.map (eCommit false) a0.commits)), (14, .v (.int .i64 (a0.commits.length : Int))), (15, .v (.int .i64 (k83 : Int)))] t) ∧ PinH o (ovh [(1000256, ent b72 c73 115 (List.map (eCommit true) [])), (1000257, ent b74 c75 130 (List.map eHead [])), (16, ⟨b76, 1, 210, true, [[.al 1000256 b72 c73 0 ([] : List Commit).length 115, .al 1000257 b74 c75 0 ([] : List Head).length 130]]⟩), (1000384, ent b78 c79 115 (List.map (eCommit true) v77)), (1000385, ent b80 c81 130 (List.map eHead ([] ++ a0.heads))), (24, ⟨b82, 1, 210, true, [[.al 1000384 b78 c79 0 v77.length 115, .al 1000385 b80 c81 0 ([] ++ a0.heads).length 130]]⟩)] o)) _ ⟨_, _, _, _, _, _, _, _, _, _, _, _, _, h114, rfl, rfl, pin, pinh⟩ ?_
    rintro n t o ⟨l85, k83, v77, b72, c73, b74, c75, b76, b78, c79, b80, c81, b82, h114, rfl, hd86, pq1, pq2⟩
    refine pinned pq1 pq2 ?_
    cases l85 with
    | nil =>
      have hge88 := drop_ge hd86
      rw [gl_impl_cloneRepo_1] at h114
      refine go ?_; intros
      rw [hge88]
      refine go ?_; intros
      cases h114
      exact k_cn ⟨_, _, _, _, _, _, _, _, _, _, pin, pinh⟩
    | cons x84 l85 =>
      have hlt87 := drop_lt hd86
      have hx89 := drop_ix hd86
      have hw90 := drop_wr hd86 hf91
      rw [gl_impl_cloneRepo_1] at h114
      refine go ?_; intros
      rw [hlt87]
      refine go ?_; intros
      refine r_iro rfl rfl hx89 rfl ?_
      obtain ⟨x93, h94, h114⟩ := bnd h114
      refine go ?_; intros
      refine c_call (c := c_impl_cloneCommit) (x84) H_impl_cloneCommit h94 fun ch => ?_
      refine go ?_; intros
      try simp only [take_map_len, take_ent]
      obtain ⟨h102, h114⟩ := gd h114
      refine go ?_; intros
      refine r_app (f := (eCommit true)) (xs := v77) (ys := ([x93] : (List Commit))) rfl (src_mv rfl rfl (by first | rfl | simp)) rfl rfl (by first | rfl | simp) h102 fun b100 c101 => ?_
      refine go ?_; intros
      rw [hw90]
      exact k_ln2 _ (Nat.lt_succ_self _) ⟨_, _, _, _, _, _, _, _, _, _, _, _, _, h114, rfl, drop_next hd86, pin, pinh⟩
  rintro t o ⟨b103, c104, b105, c106, b107, b109, c110, b111, c112, b113, pq1, pq2⟩
  refine pinnedQ pq1 pq2 ?_
  refine go ?_; intros
  cases h
  exact r_end
theorem d_spec_l12Open {G : Gam}  (a0 : (List UInt8)) (g0 : Option Addr) (g1 : Nat) (r : Rd) (h : gf_spec_l12Open a0 = some r) : Does G if_spec_l12Open ks_spec_l12Open (c_spec_l12Open.args (a0, g0, g1)) [] (c_spec_l12Open.ans (a0, g0, g1) r) := by
  refine does_pn (L := [(0, .raw g0 g1 (List.map eU8 a0))]) (fun bs => pin) fun bs t o => ?_
  show vwp _ ib_spec_l12Open _ _
  unfold ib_spec_l12Open
  refine w_ir ?_
  unfold gf_spec_l12Open at h
  refine go ?_; intros
  refine w_cond rfl (fun c => ?_) (fun c => ?_)
  · replace h := itt h (by first | exact c | (have c2 := c; simp only [List.length_map] at c2; exact c2))
    try rw [c]
    obtain ⟨x1, h2, h⟩ := bnd h
    refine go ?_; intros
    refine r_slsraw (f := eU8) rfl rfl rfl h2 ?_
    refine go ?_; intros
    cases h
    exact r_end
  replace h := itf h (by first | exact c | (have c2 := c; simp only [List.length_map] at c2; exact c2))
  try rw [c]
  refine go ?_; intros
  cases h
  exact r_end
theorem d_spec_l12Rd_pick {G : Gam}  (a0 : Rd) (a1 : Int) (g0 : Option Addr) (g1 : Nat) (r : (Int × Int)) (h : gf_spec_l12Rd_pick a0 a1 = some r) : Does G if_spec_l12Rd_pick ks_spec_l12Rd_pick (c_spec_l12Rd_pick.args (a0, a1, g0, g1)) (c_spec_l12Rd_pick.ins (a0, a1, g0, g1)) (c_spec_l12Rd_pick.ans (a0, a1, g0, g1) r) := by
  refine does_pg (L := fun bs => [(0, .ptr 0 (bs 0).1 290 0 0), (1, .v (.int .i64 a1))]) (H := fun bs => [(0, ⟨(bs 0).1, (bs 0).2, 290, true, [[.rw g0 g1 (List.map eU8 a0.b), .v (.int .i64 a0.p)]]⟩)]) (fun bs => pin) (fun bs => pinh) fun bs t o => ?_
  show vwp _ ib_spec_l12Rd_pick _ _
  unfold ib_spec_l12Rd_pick
  refine w_ir ?_
  unfold gf_spec_l12Rd_pick at h
  refine go ?_; intros
  refine s_split rfl (fun c => ?_) (fun c => ?_)
  · replace h := itt h c
    rw [c]
    refine go ?_; intros
    cases h
    exact r_endg
  replace h := itf h c
  rw [c]
  refine go ?_; intros
  refine w_cond rfl (fun c => ?_) (fun c => ?_)
  · replace h := itt h (by first | exact c | (have c2 := c; simp only [List.length_map] at c2; exact c2))
    try rw [c]
    refine go ?_; intros
    cases h
    exact r_endg
  replace h := itf h (by first | exact c | (have c2 := c; simp only [List.length_map] at c2; exact c2))
  try rw [c]
  refine go ?_; intros
  refine w_cond rfl (fun c => ?_) (fun c => ?_)
  · replace h := itt h (by first | exact c | (have c2 := c; simp only [List.length_map] at c2; exact c2))
    try rw [c]
    obtain ⟨x1, h2, h⟩ := bnd h
    refine go ?_; intros
    refine r_iro rfl rfl h2 rfl ?_
    obtain ⟨x3, h4, h⟩ := bnd h
    refine go ?_; intros
    refine r_imod rfl rfl h4 ?_
    refine go ?_; intros
    cases h
    exact r_endg
  replace h := itf h (by first | exact c | (have c2 := c; simp only [List.length_map] at c2; exact c2))
  try rw [c]
  obtain ⟨x5, h6, h⟩ := bnd h
  refine go ?_; intros
  refine r_imod rfl rfl h6 ?_
  obtain ⟨x7, h8, h⟩ := bnd h
  refine go ?_; intros
  refine r_iro rfl rfl h8 rfl ?_
  obtain ⟨x9, h10, h⟩ := bnd h
  refine go ?_; intros
  refine r_imod rfl rfl h10 ?_
  obtain ⟨x11, h12, h⟩ := bnd h
  refine go ?_; intros
  refine r_iro rfl rfl h12 rfl ?_
  obtain ⟨x13, h14, h⟩ := bnd h
  refine go ?_; intros
  refine r_idiv rfl rfl h14 ?_
  refine go ?_; intros
  refine r_ixor rfl rfl ?_
  obtain ⟨x15, h16, h⟩ := bnd h
  refine go ?_; intros
  refine r_imod rfl rfl h16 ?_
  refine go ?_; intros
  cases h
  exact r_endg
theorem d_spec_l12Rd_of {G : Gam} (H_spec_l12Rd_pick : Has G c_spec_l12Rd_pick) (a0 : Rd) (a1 : (List Str)) (g0 : Option Addr) (g1 : Nat) (r : (Str × Int)) (h : gf_spec_l12Rd_of a0 a1 = some r) : Does G if_spec_l12Rd_of ks_spec_l12Rd_of (c_spec_l12Rd_of.args (a0, a1, g0, g1)) (c_spec_l12Rd_of.ins (a0, a1, g0, g1)) (c_spec_l12Rd_of.ans (a0, a1, g0, g1) r) := by
  refine does_pg (L := fun bs => [(0, .ptr 0 (bs 0).1 290 0 0), (1, .ro (List.map eStr a1))]) (H := fun bs => [(0, ⟨(bs 0).1, (bs 0).2, 290, true, [[.rw g0 g1 (List.map eU8 a0.b), .v (.int .i64 a0.p)]]⟩)]) (fun bs => pin) (fun bs => pinh) fun bs t o => ?_
  show vwp _ ib_spec_l12Rd_of _ _
  unfold ib_spec_l12Rd_of
  refine w_ir ?_
  unfold gf_spec_l12Rd_of at h
  obtain ⟨x1, h2, h⟩ := bnd h
  refine go ?_; intros
  refine c_callg (c := c_spec_l12Rd_pick) (a0, (a1.length : Int), g0, g1) H_spec_l12Rd_pick h2 fun ch => ?_
  obtain ⟨x3, h4, h⟩ := bnd h
  refine go ?_; intros
  refine r_iro rfl rfl h4 rfl ?_
  refine go ?_; intros
  cases h
  exact r_endg
theorem d_spec_l2Id {G : Gam} (H_spec_l12Rd_of : Has G c_spec_l12Rd_of) (a0 : Rd) (g0 : Option Addr) (g1 : Nat) (r : (Str × Int)) (h : gf_spec_l2Id a0 = some r) : Does G if_spec_l2Id ks_spec_l2Id (c_spec_l2Id.args (a0, g0, g1)) (c_spec_l2Id.ins (a0, g0, g1)) (c_spec_l2Id.ans (a0, g0, g1) r) := by
  refine does_pg (L := fun bs => [(0, .ptr 0 (bs 0).1 290 0 0)]) (H := fun bs => [(0, ⟨(bs 0).1, (bs 0).2, 290, true, [[.rw g0 g1 (List.map eU8 a0.b), .v (.int .i64 a0.p)]]⟩)]) (fun bs => pin) (fun bs => pinh) fun bs t o => ?_
  show vwp _ ib_spec_l2Id _ _
  unfold ib_spec_l2Id
  refine w_ir ?_
  unfold gf_spec_l2Id at h
  obtain ⟨x2, h3, h⟩ := bnd h
  refine go ?_; intros
  refine c_callg (c := c_spec_l12Rd_of) (a0, ([(⟨#[97]⟩ : Str), (⟨#[98]⟩ : Str), (⟨#[99]⟩ : Str), (⟨#[100]⟩ : Str), (⟨#[101]⟩ : Str)] : (List Str)), g0, g1) H_spec_l12Rd_of h3 fun ch => ?_
  refine go ?_; intros
  cases h
  exact r_endg
theorem d_spec_l2Key {G : Gam} (H_spec_l12Rd_of : Has G c_spec_l12Rd_of) (a0 : Rd) (g0 : Option Addr) (g1 : Nat) (r : (Str × Int)) (h : gf_spec_l2Key a0 = some r) : Does G if_spec_l2Key ks_spec_l2Key (c_spec_l2Key.args (a0, g0, g1)) (c_spec_l2Key.ins (a0, g0, g1)) (c_spec_l2Key.ans (a0, g0, g1) r) := by
  refine does_pg (L := fun bs => [(0, .ptr 0 (bs 0).1 290 0 0)]) (H := fun bs => [(0, ⟨(bs 0).1, (bs 0).2, 290, true, [[.rw g0 g1 (List.map eU8 a0.b), .v (.int .i64 a0.p)]]⟩)]) (fun bs => pin) (fun bs => pinh) fun bs t o => ?_
  show vwp _ ib_spec_l2Key _ _
  unfold ib_spec_l2Key
  refine w_ir ?_
  unfold gf_spec_l2Key at h
  obtain ⟨x2, h3, h⟩ := bnd h
  refine go ?_; intros
  refine c_callg (c := c_spec_l12Rd_of) (a0, ([(⟨#[110, 97, 109, 101]⟩ : Str), (⟨#[107, 105, 110, 100]⟩ : Str), (⟨#[117, 115, 101]⟩ : Str), (⟨#[116, 111, 110, 101]⟩ : Str)] : (List Str)), g0, g1) H_spec_l12Rd_of h3 fun ch => ?_
  refine go ?_; intros
  cases h
  exact r_endg
theorem d_spec_l2Val {G : Gam} (H_spec_l12Rd_of : Has G c_spec_l12Rd_of) (a0 : Rd) (g0 : Option Addr) (g1 : Nat) (r : (Str × Int)) (h : gf_spec_l2Val a0 = some r) : Does G if_spec_l2Val ks_spec_l2Val (c_spec_l2Val.args (a0, g0, g1)) (c_spec_l2Val.ins (a0, g0, g1)) (c_spec_l2Val.ans (a0, g0, g1) r) := by
  refine does_pg (L := fun bs => [(0, .ptr 0 (bs 0).1 290 0 0)]) (H := fun bs => [(0, ⟨(bs 0).1, (bs 0).2, 290, true, [[.rw g0 g1 (List.map eU8 a0.b), .v (.int .i64 a0.p)]]⟩)]) (fun bs => pin) (fun bs => pinh) fun bs t o => ?_
  show vwp _ ib_spec_l2Val _ _
  unfold ib_spec_l2Val
  refine w_ir ?_
  unfold gf_spec_l2Val at h
  obtain ⟨x2, h3, h⟩ := bnd h
  refine go ?_; intros
  refine c_callg (c := c_spec_l12Rd_of) (a0, ([(⟨#[97]⟩ : Str), (⟨#[98]⟩ : Str), (⟨#[111, 97, 107]⟩ : Str), (⟨#[97, 115, 104]⟩ : Str), (⟨#[114, 111, 97, 100]⟩ : Str)] : (List Str)), g0, g1) H_spec_l12Rd_of h3 fun ch => ?_
  refine go ?_; intros
  cases h
  exact r_endg
theorem d_spec_l12Rd_num {G : Gam} (H_spec_l12Rd_pick : Has G c_spec_l12Rd_pick) (a0 : Rd) (a1 : (List Int)) (g0 : Option Addr) (g1 : Nat) (r : (Int × Int)) (h : gf_spec_l12Rd_num a0 a1 = some r) : Does G if_spec_l12Rd_num ks_spec_l12Rd_num (c_spec_l12Rd_num.args (a0, a1, g0, g1)) (c_spec_l12Rd_num.ins (a0, a1, g0, g1)) (c_spec_l12Rd_num.ans (a0, a1, g0, g1) r) := by
  refine does_pg (L := fun bs => [(0, .ptr 0 (bs 0).1 290 0 0), (1, .ro (List.map eInt a1))]) (H := fun bs => [(0, ⟨(bs 0).1, (bs 0).2, 290, true, [[.rw g0 g1 (List.map eU8 a0.b), .v (.int .i64 a0.p)]]⟩)]) (fun bs => pin) (fun bs => pinh) fun bs t o => ?_
  show vwp _ ib_spec_l12Rd_num _ _
  unfold ib_spec_l12Rd_num
  refine w_ir ?_
  unfold gf_spec_l12Rd_num at h
  obtain ⟨x1, h2, h⟩ := bnd h
  refine go ?_; intros
  refine c_callg (c := c_spec_l12Rd_pick) (a0, (a1.length : Int), g0, g1) H_spec_l12Rd_pick h2 fun ch => ?_
  obtain ⟨x3, h4, h⟩ := bnd h
  refine go ?_; intros
  refine r_iro rfl rfl h4 rfl ?_
  refine go ?_; intros
  cases h
  exact r_endg
theorem d_spec_l1Pt {G : Gam} (H_spec_l12Rd_pick : Has G c_spec_l12Rd_pick) (H_spec_l12Rd_num : Has G c_spec_l12Rd_num) (a0 : Rd) (g0 : Option Addr) (g1 : Nat) (r : (Pt × Int)) (h : gf_spec_l1Pt a0 = some r) : Does G if_spec_l1Pt ks_spec_l1Pt (c_spec_l1Pt.args (a0, g0, g1)) (c_spec_l1Pt.ins (a0, g0, g1)) (c_spec_l1Pt.ans (a0, g0, g1) r) := by
  refine does_pg (L := fun bs => [(0, .ptr 0 (bs 0).1 290 0 0)]) (H := fun bs => [(0, ⟨(bs 0).1, (bs 0).2, 290, true, [[.rw g0 g1 (List.map eU8 a0.b), .v (.int .i64 a0.p)]]⟩)]) (fun bs => pin) (fun bs => pinh) fun bs t o => ?_
  show vwp _ ib_spec_l1Pt _ _
  unfold ib_spec_l1Pt
  refine w_ir ?_
  unfold gf_spec_l1Pt at h
  obtain ⟨x2, h3, h⟩ := bnd h
  refine go ?_; intros
  refine c_callg (c := c_spec_l12Rd_pick) (a0, 4, g0, g1) H_spec_l12Rd_pick h3 fun ch => ?_
  obtain ⟨x5, h6, h⟩ := bnd h
  refine go ?_; intros
  refine c_callg (c := c_spec_l12Rd_num) ((⟨a0.b, x2.2⟩ : Rd), ([0, 1, 2, 5] : (List Int)), g0, g1) H_spec_l12Rd_num h6 fun ch => ?_
  refine go ?_; intros
  cases h
  exact r_endg
theorem d_spec_l1Min {G : Gam}  (a0 : Int) (a1 : Int) (r : Int) (h : gf_spec_l1Min a0 a1 = some r) : Does G if_spec_l1Min ks_spec_l1Min (c_spec_l1Min.args (a0, a1)) [] (c_spec_l1Min.ans (a0, a1) r) := by
  refine does_pn (L := [(0, .v (.int .i64 a0)), (1, .v (.int .i64 a1))]) (fun bs => pin) fun bs t o => ?_
  show vwp _ ib_spec_l1Min _ _
  unfold ib_spec_l1Min
  refine w_ir ?_
  unfold gf_spec_l1Min at h
  refine go ?_; intros
  refine w_cond rfl (fun c => ?_) (fun c => ?_)
  · replace h := itt h c
    try rw [c]
    refine go ?_; intros
    cases h
    exact r_end
  replace h := itf h c
  try rw [c]
  refine go ?_; intros
  cases h
  exact r_end
theorem d_spec_l1Shape {G : Gam} (H_spec_l12Rd_num : Has G c_spec_l12Rd_num) (H_spec_l12Rd_pick : Has G c_spec_l12Rd_pick) (H_spec_l1Min : Has G c_spec_l1Min) (H_spec_l1Pt : Has G c_spec_l1Pt) (H_spec_ShapeOk : Has G c_spec_ShapeOk) (a0 : Rd) (g0 : Option Addr) (g1 : Nat) (r : (Shape × Int)) (h : gf_spec_l1Shape a0 = some r) : Does G if_spec_l1Shape ks_spec_l1Shape (c_spec_l1Shape.args (a0, g0, g1)) (c_spec_l1Shape.ins (a0, g0, g1)) (c_spec_l1Shape.ans (a0, g0, g1) r) := by
  refine does_pg (L := fun bs => [(0, .ptr 0 (bs 0).1 290 0 0)]) (H := fun bs => [(0, ⟨(bs 0).1, (bs 0).2, 290, true, [[.rw g0 g1 (List.map eU8 a0.b), .v (.int .i64 a0.p)]]⟩)]) (fun bs => pin) (fun bs => pinh) fun bs t o => ?_
  show vwp _ ib_spec_l1Shape _ _
  unfold ib_spec_l1Shape
  refine w_ir ?_
  unfold gf_spec_l1Shape at h
  obtain ⟨x3, h4, h⟩ := bnd h
  refine go ?_; intros
  refine c_callg (c := c_spec_l12Rd_num) (a0, ([1, 2, 2, 3, 3] : (List Int)), g0, g1) H_spec_l12Rd_num h4 fun ch => ?_
  obtain ⟨x6, h7, h⟩ := bnd h
  refine go ?_; intros
  refine c_callg (c := c_spec_l12Rd_pick) ((⟨a0.b, x3.2⟩ : Rd), 4, g0, g1) H_spec_l12Rd_pick h7 fun ch => ?_
  obtain ⟨q8, h159, h⟩ := bnd h
  refine go ?_; intros
  refine w_cut (fun t o => ∃ b10 c11 b12 b13 c14 b15, Pin t (ovr [(0, .ptr 0 (bs 0).1 290 0 0), (2, .ptr 16 b12 226 0 0), (3, .ptr 24 b15 226 0 0), (4, .v (.int .i64 q8))] t) ∧ PinH o (ovh [(0, ⟨(bs 0).1, (bs 0).2, 290, true, [[.rw g0 g1 (List.map eU8 a0.b), .v (.int .i64 x6.2)]]⟩), (1000257, ent b10 c11 66 (List.map ePt [])), (16, ⟨b12, 1, 226, true, [[.v (.int .i64 0), .al 1000257 b10 c11 0 ([] : List Pt).length 66]]⟩), (1000385, ent b13 c14 66 (List.map ePt [])), (24, ⟨b15, 1, 226, true, [[.v (.int .i64 x3.1), .al 1000385 b13 c14 0 ([] : List Pt).length 66]]⟩)] o)) ?_ ?_
  · refine go ?_; intros
    refine w_cond rfl (fun c => ?_) (fun c => ?_)
    · replace h159 := itt h159 c
      try rw [c]
      refine go ?_; intros
      cases h159
      exact k_cn ⟨_, _, _, _, _, _, pin, pinh⟩
    replace h159 := itf h159 c
    try rw [c]
    refine go ?_; intros
    cases h159
    exact k_cn ⟨_, _, _, _, _, _, pin, pinh⟩
  rintro t o ⟨b10, c11, b12, b13, c14, b15, pq1, pq2⟩
  refine pinned pq1 pq2 ?_
  obtain ⟨q109, h160, h⟩ := bnd h
  refine go ?_; intros
  refine w_last (fun t o => ∃ b147 c148 b149 b151 c152 b153, Pin t (ovr [(0, .ptr 0 (bs 0).1 290 0 0), (2, .ptr 16 b149 226 0 0), (3, .ptr 24 b153 226 0 0)] t) ∧ PinH o (ovh [(0, ⟨(bs 0).1, (bs 0).2, 290, true, [[.rw g0 g1 (List.map eU8 a0.b), .v (.int .i64 q109.1)]]⟩), (1000257, ent b147 c148 66 (List.map ePt [])), (16, ⟨b149, 1, 226, true, [[.v (.int .i64 0), .al 1000257 b147 c148 0 ([] : List Pt).length 66]]⟩), (1000385, ent b151 c152 66 (List.map ePt q109.2)), (24, ⟨b153, 1, 226, true, [[.v (.int .i64 x3.1), .al 1000385 b151 c152 0 q109.2.length 66]]⟩)] o)) ?_ ?_
  · refine w_loop2 (fun n t o => ∃ n119 v110 v111 v115 b112 c113 b114 b116 c117 b118, gl_spec_l1Shape_1 q8 a0 x3 n119 v110 v111 v115 = some q109 ∧ n119 = n ∧ Pin t (ovr [(0, .ptr 0 (bs 0).1 290 0 0), (2, .ptr 16 b114 226 0 0), (3, .ptr 24 b118 226 0 0), (4, .v (.int .i64 q8)), (5, .v (.int .i64 v110))] t) ∧ PinH o (ovh [(0, ⟨(bs 0).1, (bs 0).2, 290, true, [[.rw g0 g1 (List.map eU8 a0.b), .v (.int .i64 v111)]]⟩), (1000257, ent b112 c113 66 (List.map ePt [])), (16, ⟨b114, 1, 226, true, [[.v (.int .i64 0), .al 1000257 b112 c113 0 ([] : List Pt).length 66]]⟩), (1000385, ent b116 c117 66 (List.map ePt v115)), (24, ⟨b118, 1, 226, true, [[.v (.int .i64 x3.1), .al 1000385 b116 c117 0 v115.length 66]]⟩)] o)) _ ⟨_, _, _, _, _, _, _, _, _, _, h160, rfl, pin, pinh⟩ ?_
    rintro n t o ⟨n119, v110, v111, v115, b112, c113, b114, b116, c117, b118, h160, rfl, pq1, pq2⟩
    refine pinned pq1 pq2 ?_
    cases n119 with
    | zero => rw [gl_spec_l1Shape_1] at h160; cases h160
    | succ n119 =>
      rw [gl_spec_l1Shape_1] at h160
      refine go ?_; intros
      refine s_split rfl (fun c => ?_) (fun c => ?_)
      · replace h160 := itt h160 c
        rw [c]
        obtain ⟨x120, h121, h160⟩ := bnd h160
        refine go ?_; intros
        refine c_call (c := c_spec_l1Min) (q8, 6) H_spec_l1Min h121 fun ch => ?_
        refine go ?_; intros
        refine w_cond rfl (fun c => ?_) (fun c => ?_)
        · replace h160 := itt h160 (by first | exact c | (have c2 := c; simp only [List.length_map] at c2; exact c2))
          try rw [c]
          obtain ⟨x122, h123, h160⟩ := bnd h160
          refine go ?_; intros
          refine c_callg (c := c_spec_l1Pt) ((⟨a0.b, v111⟩ : Rd), g0, g1) H_spec_l1Pt h123 fun ch => ?_
          obtain ⟨q129, h161, h160⟩ := bnd h160
          refine go ?_; intros
          refine w_cut (fun t o => ∃ b135 c136 b137 b138 c139 b140 b141, Pin t (ovr [(0, .ptr 0 (bs 0).1 290 0 0), (2, .ptr 16 b137 226 0 0), (3, .ptr 24 b140 226 0 0), (4, .v (.int .i64 q8)), (5, .v (.int .i64 v110)), (6, .ptr 48 b141 66 0 0), (23, .ptr 24 b140 226 0 1), (24, .ref 1000385 b138 c139 0 v115.length 66), (25, .v (.int .i64 (v115.length : Int))), (26, .v (.int .i64 q8)), (27, .v (.int .i64 x120)), (28, .v (.bool true)), (61, .v (.bool q129))] t) ∧ PinH o (ovh [(0, ⟨(bs 0).1, (bs 0).2, 290, true, [[.rw g0 g1 (List.map eU8 a0.b), .v (.int .i64 x122.2)]]⟩), (1000257, ent b135 c136 66 (List.map ePt [])), (16, ⟨b137, 1, 226, true, [[.v (.int .i64 0), .al 1000257 b135 c136 0 ([] : List Pt).length 66]]⟩), (1000385, ent b138 c139 66 (List.map ePt v115)), (24, ⟨b140, 1, 226, true, [[.v (.int .i64 x3.1), .al 1000385 b138 c139 0 v115.length 66]]⟩), (48, ⟨b141, 1, 66, true, [[.v (.int .i64 x122.1.x), .v (.int .i64 x122.1.y)]]⟩)] o)) ?_ ?_
          · refine go ?_; intros
            refine s_split rfl (fun c => ?_) (fun c => ?_)
            · replace h161 := itt h161 (by first | exact c | (have c2 := c; simp only [List.length_map] at c2; exact c2))
              rw [c]
              refine go ?_; intros
              cases h161
              exact k_cn ⟨_, _, _, _, _, _, _, pin, pinh⟩
            replace h161 := itf h161 (by first | exact c | (have c2 := c; simp only [List.length_map] at c2; exact c2))
            rw [c]
            obtain ⟨x130, h131, h161⟩ := bnd h161
            refine go ?_; intros
            refine r_ire (xs := v115) rfl rfl h131 rfl ?_
            refine go ?_; intros
            refine r_lde (f := ePt) (xs := v115) (x := x130) rfl rfl (idx_get h131).2 rfl rfl rfl ?_
            refine go ?_; intros
            refine s_split rfl (fun c => ?_) (fun c => ?_)
            · replace h161 := itt h161 c
              rw [c]
              refine go ?_; intros
              refine s_split rfl (fun c => ?_) (fun c => ?_)
              · replace h161 := itt h161 c
                rw [c]
                refine go ?_; intros
                cases h161
                exact k_cn ⟨_, _, _, _, _, _, _, pin, pinh⟩
              replace h161 := itf h161 c
              rw [c]
              obtain ⟨x132, h133, h161⟩ := bnd h161
              refine go ?_; intros
              refine r_ire (xs := v115) rfl rfl h133 rfl ?_
              refine go ?_; intros
              refine r_lde (f := ePt) (xs := v115) (x := x132) rfl rfl (idx_get h133).2 rfl rfl rfl ?_
              refine go ?_; intros
              cases h161
              exact k_cn ⟨_, _, _, _, _, _, _, pin, pinh⟩
            replace h161 := itf h161 c
            rw [c]
            refine go ?_; intros
            cases h161
            exact k_cn ⟨_, _, _, _, _, _, _, pin, pinh⟩
          rintro t o ⟨b135, c136, b137, b138, c139, b140, b141, pq1, pq2⟩
          refine pinned pq1 pq2 ?_
          refine go ?_; intros
          refine w_cond rfl (fun c => ?_) (fun c => ?_)
          · replace h160 := itt h160 c
            try rw [c]
            obtain ⟨h145, h160⟩ := gd h160
            refine go ?_; intros
            refine r_app (f := ePt) (xs := v115) (ys := ([x122.1] : (List Pt))) rfl (src_mv rfl rfl (by first | rfl | simp)) rfl rfl (by first | rfl | simp) h145 fun b143 c144 => ?_
            refine go ?_; intros
            exact k_ln2 _ (Nat.lt_succ_self _) ⟨_, _, _, _, _, _, _, _, _, _, h160, rfl, pin, pinh⟩
          replace h160 := itf h160 c
          try rw [c]
          refine go ?_; intros
          exact k_ln2 _ (Nat.lt_succ_self _) ⟨_, _, _, _, _, _, _, _, _, _, h160, rfl, pin, pinh⟩
        replace h160 := itf h160 (by first | exact c | (have c2 := c; simp only [List.length_map] at c2; exact c2))
        try rw [c]
        refine go ?_; intros
        cases h160
        exact k_cn ⟨_, _, _, _, _, _, pin, pinh⟩
      replace h160 := itf h160 c
      rw [c]
      refine go ?_; intros
      cases h160
      exact k_cn ⟨_, _, _, _, _, _, pin, pinh⟩
  rintro t o ⟨b147, c148, b149, b151, c152, b153, pq1, pq2⟩
  refine pinnedQ pq1 pq2 ?_
  obtain ⟨x154, h155, h⟩ := bnd h
  refine go ?_; intros
  refine c_call (c := c_spec_ShapeOk) ((⟨x3.1, q109.2⟩ : Shape)) H_spec_ShapeOk h155 fun ch => ?_
  refine go ?_; intros
  refine w_cond rfl (fun c => ?_) (fun c => ?_)
  · replace h := itt h c
    try rw [c]
    obtain ⟨x156, h157, h⟩ := bnd h
    refine go ?_; intros
    refine c_callg (c := c_spec_l1Pt) ((⟨a0.b, q109.1⟩ : Rd), g0, g1) H_spec_l1Pt h157 fun ch => ?_
    refine go ?_; intros
    cases h
    exact r_endg
  replace h := itf h c
  try rw [c]
  refine go ?_; intros
  cases h
  exact r_endg
theorem d_spec_l2Feat {G : Gam} (H_spec_l1Shape : Has G c_spec_l1Shape) (H_spec_l12Rd_pick : Has G c_spec_l12Rd_pick) (H_spec_l2Key : Has G c_spec_l2Key) (H_spec_l2Val : Has G c_spec_l2Val) (H_spec_l2Put : Has G c_spec_l2Put) (a0 : Rd) (a1 : Str) (g0 : Option Addr) (g1 : Nat) (r : (Feat × Int)) (h : gf_spec_l2Feat a0 a1 = some r) : Does G if_spec_l2Feat ks_spec_l2Feat (c_spec_l2Feat.args (a0, a1, g0, g1)) (c_spec_l2Feat.ins (a0, a1, g0, g1)) (c_spec_l2Feat.ans (a0, a1, g0, g1) r) := by
  refine does_pg (L := fun bs => [(0, .ptr 0 (bs 0).1 290 0 0), (1, .v (.string a1))]) (H := fun bs => [(0, ⟨(bs 0).1, (bs 0).2, 290, true, [[.rw g0 g1 (List.map eU8 a0.b), .v (.int .i64 a0.p)]]⟩)]) (fun bs => pin) (fun bs => pinh) fun bs t o => ?_
  show vwp _ ib_spec_l2Feat _ _
  unfold ib_spec_l2Feat
  refine w_ir ?_
  unfold gf_spec_l2Feat at h
  obtain ⟨x2, h3, h⟩ := bnd h
  refine go ?_; intros
  refine c_callg (c := c_spec_l1Shape) (a0, g0, g1) H_spec_l1Shape h3 fun ch => ?_
  obtain ⟨x7, h8, h⟩ := bnd h
  refine go ?_; intros
  refine c_callg (c := c_spec_l12Rd_pick) ((⟨a0.b, x2.2⟩ : Rd), 4, g0, g1) H_spec_l12Rd_pick h8 fun ch => ?_
  obtain ⟨q56, h91, h⟩ := bnd h
  refine go ?_; intros
  refine w_last (fun t o => ∃ b79 c80 b81 c82 b83 b84 c85 b87 c88 b89, Pin t (ovr [(4, .ptr 32 b83 100 0 0), (5, .ptr 40 b89 100 0 0)] t) ∧ PinH o (ovh [(1000514, ent b79 c80 66 (List.map ePt [])), (1000515, ent b81 c82 82 (List.map eTag [])), (32, ⟨b83, 1, 100, true, [[.v (.string (⟨#[]⟩ : Str)), .v (.int .i64 0), .al 1000514 b79 c80 0 ([] : List Pt).length 66, .al 1000515 b81 c82 0 ([] : List Tag).length 82]]⟩), (1000642, ent b84 c85 66 (List.map ePt x2.1.pts)), (1000643, ent b87 c88 82 (List.map eTag q56.1)), (40, ⟨b89, 1, 100, true, [[.v (.string a1), .v (.int .i64 x2.1.kind), .al 1000642 b84 c85 0 x2.1.pts.length 66, .al 1000643 b87 c88 0 q56.1.length 82]]⟩), (0, ⟨(bs 0).1, (bs 0).2, 290, true, [[.rw g0 g1 (List.map eU8 a0.b), .v (.int .i64 q56.2)]]⟩)] o)) ?_ ?_
  · refine w_loop2 (fun n t o => ∃ n70 v57 v58 v66 b59 c60 b61 c62 b63 b64 c65 b67 c68 b69, gl_spec_l2Feat_1 a0 n70 v57 v58 v66 = some q56 ∧ n70 = n ∧ Pin t (ovr [(0, .ptr 0 (bs 0).1 290 0 0), (4, .ptr 32 b63 100 0 0), (5, .ptr 40 b69 100 0 0), (6, .v (.int .i64 v57))] t) ∧ PinH o (ovh [(0, ⟨(bs 0).1, (bs 0).2, 290, true, [[.rw g0 g1 (List.map eU8 a0.b), .v (.int .i64 v58)]]⟩), (1000514, ent b59 c60 66 (List.map ePt [])), (1000515, ent b61 c62 82 (List.map eTag [])), (32, ⟨b63, 1, 100, true, [[.v (.string (⟨#[]⟩ : Str)), .v (.int .i64 0), .al 1000514 b59 c60 0 ([] : List Pt).length 66, .al 1000515 b61 c62 0 ([] : List Tag).length 82]]⟩), (1000642, ent b64 c65 66 (List.map ePt x2.1.pts)), (1000643, ent b67 c68 82 (List.map eTag v66)), (40, ⟨b69, 1, 100, true, [[.v (.string a1), .v (.int .i64 x2.1.kind), .al 1000642 b64 c65 0 x2.1.pts.length 66, .al 1000643 b67 c68 0 v66.length 82]]⟩)] o)) _ ⟨_, _, _, _, _, _, _, _, _, _, _, _, _, _, h91, rfl, pin, pinh⟩ ?_
    rintro n t o ⟨n70, v57, v58, v66, b59, c60, b61, c62, b63, b64, c65, b67, c68, b69, h91, rfl, pq1, pq2⟩
    refine pinned pq1 pq2 ?_
    cases n70 with
    | zero => rw [gl_spec_l2Feat_1] at h91; cases h91
    | succ n70 =>
      rw [gl_spec_l2Feat_1] at h91
      refine go ?_; intros
      refine w_cond rfl (fun c => ?_) (fun c => ?_)
      · replace h91 := itt h91 c
        try rw [c]
        obtain ⟨x71, h72, h91⟩ := bnd h91
        refine go ?_; intros
        refine c_callg (c := c_spec_l2Key) ((⟨a0.b, v58⟩ : Rd), g0, g1) H_spec_l2Key h72 fun ch => ?_
        obtain ⟨x73, h74, h91⟩ := bnd h91
        refine go ?_; intros
        refine c_callg (c := c_spec_l2Val) ((⟨a0.b, x71.2⟩ : Rd), g0, g1) H_spec_l2Val h74 fun ch => ?_
        obtain ⟨x75, h76, h91⟩ := bnd h91
        refine go ?_; intros
        refine c_call (c := c_spec_l2Put) (v66, x71.1, x73.1) H_spec_l2Put h76 fun ch => ?_
        refine go ?_; intros
        exact k_ln2 _ (Nat.lt_succ_self _) ⟨_, _, _, _, _, _, _, _, _, _, _, _, _, _, h91, rfl, pin, pinh⟩
      replace h91 := itf h91 c
      try rw [c]
      refine go ?_; intros
      cases h91
      exact k_cn ⟨_, _, _, _, _, _, _, _, _, _, pin, pinh⟩
  rintro t o ⟨b79, c80, b81, c82, b83, b84, c85, b87, c88, b89, pq1, pq2⟩
  refine pinnedQ pq1 pq2 ?_
  refine go ?_; intros
  cases h
  exact r_endg
end Go.Proofs.AM
