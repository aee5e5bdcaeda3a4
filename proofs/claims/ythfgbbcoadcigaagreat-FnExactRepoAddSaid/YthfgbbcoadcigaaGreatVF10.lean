/- A part of the proofs of this seat's statements (VF10): lemmas on an abstract machine for the program's functions. Conditions: none. -/
import Derived.Test.YthfgbbcoadcigaaGreatVD
set_option linter.unusedVariables false
set_option linter.unusedSimpArgs false
set_option maxRecDepth 100000
set_option maxHeartbeats 4000000
namespace Go.Proofs.AM
attribute [local irreducible] vwp vstps vstpLs vstp vdo vret kseq kblk kloop kend kcut kloop2 frzV renV shutK
theorem d_impl_cloneRepo {G : Gam} (H_impl_cloneCommit : Has G c_impl_cloneCommit) (a0 : Repo) (r : Repo) (h : gf_impl_cloneRepo a0 = some r) : Does G if_impl_cloneRepo ks_impl_cloneRepo (c_impl_cloneRepo.args (a0)) [] (c_impl_cloneRepo.ans (a0) r) := by
  refine does_pn (L := [(0, .agg [.ro (List.map (eCommit false) a0.commits), .ro (List.map eHead a0.heads)])]) (fun bs => pin) fun bs t o => ?_
  show vwp _ ib_impl_cloneRepo _ _
  unfold ib_impl_cloneRepo
  unfold gf_impl_cloneRepo at h
  obtain ⟨h7, h⟩ := gd h
  refine go ?_; intros
  refine r_app (f := eHead) (xs := ([] : (List Head))) (ys := a0.heads) rfl (src_ro (fun _ => rfl) (fun _ => rfl)) rfl rfl (by first | rfl | simp) h7 fun b5 c6 => ?_
  obtain ⟨hf91, h⟩ := gd h
  obtain ⟨q70, h114, h⟩ := bnd h
  refine go ?_; intros
  refine w_last (fun t o => ∃ b103 c104 b105 c106 b107 b109 c110 b111 c112 b113, Pin t (ovr [(2, .ptr 16 b107 210 0 0), (3, .ptr 24 b113 210 0 0)] t) ∧ PinH o (ovh [(1000256, ent b103 c104 115 (List.map (eCommit true) [])), (1000257, ent b105 c106 130 (List.map eHead [])), (16, ⟨b107, 1, 210, true, [[.al 1000256 b103 c104 0 ([] : List Commit).length 115, .al 1000257 b105 c106 0 ([] : List Head).length 130]]⟩), (1000384, ent b109 c110 115 (List.map (eCommit true) q70)), (1000385, ent b111 c112 130 (List.map eHead ([] ++ a0.heads))), (24, ⟨b113, 1, 210, true, [[.al 1000384 b109 c110 0 q70.length 115, .al 1000385 b111 c112 0 ([] ++ a0.heads).length 130]]⟩)] o)) ?_ ?_
  · refine w_loop2 (fun n t o => ∃ l85 k83 v77 b72 c73 b74 c75 b76 b78 c79 b80 c81 b82, gl_impl_cloneRepo_1 l85 k83 v77 = some q70 ∧ n = l85.length ∧ (a0.commits).drop k83 = l85 ∧ Pin t (ovr [(2, .ptr 16 b76 210 0 0), (3, .ptr 24 b82 210 0 0), (13, .ro (List.map (eCommit false) a0.commits)), (14, .v (.int .i64 (a0.commits.length : Int))), (15, .v (.int .i64 (k83 : Int)))] t) ∧ PinH o (ovh [(1000256, ent b72 c73 115 (List.map (eCommit true) [])), (1000257, ent b74 c75 130 (List.map eHead [])), (16, ⟨b76, 1, 210, true, [[.al 1000256 b72 c73 0 ([] : List Commit).length 115, .al 1000257 b74 c75 0 ([] : List Head).length 130]]⟩), (1000384, ent b78 c79 115 (List.map (eCommit true) v77)), (1000385, ent b80 c81 130 (List.map eHead ([] ++ a0.heads))), (24, ⟨b82, 1, 210, true, [[.al 1000384 b78 c79 0 v77.length 115, .al 1000385 b80 c81 0 ([] ++ a0.heads).length 130]]⟩)] o)) _ ⟨_, _, _, _, _, _, _, _, _, _, _, _, _, h114, rfl, rfl, pin, pinh⟩ ?_
    rintro n t o ⟨l85, k83, v77, b72, c73, b74, c75, b76, b78, c79, b80, c81, b82, h114, rfl, hd86, q1, q2⟩
    refine pinned q1 q2 ?_
    cases l85 with
    | nil =>
      have hge88 := drop_ge hd86
      rw [gl_impl_cloneRepo_1] at h114
      refine go ?_; intros
      rw [hge88]
      refine go ?_; intros
      cases h114
      exact k_cn ⟨_, _, _, _, _, _, _, _, _, _, pin, pinh⟩
    | cons x84 l85 =>
      have hlt87 := drop_lt hd86
      have hx89 := drop_ix hd86
      have hw90 := drop_wr hd86 hf91
      rw [gl_impl_cloneRepo_1] at h114
      refine go ?_; intros
      rw [hlt87]
      refine go ?_; intros
      refine r_iro rfl rfl hx89 rfl ?_
      obtain ⟨x93, h94, h114⟩ := bnd h114
      refine go ?_; intros
      refine c_call (c := c_impl_cloneCommit) (x84) H_impl_cloneCommit h94 fun ch => ?_
      refine go ?_; intros
      simp only [take_map_len, take_ent]
      obtain ⟨h102, h114⟩ := gd h114
      refine go ?_; intros
      refine r_app (f := (eCommit true)) (xs := v77) (ys := ([x93] : (List Commit))) rfl (src_mv rfl rfl (by first | rfl | simp)) rfl rfl (by first | rfl | simp) h102 fun b100 c101 => ?_
      refine go ?_; intros
      rw [hw90]
      exact k_ln2 _ (Nat.lt_succ_self _) ⟨_, _, _, _, _, _, _, _, _, _, _, _, _, h114, rfl, drop_next hd86, pin, pinh⟩
  rintro t o ⟨b103, c104, b105, c106, b107, b109, c110, b111, c112, b113, q1, q2⟩
  refine pinnedQ q1 q2 ?_
  refine go ?_; intros
  cases h
  exact r_end
theorem d_impl_Repo_set {G : Gam} (H_impl_Repo_commit : Has G c_impl_Repo_commit) (H_impl_cloneCommit : Has G c_impl_cloneCommit) (a0 : Repo) (a1 : Int) (a2 : Commit) (r : (Bool × Repo)) (h : gf_impl_Repo_set a0 a1 a2 = some r) : Does G if_impl_Repo_set ks_impl_Repo_set (c_impl_Repo_set.args (a0, a1, a2)) (c_impl_Repo_set.ins (a0, a1, a2)) (c_impl_Repo_set.ans (a0, a1, a2) r) := by
  refine does_pg (L := fun bs => [(0, .ptr 0 (bs 0).1 210 0 0), (1, .v (.int .i64 a1)), (2, .agg [.ro (List.map eInt a2.up), .ro (List.map (eFeat false) a2.sheet), .v (.string a2.note)])]) (H := fun bs => [(0, ⟨(bs 0).1, (bs 0).2, 210, true, [[.sl true 115 (List.map (eCommit true) a0.commits), .sl true 130 (List.map eHead a0.heads)]]⟩)]) (fun bs => pin) (fun bs => pinh) fun bs t o => ?_
  show vwp _ ib_impl_Repo_set _ _
  unfold ib_impl_Repo_set
  unfold gf_impl_Repo_set at h
  refine go ?_; intros
  simp only [List.length_map]
  obtain ⟨x6, h7, h⟩ := bnd h
  refine go ?_; intros
  refine c_call (c := c_impl_Repo_commit) (a0, a2) H_impl_Repo_commit h7 fun ch => ?_
  refine go ?_; intros
  refine w_cond rfl (fun c => ?_) (fun c => ?_)
  · replace h := itt h c
    try rw [c]
    refine go ?_; intros
    refine w_cond rfl (fun c => ?_) (fun c => ?_)
    · replace h := itt h c
      try rw [c]
      refine go ?_; intros
      cases h
      exact r_endg
    replace h := itf h c
    try rw [c]
    obtain ⟨x8, h9, h⟩ := bnd h
    refine go ?_; intros
    refine c_call (c := c_impl_cloneCommit) (a2) H_impl_cloneCommit h9 fun ch => ?_
    refine go ?_; intros
    simp only [take_map_len, take_ent]
    obtain ⟨h17, h⟩ := gd h
    refine go ?_; intros
    refine r_app (f := (eCommit true)) (xs := a0.commits) (ys := ([x8] : (List Commit))) rfl (src_mv rfl rfl (by first | rfl | simp)) rfl rfl (by first | rfl | simp) h17 fun b15 c16 => ?_
    obtain ⟨x18, h19, h⟩ := bnd h
    refine go ?_; intros
    refine r_ire (xs := a0.heads) rfl rfl h19 rfl ?_
    refine go ?_; intros
    refine c_ste (f := eHead) a0.heads (⟨x18.name, (a0.commits.length : Int)⟩ : Head) (idx_get h19).2 ?_
    refine go ?_; intros
    cases h
    exact r_endg
  replace h := itf h c
  try rw [c]
  obtain ⟨x20, h21, h⟩ := bnd h
  refine go ?_; intros
  refine r_ire (xs := a0.heads) rfl rfl h21 rfl ?_
  refine go ?_; intros
  refine c_ste (f := eHead) a0.heads (⟨x20.name, x6⟩ : Head) (idx_get h21).2 ?_
  refine go ?_; intros
  cases h
  exact r_endg
theorem d_laws_eqPt {G : Gam}  (a0 : Pt) (a1 : Pt) (r : Bool) (h : gf_laws_eqPt a0 a1 = some r) : Does G if_laws_eqPt ks_laws_eqPt (c_laws_eqPt.args (a0, a1)) [] (c_laws_eqPt.ans (a0, a1) r) := by
  refine does_pn (L := [(0, .agg [.v (.int .i64 a0.x), .v (.int .i64 a0.y)]), (1, .agg [.v (.int .i64 a1.x), .v (.int .i64 a1.y)])]) (fun bs => pin) fun bs t o => ?_
  show vwp _ ib_laws_eqPt _ _
  unfold ib_laws_eqPt
  unfold gf_laws_eqPt at h
  refine go ?_; intros
  refine w_cond rfl (fun c => ?_) (fun c => ?_)
  · replace h := itt h c
    try rw [c]
    refine go ?_; intros
    cases h
    exact r_end
  replace h := itf h c
  try rw [c]
  refine go ?_; intros
  refine w_cond rfl (fun c => ?_) (fun c => ?_)
  · replace h := itt h c
    try rw [c]
    refine go ?_; intros
    cases h
    exact r_end
  replace h := itf h c
  try rw [c]
  refine go ?_; intros
  cases h
  exact r_end
theorem d_laws_eqPtS {G : Gam} (H_laws_eqPt : Has G c_laws_eqPt) (a0 : (List Pt)) (a1 : (List Pt)) (r : Bool) (h : gf_laws_eqPtS a0 a1 = some r) : Does G if_laws_eqPtS ks_laws_eqPtS (c_laws_eqPtS.args (a0, a1)) [] (c_laws_eqPtS.ans (a0, a1) r) := by
  refine does_pn (L := [(0, .ro (List.map ePt a0)), (1, .ro (List.map ePt a1))]) (fun bs => pin) fun bs t o => ?_
  show vwp _ ib_laws_eqPtS _ _
  unfold ib_laws_eqPtS
  unfold gf_laws_eqPtS at h
  refine go ?_; intros
  refine w_cond rfl (fun c => ?_) (fun c => ?_)
  · replace h := itt h c
    try rw [c]
    refine go ?_; intros
    cases h
    exact r_end
  replace h := itf h c
  try rw [c]
  obtain ⟨hf30, h⟩ := gd h
  obtain ⟨q20, h35, h⟩ := bnd h
  refine go ?_; intros
  refine w_last (fun t o => ∃ q20_, q20 = .inr q20_ ∧ Pin t (ovr [] t) ∧ PinH o (ovh [] o)) ?_ ?_
  · refine w_loop2 (fun n t o => ∃ l24 k22  , gl_laws_eqPtS_1 a1 l24 k22  = some q20 ∧ n = l24.length ∧ (a0).drop k22 = l24 ∧ Pin t (ovr [(0, .ro (List.map ePt a0)), (1, .ro (List.map ePt a1)), (5, .v (.int .i64 (k22 : Int)))] t) ∧ PinH o (ovh [] o)) _ ⟨_, _, h35, rfl, rfl, pin, pinh⟩ ?_
    rintro n t o ⟨l24, k22, h35, rfl, hd25, q1, q2⟩
    refine pinned q1 q2 ?_
    cases l24 with
    | nil =>
      have hge27 := drop_ge hd25
      rw [gl_laws_eqPtS_1] at h35
      refine go ?_; intros
      rw [hge27]
      refine go ?_; intros
      cases h35
      exact k_cn ⟨_, rfl, pin, pinh⟩
    | cons x23 l24 =>
      have hlt26 := drop_lt hd25
      have hx28 := drop_ix hd25
      have hw29 := drop_wr hd25 hf30
      rw [gl_laws_eqPtS_1] at h35
      refine go ?_; intros
      rw [hlt26]
      refine go ?_; intros
      refine r_iro rfl rfl hx28 rfl ?_
      obtain ⟨x31, h32, h35⟩ := bnd h35
      refine go ?_; intros
      refine r_iro rfl rfl h32 rfl ?_
      obtain ⟨x33, h34, h35⟩ := bnd h35
      refine go ?_; intros
      refine c_call (c := c_laws_eqPt) (x23, x31) H_laws_eqPt h34 fun ch => ?_
      refine go ?_; intros
      refine w_cond rfl (fun c => ?_) (fun c => ?_)
      · replace h35 := itt h35 c
        try rw [c]
        refine go ?_; intros
        cases h35
        replace h : some _ = some _ := h
        cases h
        exact r_end
      replace h35 := itf h35 c
      try rw [c]
      refine go ?_; intros
      rw [hw29]
      exact k_ln2 _ (Nat.lt_succ_self _) ⟨_, _, h35, rfl, drop_next hd25, pin, pinh⟩
  rintro t o ⟨q20, rfl, q1, q2⟩
  refine pinnedQ q1 q2 ?_
  refine go ?_; intros
  cases h
  exact r_end
theorem d_laws_eqTag {G : Gam}  (a0 : Tag) (a1 : Tag) (r : Bool) (h : gf_laws_eqTag a0 a1 = some r) : Does G if_laws_eqTag ks_laws_eqTag (c_laws_eqTag.args (a0, a1)) [] (c_laws_eqTag.ans (a0, a1) r) := by
  refine does_pn (L := [(0, .agg [.v (.string a0.key), .v (.string a0.val)]), (1, .agg [.v (.string a1.key), .v (.string a1.val)])]) (fun bs => pin) fun bs t o => ?_
  show vwp _ ib_laws_eqTag _ _
  unfold ib_laws_eqTag
  unfold gf_laws_eqTag at h
  refine go ?_; intros
  refine w_cond rfl (fun c => ?_) (fun c => ?_)
  · replace h := itt h c
    try rw [c]
    refine go ?_; intros
    cases h
    exact r_end
  replace h := itf h c
  try rw [c]
  refine go ?_; intros
  refine w_cond rfl (fun c => ?_) (fun c => ?_)
  · replace h := itt h c
    try rw [c]
    refine go ?_; intros
    cases h
    exact r_end
  replace h := itf h c
  try rw [c]
  refine go ?_; intros
  cases h
  exact r_end
theorem d_laws_eqShape {G : Gam} (H_laws_eqPtS : Has G c_laws_eqPtS) (a0 : Shape) (a1 : Shape) (r : Bool) (h : gf_laws_eqShape a0 a1 = some r) : Does G if_laws_eqShape ks_laws_eqShape (c_laws_eqShape.args (a0, a1)) [] (c_laws_eqShape.ans (a0, a1) r) := by
  refine does_pn (L := [(0, .agg [.v (.int .i64 a0.kind), .ro (List.map ePt a0.pts)]), (1, .agg [.v (.int .i64 a1.kind), .ro (List.map ePt a1.pts)])]) (fun bs => pin) fun bs t o => ?_
  show vwp _ ib_laws_eqShape _ _
  unfold ib_laws_eqShape
  unfold gf_laws_eqShape at h
  refine go ?_; intros
  refine w_cond rfl (fun c => ?_) (fun c => ?_)
  · replace h := itt h c
    try rw [c]
    refine go ?_; intros
    cases h
    exact r_end
  replace h := itf h c
  try rw [c]
  obtain ⟨x3, h4, h⟩ := bnd h
  refine go ?_; intros
  refine c_call (c := c_laws_eqPtS) (a0.pts, a1.pts) H_laws_eqPtS h4 fun ch => ?_
  refine go ?_; intros
  refine w_cond rfl (fun c => ?_) (fun c => ?_)
  · replace h := itt h c
    try rw [c]
    refine go ?_; intros
    cases h
    exact r_end
  replace h := itf h c
  try rw [c]
  refine go ?_; intros
  cases h
  exact r_end
theorem d_laws_eqTagS {G : Gam} (H_laws_eqTag : Has G c_laws_eqTag) (a0 : (List Tag)) (a1 : (List Tag)) (r : Bool) (h : gf_laws_eqTagS a0 a1 = some r) : Does G if_laws_eqTagS ks_laws_eqTagS (c_laws_eqTagS.args (a0, a1)) [] (c_laws_eqTagS.ans (a0, a1) r) := by
  refine does_pn (L := [(0, .ro (List.map eTag a0)), (1, .ro (List.map eTag a1))]) (fun bs => pin) fun bs t o => ?_
  show vwp _ ib_laws_eqTagS _ _
  unfold ib_laws_eqTagS
  unfold gf_laws_eqTagS at h
  refine go ?_; intros
  refine w_cond rfl (fun c => ?_) (fun c => ?_)
  · replace h := itt h c
    try rw [c]
    refine go ?_; intros
    cases h
    exact r_end
  replace h := itf h c
  try rw [c]
  obtain ⟨hf30, h⟩ := gd h
  obtain ⟨q20, h35, h⟩ := bnd h
  refine go ?_; intros
  refine w_last (fun t o => ∃ q20_, q20 = .inr q20_ ∧ Pin t (ovr [] t) ∧ PinH o (ovh [] o)) ?_ ?_
  · refine w_loop2 (fun n t o => ∃ l24 k22  , gl_laws_eqTagS_1 a1 l24 k22  = some q20 ∧ n = l24.length ∧ (a0).drop k22 = l24 ∧ Pin t (ovr [(0, .ro (List.map eTag a0)), (1, .ro (List.map eTag a1)), (5, .v (.int .i64 (k22 : Int)))] t) ∧ PinH o (ovh [] o)) _ ⟨_, _, h35, rfl, rfl, pin, pinh⟩ ?_
    rintro n t o ⟨l24, k22, h35, rfl, hd25, q1, q2⟩
    refine pinned q1 q2 ?_
    cases l24 with
    | nil =>
      have hge27 := drop_ge hd25
      rw [gl_laws_eqTagS_1] at h35
      refine go ?_; intros
      rw [hge27]
      refine go ?_; intros
      cases h35
      exact k_cn ⟨_, rfl, pin, pinh⟩
    | cons x23 l24 =>
      have hlt26 := drop_lt hd25
      have hx28 := drop_ix hd25
      have hw29 := drop_wr hd25 hf30
      rw [gl_laws_eqTagS_1] at h35
      refine go ?_; intros
      rw [hlt26]
      refine go ?_; intros
      refine r_iro rfl rfl hx28 rfl ?_
      obtain ⟨x31, h32, h35⟩ := bnd h35
      refine go ?_; intros
      refine r_iro rfl rfl h32 rfl ?_
      obtain ⟨x33, h34, h35⟩ := bnd h35
      refine go ?_; intros
      refine c_call (c := c_laws_eqTag) (x23, x31) H_laws_eqTag h34 fun ch => ?_
      refine go ?_; intros
      refine w_cond rfl (fun c => ?_) (fun c => ?_)
      · replace h35 := itt h35 c
        try rw [c]
        refine go ?_; intros
        cases h35
        replace h : some _ = some _ := h
        cases h
        exact r_end
      replace h35 := itf h35 c
      try rw [c]
      refine go ?_; intros
      rw [hw29]
      exact k_ln2 _ (Nat.lt_succ_self _) ⟨_, _, h35, rfl, drop_next hd25, pin, pinh⟩
  rintro t o ⟨q20, rfl, q1, q2⟩
  refine pinnedQ q1 q2 ?_
  refine go ?_; intros
  cases h
  exact r_end
end Go.Proofs.AM
