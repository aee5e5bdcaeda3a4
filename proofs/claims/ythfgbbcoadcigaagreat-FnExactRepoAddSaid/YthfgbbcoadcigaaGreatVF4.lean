/- A part of the proofs of this seat's statements (VF4): lemmas on an abstract machine for the program's functions. Conditions: none. -/
import Derived.Test.YthfgbbcoadcigaaGreatVD
set_option linter.unusedVariables false
set_option linter.unusedSimpArgs false
set_option maxRecDepth 100000
set_option maxHeartbeats 4000000
namespace Go.Proofs.AM
attribute [local irreducible] vwp vstps vstpLs vstp vdo vret kseq kblk kloop kend kcut kloop2 frzV renV shutK
theorem d_spec_l7One {G : Gam} (H_spec_l3Copy : Has G c_spec_l3Copy) (a0 : Commit) (r : Commit) (h : gf_spec_l7One a0 = some r) : Does G if_spec_l7One ks_spec_l7One (c_spec_l7One.args (a0)) [] (c_spec_l7One.ans (a0) r) := by
  refine does_pn (L := [(0, .agg [.ro (List.map eInt a0.up), .ro (List.map (eFeat false) a0.sheet), .v (.string a0.note)])]) (fun bs => pin) fun bs t o => ?_
  show vwp _ ib_spec_l7One _ _
  unfold ib_spec_l7One
  unfold gf_spec_l7One at h
  obtain ⟨h6, h⟩ := gd h
  refine go ?_; intros
  refine r_app (f := eInt) (xs := ([] : (List Int))) (ys := a0.up) rfl (src_ro (fun _ => rfl) (fun _ => rfl)) rfl rfl (by first | rfl | simp) h6 fun b4 c5 => ?_
  obtain ⟨x7, h8, h⟩ := bnd h
  refine go ?_; intros
  refine c_call (c := c_spec_l3Copy) (a0.sheet) H_spec_l3Copy h8 fun ch => ?_
  refine go ?_; intros
  cases h
  exact r_end
theorem d_spec_RepoOk {G : Gam} (H_spec_l7Up : Has G c_spec_l7Up) (H_spec_SheetOk : Has G c_spec_SheetOk) (H_spec_WordOk : Has G c_spec_WordOk) (H_spec_l7Find : Has G c_spec_l7Find) (H_spec_l7Head : Has G c_spec_l7Head) (a0 : Repo) (r : Bool) (h : gf_spec_RepoOk a0 = some r) : Does G if_spec_RepoOk ks_spec_RepoOk (c_spec_RepoOk.args (a0)) [] (c_spec_RepoOk.ans (a0) r) := by
  refine does_pn (L := [(0, .agg [.ro (List.map (eCommit false) a0.commits), .ro (List.map eHead a0.heads)])]) (fun bs => pin) fun bs t o => ?_
  show vwp _ ib_spec_RepoOk _ _
  unfold ib_spec_RepoOk
  unfold gf_spec_RepoOk at h
  refine go ?_; intros
  refine s_split rfl (fun c => ?_) (fun c => ?_)
  · replace h := itt h c
    rw [c]
    refine go ?_; intros
    cases h
    exact r_end
  replace h := itf h c
  rw [c]
  refine go ?_; intros
  refine s_split rfl (fun c => ?_) (fun c => ?_)
  · replace h := itt h c
    rw [c]
    refine go ?_; intros
    cases h
    exact r_end
  replace h := itf h c
  rw [c]
  refine go ?_; intros
  refine s_split rfl (fun c => ?_) (fun c => ?_)
  · replace h := itt h c
    rw [c]
    refine go ?_; intros
    cases h
    exact r_end
  replace h := itf h c
  rw [c]
  refine go ?_; intros
  refine w_cond rfl (fun c => ?_) (fun c => ?_)
  · replace h := itt h c
    try rw [c]
    refine go ?_; intros
    cases h
    exact r_end
  replace h := itf h c
  try rw [c]
  obtain ⟨hf49, h⟩ := gd h
  obtain ⟨q38, h101, h⟩ := bnd h
  refine go ?_; intros
  refine w_last (fun t o => ∃ q38_, q38 = .inr q38_ ∧ ∃ b59, Pin t (ovr [(1, .ptr 8 b59 210 0 0)] t) ∧ PinH o (ovh [(8, ⟨b59, 1, 210, true, [[.sl false 3 (List.map (eCommit false) a0.commits), .sl false 2 (List.map eHead a0.heads)]]⟩)] o)) ?_ ?_
  · refine w_loop2 (fun n t o => ∃ l43 k41  b40, gl_spec_RepoOk_1 a0 l43 k41  = some q38 ∧ n = l43.length ∧ (a0.commits).drop k41 = l43 ∧ Pin t (ovr [(1, .ptr 8 b40 210 0 0), (3, .v (.int .i64 (k41 : Int)))] t) ∧ PinH o (ovh [(8, ⟨b40, 1, 210, true, [[.sl false 3 (List.map (eCommit false) a0.commits), .sl false 2 (List.map eHead a0.heads)]]⟩)] o)) _ ⟨_, _, _, h101, rfl, rfl, pin, pinh⟩ ?_
    rintro n t o ⟨l43, k41, b40, h101, rfl, hd44, q1, q2⟩
    refine pinned q1 q2 ?_
    cases l43 with
    | nil =>
      have hge46 := drop_ge hd44
      rw [gl_spec_RepoOk_1] at h101
      refine go ?_; intros
      rw [hge46]
      refine go ?_; intros
      cases h101
      exact k_cn ⟨_, rfl, _, pin, pinh⟩
    | cons x42 l43 =>
      have hlt45 := drop_lt hd44
      have hx47 := drop_ix hd44
      have hw48 := drop_wr hd44 hf49
      rw [gl_spec_RepoOk_1] at h101
      refine go ?_; intros
      rw [hlt45]
      refine go ?_; intros
      refine r_iro rfl rfl hx47 rfl ?_
      obtain ⟨x51, h52, h101⟩ := bnd h101
      refine go ?_; intros
      refine c_call (c := c_spec_l7Up) (x42.up, (k41 : Int)) H_spec_l7Up h52 fun ch => ?_
      refine go ?_; intros
      refine s_split rfl (fun c => ?_) (fun c => ?_)
      · replace h101 := itt h101 c
        rw [c]
        refine go ?_; intros
        cases h101
        replace h : some _ = some _ := h
        cases h
        exact r_end
      replace h101 := itf h101 c
      rw [c]
      obtain ⟨x53, h54, h101⟩ := bnd h101
      refine go ?_; intros
      refine c_call (c := c_spec_SheetOk) (x42.sheet) H_spec_SheetOk h54 fun ch => ?_
      refine go ?_; intros
      refine s_split rfl (fun c => ?_) (fun c => ?_)
      · replace h101 := itt h101 c
        rw [c]
        refine go ?_; intros
        cases h101
        replace h : some _ = some _ := h
        cases h
        exact r_end
      replace h101 := itf h101 c
      rw [c]
      obtain ⟨x55, h56, h101⟩ := bnd h101
      refine go ?_; intros
      refine c_call (c := c_spec_WordOk) (x42.note) H_spec_WordOk h56 fun ch => ?_
      refine go ?_; intros
      refine s_split rfl (fun c => ?_) (fun c => ?_)
      · replace h101 := itt h101 c
        rw [c]
        refine go ?_; intros
        cases h101
        replace h : some _ = some _ := h
        cases h
        exact r_end
      replace h101 := itf h101 c
      rw [c]
      obtain ⟨x57, h58, h101⟩ := bnd h101
      refine go ?_; intros
      refine c_call (c := c_spec_l7Find) (a0, x42) H_spec_l7Find h58 fun ch => ?_
      refine go ?_; intros
      refine w_cond rfl (fun c => ?_) (fun c => ?_)
      · replace h101 := itt h101 c
        try rw [c]
        refine go ?_; intros
        cases h101
        replace h : some _ = some _ := h
        cases h
        exact r_end
      replace h101 := itf h101 c
      try rw [c]
      refine go ?_; intros
      rw [hw48]
      exact k_ln2 _ (Nat.lt_succ_self _) ⟨_, _, _, h101, rfl, drop_next hd44, pin, pinh⟩
  rintro t o ⟨q38, rfl, b59, q1, q2⟩
  refine pinnedQ q1 q2 ?_
  obtain ⟨hf95, h⟩ := gd h
  obtain ⟨q84, h102, h⟩ := bnd h
  refine go ?_; intros
  refine w_last (fun t o => ∃ q84_, q84 = .inr q84_ ∧ Pin t (ovr [] t) ∧ PinH o (ovh [] o)) ?_ ?_
  · refine w_loop2 (fun n t o => ∃ l89 k87  b86, gl_spec_RepoOk_2 a0 l89 k87  = some q84 ∧ n = l89.length ∧ (a0.heads).drop k87 = l89 ∧ Pin t (ovr [(1, .ptr 8 b86 210 0 0), (5, .v (.int .i64 (k87 : Int)))] t) ∧ PinH o (ovh [(8, ⟨b86, 1, 210, true, [[.sl false 3 (List.map (eCommit false) a0.commits), .sl false 2 (List.map eHead a0.heads)]]⟩)] o)) _ ⟨_, _, _, h102, rfl, rfl, pin, pinh⟩ ?_
    rintro n t o ⟨l89, k87, b86, h102, rfl, hd90, q1, q2⟩
    refine pinned q1 q2 ?_
    cases l89 with
    | nil =>
      have hge92 := drop_ge hd90
      rw [gl_spec_RepoOk_2] at h102
      refine go ?_; intros
      rw [hge92]
      refine go ?_; intros
      cases h102
      exact k_cn ⟨_, rfl, pin, pinh⟩
    | cons x88 l89 =>
      have hlt91 := drop_lt hd90
      have hx93 := drop_ix hd90
      have hw94 := drop_wr hd90 hf95
      rw [gl_spec_RepoOk_2] at h102
      refine go ?_; intros
      rw [hlt91]
      refine go ?_; intros
      refine r_iro rfl rfl hx93 rfl ?_
      obtain ⟨x97, h98, h102⟩ := bnd h102
      refine go ?_; intros
      refine c_call (c := c_spec_WordOk) (x88.name) H_spec_WordOk h98 fun ch => ?_
      refine go ?_; intros
      refine s_split rfl (fun c => ?_) (fun c => ?_)
      · replace h102 := itt h102 c
        rw [c]
        refine go ?_; intros
        cases h102
        replace h : some _ = some _ := h
        cases h
        exact r_end
      replace h102 := itf h102 c
      rw [c]
      obtain ⟨x99, h100, h102⟩ := bnd h102
      refine go ?_; intros
      refine c_call (c := c_spec_l7Head) (a0, x88.name) H_spec_l7Head h100 fun ch => ?_
      refine go ?_; intros
      refine s_split rfl (fun c => ?_) (fun c => ?_)
      · replace h102 := itt h102 c
        rw [c]
        refine go ?_; intros
        cases h102
        replace h : some _ = some _ := h
        cases h
        exact r_end
      replace h102 := itf h102 c
      rw [c]
      refine go ?_; intros
      refine s_split rfl (fun c => ?_) (fun c => ?_)
      · replace h102 := itt h102 c
        rw [c]
        refine go ?_; intros
        cases h102
        replace h : some _ = some _ := h
        cases h
        exact r_end
      replace h102 := itf h102 c
      rw [c]
      refine go ?_; intros
      refine w_cond rfl (fun c => ?_) (fun c => ?_)
      · replace h102 := itt h102 c
        try rw [c]
        refine go ?_; intros
        cases h102
        replace h : some _ = some _ := h
        cases h
        exact r_end
      replace h102 := itf h102 c
      try rw [c]
      refine go ?_; intros
      rw [hw94]
      exact k_ln2 _ (Nat.lt_succ_self _) ⟨_, _, _, h102, rfl, drop_next hd90, pin, pinh⟩
  rintro t o ⟨q84, rfl, q1, q2⟩
  refine pinnedQ q1 q2 ?_
  refine go ?_; intros
  cases h
  exact r_end
theorem d_spec_l7Add {G : Gam} (H_spec_l7Find : Has G c_spec_l7Find) (H_spec_l7One : Has G c_spec_l7One) (a0 : Repo) (a1 : Int) (a2 : Commit) (r : Repo) (h : gf_spec_l7Add a0 a1 a2 = some r) : Does G if_spec_l7Add ks_spec_l7Add (c_spec_l7Add.args (a0, a1, a2)) (c_spec_l7Add.ins (a0, a1, a2)) (c_spec_l7Add.ans (a0, a1, a2) r) := by
  refine does_pg (L := fun bs => [(0, .agg [.ref 0 (bs 0).1 (bs 0).2 0 a0.commits.length 115, .ref 8 (bs 1).1 (bs 1).2 0 a0.heads.length 130]), (1, .v (.int .i64 a1)), (2, .agg [.ro (List.map eInt a2.up), .ro (List.map (eFeat false) a2.sheet), .v (.string a2.note)])]) (H := fun bs => [(0, ent (bs 0).1 (bs 0).2 115 (List.map (eCommit true) a0.commits)), (8, ent (bs 1).1 (bs 1).2 130 (List.map eHead a0.heads))]) (fun bs => pin) (fun bs => pinh) fun bs t o => ?_
  show vwp _ ib_spec_l7Add _ _
  unfold ib_spec_l7Add
  unfold gf_spec_l7Add at h
  obtain ⟨x4, h5, h⟩ := bnd h
  refine go ?_; intros
  refine c_call (c := c_spec_l7Find) (a0, a2) H_spec_l7Find h5 fun ch => ?_
  refine go ?_; intros
  refine w_cond rfl (fun c => ?_) (fun c => ?_)
  · replace h := itt h c
    try rw [c]
    obtain ⟨x6, h7, h⟩ := bnd h
    refine go ?_; intros
    refine c_call (c := c_spec_l7One) (a2) H_spec_l7One h7 fun ch => ?_
    refine go ?_; intros
    simp only [take_map_len, take_ent]
    obtain ⟨h15, h⟩ := gd h
    refine go ?_; intros
    refine r_app (f := (eCommit true)) (xs := a0.commits) (ys := ([x6] : (List Commit))) rfl (src_mv rfl rfl (by first | rfl | simp)) rfl rfl (by first | rfl | simp) h15 fun b13 c14 => ?_
    obtain ⟨x16, h17, h⟩ := bnd h
    refine go ?_; intros
    refine r_ire (xs := a0.heads) rfl rfl h17 rfl ?_
    refine go ?_; intros
    refine c_ste (f := eHead) a0.heads (⟨x16.name, (a0.commits.length : Int)⟩ : Head) (idx_get h17).2 ?_
    refine go ?_; intros
    cases h
    exact r_endg
  replace h := itf h c
  try rw [c]
  obtain ⟨x18, h19, h⟩ := bnd h
  refine go ?_; intros
  refine r_ire (xs := a0.heads) rfl rfl h19 rfl ?_
  refine go ?_; intros
  refine c_ste (f := eHead) a0.heads (⟨x18.name, x4⟩ : Head) (idx_get h19).2 ?_
  refine go ?_; intros
  cases h
  exact r_endg
theorem d_spec_l7Copy {G : Gam} (H_spec_l7One : Has G c_spec_l7One) (a0 : Repo) (r : Repo) (h : gf_spec_l7Copy a0 = some r) : Does G if_spec_l7Copy ks_spec_l7Copy (c_spec_l7Copy.args (a0)) [] (c_spec_l7Copy.ans (a0) r) := by
  refine does_pn (L := [(0, .agg [.ro (List.map (eCommit false) a0.commits), .ro (List.map eHead a0.heads)])]) (fun bs => pin) fun bs t o => ?_
  show vwp _ ib_spec_l7Copy _ _
  unfold ib_spec_l7Copy
  unfold gf_spec_l7Copy at h
  obtain ⟨h6, h⟩ := gd h
  refine go ?_; intros
  refine r_app (f := eHead) (xs := ([] : (List Head))) (ys := a0.heads) rfl (src_ro (fun _ => rfl) (fun _ => rfl)) rfl rfl (by first | rfl | simp) h6 fun b4 c5 => ?_
  obtain ⟨hf90, h⟩ := gd h
  obtain ⟨q68, h112, h⟩ := bnd h
  refine go ?_; intros
  refine w_last (fun t o => ∃ b101 c102 b103 c104 b105 b107 c108 b109 c110 b111, Pin t (ovr [(2, .ptr 16 b105 210 0 0), (3, .ptr 24 b111 210 0 0)] t) ∧ PinH o (ovh [(1000256, ent b101 c102 115 (List.map (eCommit true) [])), (1000257, ent b103 c104 130 (List.map eHead [])), (16, ⟨b105, 1, 210, true, [[.al 1000256 b101 c102 0 ([] : List Commit).length 115, .al 1000257 b103 c104 0 ([] : List Head).length 130]]⟩), (1000384, ent b107 c108 115 (List.map (eCommit true) q68)), (1000385, ent b109 c110 130 (List.map eHead ([] ++ a0.heads))), (24, ⟨b111, 1, 210, true, [[.al 1000384 b107 c108 0 q68.length 115, .al 1000385 b109 c110 0 ([] ++ a0.heads).length 130]]⟩)] o)) ?_ ?_
  · refine w_loop2 (fun n t o => ∃ l84 k82 v76 b70 b71 c72 b73 c74 b75 b77 c78 b79 c80 b81, gl_spec_l7Copy_1 l84 k82 v76 = some q68 ∧ n = l84.length ∧ (a0.commits).drop k82 = l84 ∧ Pin t (ovr [(1, .ptr 8 b70 210 0 0), (2, .ptr 16 b75 210 0 0), (3, .ptr 24 b81 210 0 0), (4, .v (.int .i64 (k82 : Int)))] t) ∧ PinH o (ovh [(8, ⟨b70, 1, 210, true, [[.sl false 3 (List.map (eCommit false) a0.commits), .sl false 2 (List.map eHead a0.heads)]]⟩), (1000256, ent b71 c72 115 (List.map (eCommit true) [])), (1000257, ent b73 c74 130 (List.map eHead [])), (16, ⟨b75, 1, 210, true, [[.al 1000256 b71 c72 0 ([] : List Commit).length 115, .al 1000257 b73 c74 0 ([] : List Head).length 130]]⟩), (1000384, ent b77 c78 115 (List.map (eCommit true) v76)), (1000385, ent b79 c80 130 (List.map eHead ([] ++ a0.heads))), (24, ⟨b81, 1, 210, true, [[.al 1000384 b77 c78 0 v76.length 115, .al 1000385 b79 c80 0 ([] ++ a0.heads).length 130]]⟩)] o)) _ ⟨_, _, _, _, _, _, _, _, _, _, _, _, _, _, h112, rfl, rfl, pin, pinh⟩ ?_
    rintro n t o ⟨l84, k82, v76, b70, b71, c72, b73, c74, b75, b77, c78, b79, c80, b81, h112, rfl, hd85, q1, q2⟩
    refine pinned q1 q2 ?_
    cases l84 with
    | nil =>
      have hge87 := drop_ge hd85
      rw [gl_spec_l7Copy_1] at h112
      refine go ?_; intros
      rw [hge87]
      refine go ?_; intros
      cases h112
      exact k_cn ⟨_, _, _, _, _, _, _, _, _, _, pin, pinh⟩
    | cons x83 l84 =>
      have hlt86 := drop_lt hd85
      have hx88 := drop_ix hd85
      have hw89 := drop_wr hd85 hf90
      rw [gl_spec_l7Copy_1] at h112
      refine go ?_; intros
      rw [hlt86]
      refine go ?_; intros
      refine r_iro rfl rfl hx88 rfl ?_
      obtain ⟨x91, h92, h112⟩ := bnd h112
      refine go ?_; intros
      refine c_call (c := c_spec_l7One) (x83) H_spec_l7One h92 fun ch => ?_
      refine go ?_; intros
      simp only [take_map_len, take_ent]
      obtain ⟨h100, h112⟩ := gd h112
      refine go ?_; intros
      refine r_app (f := (eCommit true)) (xs := v76) (ys := ([x91] : (List Commit))) rfl (src_mv rfl rfl (by first | rfl | simp)) rfl rfl (by first | rfl | simp) h100 fun b98 c99 => ?_
      refine go ?_; intros
      rw [hw89]
      exact k_ln2 _ (Nat.lt_succ_self _) ⟨_, _, _, _, _, _, _, _, _, _, _, _, _, _, h112, rfl, drop_next hd85, pin, pinh⟩
  rintro t o ⟨b101, c102, b103, c104, b105, b107, c108, b109, c110, b111, q1, q2⟩
  refine pinnedQ q1 q2 ?_
  refine go ?_; intros
  cases h
  exact r_end
end Go.Proofs.AM
