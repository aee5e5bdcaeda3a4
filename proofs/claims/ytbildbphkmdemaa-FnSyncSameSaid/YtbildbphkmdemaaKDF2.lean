/- A part of the proofs of this seat's statements (KDF2): lemmas on an abstract machine for the program's functions. Conditions: none. -/
import Derived.Test.YtbildbphkmdemaaKDD
set_option linter.unusedVariables false
set_option linter.unusedSimpArgs false
set_option maxRecDepth 100000
set_option maxHeartbeats 4000000
namespace Go.Proofs.AM
attribute [local irreducible] vwp vstps vstpLs vstp vdo vret kseq kblk kloop kend kcut kloop2 frzV renV shutK pfzV trnV unrV
theorem d_spec_SheetOk {G : Gam} (H_spec_FeatOk : Has G c_spec_FeatOk) (a0 : (List Feat)) (r : Bool) (h : gf_spec_SheetOk a0 = some r) : Does G if_spec_SheetOk ks_spec_SheetOk (c_spec_SheetOk.args (a0)) [] (c_spec_SheetOk.ans (a0) r) := by
  refine does_pn (L := [(0, .ro (List.map (eFeat false) a0))]) (fun bs => pin) fun bs t o => ?_
  show vwp _ ib_spec_SheetOk _ _
  unfold ib_spec_SheetOk
  refine w_ir ?_
  unfold gf_spec_SheetOk at h
  obtain ⟨hf28, h⟩ := gd h
  obtain ⟨q18, h33, h⟩ := bnd h
  refine go ?_; intros
  refine w_last (fun t o => ∃ q18_, q18 = .inr q18_ ∧ Pin t (ovr [(0, .ro (List.map (eFeat false) a0))] t) ∧ PinH o (ovh [] o)) ?_ ?_
  · refine w_loop2 (fun n t o => ∃ l22 k20  , gl_spec_SheetOk_1 a0 l22 k20  = some q18 ∧ n = l22.length ∧ (a0).drop k20 = l22 ∧ Pin t (ovr [(0, .ro (List.map (eFeat false) a0)), (3, .v (.int .i64 (k20 : Int)))] t) ∧ PinH o (ovh [] o)) _ ⟨_, _, h33, rfl, rfl, pin, pinh⟩ ?_
    rintro n t o ⟨l22, k20, h33, rfl, hd23, pq1, pq2⟩
    refine pinned pq1 pq2 ?_
    cases l22 with
    | nil =>
      have hge25 := drop_ge hd23
      rw [gl_spec_SheetOk_1] at h33
      refine go ?_; intros
      rw [hge25]
      refine go ?_; intros
      cases h33
      exact k_cn ⟨_, rfl, pin, pinh⟩
    | cons x21 l22 =>
      have hlt24 := drop_lt hd23
      have hx26 := drop_ix hd23
      have hw27 := drop_wr hd23 hf28
      rw [gl_spec_SheetOk_1] at h33
      refine go ?_; intros
      rw [hlt24]
      refine go ?_; intros
      refine r_iro rfl rfl hx26 rfl ?_
      obtain ⟨x29, h30, h33⟩ := bnd h33
      refine go ?_; intros
      refine c_call (c := c_spec_FeatOk) (x21) H_spec_FeatOk h30 fun ch => ?_
      refine go ?_; intros
      refine s_split rfl (fun c => ?_) (fun c => ?_)
      · replace h33 := itt h33 c
        rw [c]
        refine go ?_; intros
        cases h33
        replace h : some _ = some _ := h
        cases h
        exact r_end
      replace h33 := itf h33 c
      rw [c]
      refine go ?_; intros
      refine s_split rfl (fun c => ?_) (fun c => ?_)
      · replace h33 := itt h33 c
        rw [c]
        refine go ?_; intros
        refine r_iro rfl rfl hx26 rfl ?_
        obtain ⟨x31, h32, h33⟩ := bnd h33
        refine go ?_; intros
        refine r_iro rfl rfl h32 rfl ?_
        refine go ?_; intros
        refine w_cond rfl (fun c => ?_) (fun c => ?_)
        · replace h33 := itt h33 c
          try rw [c]
          refine go ?_; intros
          cases h33
          replace h : some _ = some _ := h
          cases h
          exact r_end
        replace h33 := itf h33 c
        try rw [c]
        refine go ?_; intros
        rw [hw27]
        exact k_ln2 _ (Nat.lt_succ_self _) ⟨_, _, h33, rfl, drop_next hd23, pin, pinh⟩
      replace h33 := itf h33 c
      rw [c]
      refine go ?_; intros
      rw [hw27]
      exact k_ln2 _ (Nat.lt_succ_self _) ⟨_, _, h33, rfl, drop_next hd23, pin, pinh⟩
  rintro t o ⟨q18, rfl, pq1, pq2⟩
  refine pinnedQ pq1 pq2 ?_
  refine go ?_; intros
  cases h
  exact r_end
theorem d_spec_l7Find {G : Gam} (H_spec_l7Same : Has G c_spec_l7Same) (a0 : Repo) (a1 : Commit) (r : Int) (h : gf_spec_l7Find a0 a1 = some r) : Does G if_spec_l7Find ks_spec_l7Find (c_spec_l7Find.args (a0, a1)) [] (c_spec_l7Find.ans (a0, a1) r) := by
  refine does_pn (L := [(0, .agg [.ro (List.map (eCommit false) a0.commits), .ro (List.map eHead a0.heads)]), (1, .agg [.ro (List.map eInt a1.up), .ro (List.map (eFeat false) a1.sheet), .v (.string a1.note)])]) (fun bs => pin) fun bs t o => ?_
  show vwp _ ib_spec_l7Find _ _
  unfold ib_spec_l7Find
  refine w_ir ?_
  unfold gf_spec_l7Find at h
  obtain ⟨hf32, h⟩ := gd h
  obtain ⟨q20, h35, h⟩ := bnd h
  refine go ?_; intros
  refine w_last (fun t o => ∃ q20_, q20 = .inr q20_ ∧ Pin t (ovr [] t) ∧ PinH o (ovh [] o)) ?_ ?_
  · refine w_loop2 (fun n t o => ∃ l26 k24  b22 b23, gl_spec_l7Find_1 a1 l26 k24  = some q20 ∧ n = l26.length ∧ (a0.commits).drop k24 = l26 ∧ Pin t (ovr [(2, .ptr 16 b22 210 0 0), (3, .ptr 24 b23 115 0 0), (5, .v (.int .i64 (k24 : Int)))] t) ∧ PinH o (ovh [(16, ⟨b22, 1, 210, true, [[.sl false 3 (List.map (eCommit false) a0.commits), .sl false 2 (List.map eHead a0.heads)]]⟩), (24, ⟨b23, 1, 115, true, [[.sl false 1 (List.map eInt a1.up), .sl false 4 (List.map (eFeat false) a1.sheet), .v (.string a1.note)]]⟩)] o)) _ ⟨_, _, _, _, h35, rfl, rfl, pin, pinh⟩ ?_
    rintro n t o ⟨l26, k24, b22, b23, h35, rfl, hd27, pq1, pq2⟩
    refine pinned pq1 pq2 ?_
    cases l26 with
    | nil =>
      have hge29 := drop_ge hd27
      rw [gl_spec_l7Find_1] at h35
      refine go ?_; intros
      rw [hge29]
      refine go ?_; intros
      cases h35
      exact k_cn ⟨_, rfl, pin, pinh⟩
    | cons x25 l26 =>
      have hlt28 := drop_lt hd27
      have hx30 := drop_ix hd27
      have hw31 := drop_wr hd27 hf32
      rw [gl_spec_l7Find_1] at h35
      refine go ?_; intros
      rw [hlt28]
      refine go ?_; intros
      refine r_iro rfl rfl hx30 rfl ?_
      obtain ⟨x33, h34, h35⟩ := bnd h35
      refine go ?_; intros
      refine c_call (c := c_spec_l7Same) (x25, a1) H_spec_l7Same h34 fun ch => ?_
      refine go ?_; intros
      refine w_cond rfl (fun c => ?_) (fun c => ?_)
      · replace h35 := itt h35 c
        try rw [c]
        refine go ?_; intros
        cases h35
        replace h : some _ = some _ := h
        cases h
        exact r_end
      replace h35 := itf h35 c
      try rw [c]
      refine go ?_; intros
      rw [hw31]
      exact k_ln2 _ (Nat.lt_succ_self _) ⟨_, _, _, _, h35, rfl, drop_next hd27, pin, pinh⟩
  rintro t o ⟨q20, rfl, pq1, pq2⟩
  refine pinnedQ pq1 pq2 ?_
  refine go ?_; intros
  cases h
  exact r_end
theorem d_spec_l7Head {G : Gam}  (a0 : Repo) (a1 : Str) (r : Int) (h : gf_spec_l7Head a0 a1 = some r) : Does G if_spec_l7Head ks_spec_l7Head (c_spec_l7Head.args (a0, a1)) [] (c_spec_l7Head.ans (a0, a1) r) := by
  refine does_pn (L := [(0, .agg [.ro (List.map (eCommit false) a0.commits), .ro (List.map eHead a0.heads)]), (1, .v (.string a1))]) (fun bs => pin) fun bs t o => ?_
  show vwp _ ib_spec_l7Head _ _
  unfold ib_spec_l7Head
  refine w_ir ?_
  unfold gf_spec_l7Head at h
  obtain ⟨hf22, h⟩ := gd h
  obtain ⟨q11, h23, h⟩ := bnd h
  refine go ?_; intros
  refine w_last (fun t o => ∃ q11_, q11 = .inr q11_ ∧ Pin t (ovr [] t) ∧ PinH o (ovh [] o)) ?_ ?_
  · refine w_loop2 (fun n t o => ∃ l16 k14  b13, gl_spec_l7Head_1 a1 l16 k14  = some q11 ∧ n = l16.length ∧ (a0.heads).drop k14 = l16 ∧ Pin t (ovr [(1, .v (.string a1)), (2, .ptr 16 b13 210 0 0), (5, .v (.int .i64 (k14 : Int)))] t) ∧ PinH o (ovh [(16, ⟨b13, 1, 210, true, [[.sl false 3 (List.map (eCommit false) a0.commits), .sl false 2 (List.map eHead a0.heads)]]⟩)] o)) _ ⟨_, _, _, h23, rfl, rfl, pin, pinh⟩ ?_
    rintro n t o ⟨l16, k14, b13, h23, rfl, hd17, pq1, pq2⟩
    refine pinned pq1 pq2 ?_
    cases l16 with
    | nil =>
      have hge19 := drop_ge hd17
      rw [gl_spec_l7Head_1] at h23
      refine go ?_; intros
      rw [hge19]
      refine go ?_; intros
      cases h23
      exact k_cn ⟨_, rfl, pin, pinh⟩
    | cons x15 l16 =>
      have hlt18 := drop_lt hd17
      have hx20 := drop_ix hd17
      have hw21 := drop_wr hd17 hf22
      rw [gl_spec_l7Head_1] at h23
      refine go ?_; intros
      rw [hlt18]
      refine go ?_; intros
      refine r_iro rfl rfl hx20 rfl ?_
      refine go ?_; intros
      refine w_cond rfl (fun c => ?_) (fun c => ?_)
      · replace h23 := itt h23 c
        try rw [c]
        refine go ?_; intros
        cases h23
        replace h : some _ = some _ := h
        cases h
        exact r_end
      replace h23 := itf h23 c
      try rw [c]
      refine go ?_; intros
      rw [hw21]
      exact k_ln2 _ (Nat.lt_succ_self _) ⟨_, _, _, h23, rfl, drop_next hd17, pin, pinh⟩
  rintro t o ⟨q11, rfl, pq1, pq2⟩
  refine pinnedQ pq1 pq2 ?_
  refine go ?_; intros
  cases h
  exact r_end
theorem d_spec_l1Copy {G : Gam}  (a0 : Shape) (r : Shape) (h : gf_spec_l1Copy a0 = some r) : Does G if_spec_l1Copy ks_spec_l1Copy (c_spec_l1Copy.args (a0)) [] (c_spec_l1Copy.ans (a0) r) := by
  refine does_pn (L := [(0, .agg [.v (.int .i64 a0.kind), .ro (List.map ePt a0.pts)])]) (fun bs => pin) fun bs t o => ?_
  show vwp _ ib_spec_l1Copy _ _
  unfold ib_spec_l1Copy
  refine w_ir ?_
  unfold gf_spec_l1Copy at h
  obtain ⟨h6, h⟩ := gd h
  refine go ?_; intros
  refine r_app (f := ePt) (xs := ([] : (List Pt))) (ys := a0.pts) rfl (src_ro (fun _ => rfl) (fun _ => rfl)) rfl rfl (by first | rfl | simp) h6 fun b4 c5 => ?_
  refine go ?_; intros
  cases h
  exact r_end
theorem d_spec_l2Copy {G : Gam} (H_spec_l1Copy : Has G c_spec_l1Copy) (a0 : Feat) (r : Feat) (h : gf_spec_l2Copy a0 = some r) : Does G if_spec_l2Copy ks_spec_l2Copy (c_spec_l2Copy.args (a0)) [] (c_spec_l2Copy.ans (a0) r) := by
  refine does_pn (L := [(0, .agg [.v (.string a0.id), .v (.int .i64 a0.shape.kind), .ro (List.map ePt a0.shape.pts), .ro (List.map eTag a0.tags)])]) (fun bs => pin) fun bs t o => ?_
  show vwp _ ib_spec_l2Copy _ _
  unfold ib_spec_l2Copy
  refine w_ir ?_
  unfold gf_spec_l2Copy at h
  obtain ⟨x3, h4, h⟩ := bnd h
  refine go ?_; intros
  refine c_call (c := c_spec_l1Copy) (a0.shape) H_spec_l1Copy h4 fun ch => ?_
  obtain ⟨h10, h⟩ := gd h
  refine go ?_; intros
  refine r_app (f := eTag) (xs := ([] : (List Tag))) (ys := a0.tags) rfl (src_ro (fun _ => rfl) (fun _ => rfl)) rfl rfl (by first | rfl | simp) h10 fun b8 c9 => ?_
  refine go ?_; intros
  cases h
  exact r_end
theorem d_spec_l3Copy {G : Gam} (H_spec_l2Copy : Has G c_spec_l2Copy) (a0 : (List Feat)) (r : (List Feat)) (h : gf_spec_l3Copy a0 = some r) : Does G if_spec_l3Copy ks_spec_l3Copy (c_spec_l3Copy.args (a0)) [] (c_spec_l3Copy.ans (a0) r) := by
  refine does_pn (L := [(0, .ro (List.map (eFeat false) a0))]) (fun bs => pin) fun bs t o => ?_
  show vwp _ ib_spec_l3Copy _ _
  unfold ib_spec_l3Copy
  refine w_ir ?_
  unfold gf_spec_l3Copy at h
  obtain ⟨hf57, h⟩ := gd h
  obtain ⟨q44, h71, h⟩ := bnd h
  refine go ?_; intros
  refine w_last (fun t o => ∃ b69 c70, Pin t (ovr [(3, .ref 40 b69 c70 0 q44.length 100)] t) ∧ PinH o (ovh [(40, ent b69 c70 100 (List.map (eFeat true) q44))] o)) ?_ ?_
  · refine w_loop2 (fun n t o => ∃ l51 k49 v46 b47 c48, gl_spec_l3Copy_1 l51 k49 v46 = some q44 ∧ n = l51.length ∧ (a0).drop k49 = l51 ∧ Pin t (ovr [(0, .ro (List.map (eFeat false) a0)), (3, .ref 40 b47 c48 0 v46.length 100), (4, .v (.int .i64 (k49 : Int)))] t) ∧ PinH o (ovh [(40, ent b47 c48 100 (List.map (eFeat true) v46))] o)) _ ⟨_, _, _, _, _, h71, rfl, rfl, pin, pinh⟩ ?_
    rintro n t o ⟨l51, k49, v46, b47, c48, h71, rfl, hd52, pq1, pq2⟩
    refine pinned pq1 pq2 ?_
    cases l51 with
    | nil =>
      have hge54 := drop_ge hd52
      rw [gl_spec_l3Copy_1] at h71
      refine go ?_; intros
      rw [hge54]
      refine go ?_; intros
      cases h71
      exact k_cn ⟨_, _, pin, pinh⟩
    | cons x50 l51 =>
      have hlt53 := drop_lt hd52
      have hx55 := drop_ix hd52
      have hw56 := drop_wr hd52 hf57
      rw [gl_spec_l3Copy_1] at h71
      refine go ?_; intros
      rw [hlt53]
      refine go ?_; intros
      refine r_iro rfl rfl hx55 rfl ?_
      obtain ⟨x58, h59, h71⟩ := bnd h71
      refine go ?_; intros
      refine c_call (c := c_spec_l2Copy) (x50) H_spec_l2Copy h59 fun ch => ?_
      refine go ?_; intros
      try simp only [take_map_len, take_ent]
      obtain ⟨h67, h71⟩ := gd h71
      refine go ?_; intros
      refine r_app (f := (eFeat true)) (xs := v46) (ys := ([x58] : (List Feat))) rfl (src_mv rfl rfl (by first | rfl | simp)) rfl rfl (by first | rfl | simp) h67 fun b65 c66 => ?_
      refine go ?_; intros
      rw [hw56]
      exact k_ln2 _ (Nat.lt_succ_self _) ⟨_, _, _, _, _, h71, rfl, drop_next hd52, pin, pinh⟩
  rintro t o ⟨b69, c70, pq1, pq2⟩
  refine pinnedQ pq1 pq2 ?_
  refine go ?_; intros
  cases h
  exact r_end
theorem d_spec_l7One {G : Gam} (H_spec_l3Copy : Has G c_spec_l3Copy) (a0 : Commit) (r : Commit) (h : gf_spec_l7One a0 = some r) : Does G if_spec_l7One ks_spec_l7One (c_spec_l7One.args (a0)) [] (c_spec_l7One.ans (a0) r) := by
  refine does_pn (L := [(0, .agg [.ro (List.map eInt a0.up), .ro (List.map (eFeat false) a0.sheet), .v (.string a0.note)])]) (fun bs => pin) fun bs t o => ?_
  show vwp _ ib_spec_l7One _ _
  unfold ib_spec_l7One
  refine w_ir ?_
  unfold gf_spec_l7One at h
  obtain ⟨h6, h⟩ := gd h
  refine go ?_; intros
  refine r_app (f := eInt) (xs := ([] : (List Int))) (ys := a0.up) rfl (src_ro (fun _ => rfl) (fun _ => rfl)) rfl rfl (by first | rfl | simp) h6 fun b4 c5 => ?_
  obtain ⟨x7, h8, h⟩ := bnd h
  refine go ?_; intros
  refine c_call (c := c_spec_l3Copy) (a0.sheet) H_spec_l3Copy h8 fun ch => ?_
  refine go ?_; intros
  cases h
  exact r_end
theorem d_spec_RepoOk {G : Gam} (H_spec_l7Up : Has G c_spec_l7Up) (H_spec_SheetOk : Has G c_spec_SheetOk) (H_spec_WordOk : Has G c_spec_WordOk) (H_spec_l7Find : Has G c_spec_l7Find) (H_spec_l7Head : Has G c_spec_l7Head) (a0 : Repo) (r : Bool) (h : gf_spec_RepoOk a0 = some r) : Does G if_spec_RepoOk ks_spec_RepoOk (c_spec_RepoOk.args (a0)) [] (c_spec_RepoOk.ans (a0) r) := by
  refine does_pn (L := [(0, .agg [.ro (List.map (eCommit false) a0.commits), .ro (List.map eHead a0.heads)])]) (fun bs => pin) fun bs t o => ?_
  show vwp _ ib_spec_RepoOk _ _
  unfold ib_spec_RepoOk
  refine w_ir ?_
  unfold gf_spec_RepoOk at h
  refine go ?_; intros
  refine s_split rfl (fun c => ?_) (fun c => ?_)
  · replace h := itt h (by first | exact c | (have c2 := c; simp only [List.length_map] at c2; exact c2))
    rw [c]
    refine go ?_; intros
    cases h
    exact r_end
  replace h := itf h (by first | exact c | (have c2 := c; simp only [List.length_map] at c2; exact c2))
  rw [c]
  refine go ?_; intros
  refine s_split rfl (fun c => ?_) (fun c => ?_)
  · replace h := itt h (by first | exact c | (have c2 := c; simp only [List.length_map] at c2; exact c2))
    rw [c]
    refine go ?_; intros
    cases h
    exact r_end
  replace h := itf h (by first | exact c | (have c2 := c; simp only [List.length_map] at c2; exact c2))
  rw [c]
  refine go ?_; intros
  refine s_split rfl (fun c => ?_) (fun c => ?_)
  · replace h := itt h (by first | exact c | (have c2 := c; simp only [List.length_map] at c2; exact c2))
    rw [c]
    refine go ?_; intros
    cases h
    exact r_end
  replace h := itf h (by first | exact c | (have c2 := c; simp only [List.length_map] at c2; exact c2))
  rw [c]
  refine go ?_; intros
  refine w_cond rfl (fun c => ?_) (fun c => ?_)
  · replace h := itt h (by first | exact c | (have c2 := c; simp only [List.length_map] at c2; exact c2))
    try rw [c]
    refine go ?_; intros
    cases h
    exact r_end
  replace h := itf h (by first | exact c | (have c2 := c; simp only [List.length_map] at c2; exact c2))
  try rw [c]
  obtain ⟨hf49, h⟩ := gd h
  obtain ⟨q38, h101, h⟩ := bnd h
  refine go ?_; intros
  refine w_last (fun t o => ∃ q38_, q38 = .inr q38_ ∧ ∃ b59, Pin t (ovr [(1, .ptr 8 b59 210 0 0)] t) ∧ PinH o (ovh [(8, ⟨b59, 1, 210, true, [[.sl false 3 (List.map (eCommit false) a0.commits), .sl false 2 (List.map eHead a0.heads)]]⟩)] o)) ?_ ?_
  · refine w_loop2 (fun n t o => ∃ l43 k41  b40, gl_spec_RepoOk_1 a0 l43 k41  = some q38 ∧ n = l43.length ∧ (a0.commits).drop k41 = l43 ∧ Pin t (ovr [(1, .ptr 8 b40 210 0 0), (3, .v (.int .i64 (k41 : Int)))] t) ∧ PinH o (ovh [(8, ⟨b40, 1, 210, true, [[.sl false 3 (List.map (eCommit false) a0.commits), .sl false 2 (List.map eHead a0.heads)]]⟩)] o)) _ ⟨_, _, _, h101, rfl, rfl, pin, pinh⟩ ?_
    rintro n t o ⟨l43, k41, b40, h101, rfl, hd44, pq1, pq2⟩
    refine pinned pq1 pq2 ?_
    cases l43 with
    | nil =>
      have hge46 := drop_ge hd44
      rw [gl_spec_RepoOk_1] at h101
      refine go ?_; intros
      rw [hge46]
      refine go ?_; intros
      cases h101
      exact k_cn ⟨_, rfl, _, pin, pinh⟩
    | cons x42 l43 =>
      have hlt45 := drop_lt hd44
      have hx47 := drop_ix hd44
      have hw48 := drop_wr hd44 hf49
      rw [gl_spec_RepoOk_1] at h101
      refine go ?_; intros
      rw [hlt45]
      refine go ?_; intros
      refine r_iro rfl rfl hx47 rfl ?_
      obtain ⟨x51, h52, h101⟩ := bnd h101
      refine go ?_; intros
      refine c_call (c := c_spec_l7Up) (x42.up, (k41 : Int)) H_spec_l7Up h52 fun ch => ?_
      refine go ?_; intros
      refine s_split rfl (fun c => ?_) (fun c => ?_)
      · replace h101 := itt h101 c
        rw [c]
        refine go ?_; intros
        cases h101
        replace h : some _ = some _ := h
        cases h
        exact r_end
      replace h101 := itf h101 c
      rw [c]
      obtain ⟨x53, h54, h101⟩ := bnd h101
      refine go ?_; intros
      refine c_call (c := c_spec_SheetOk) (x42.sheet) H_spec_SheetOk h54 fun ch => ?_
      refine go ?_; intros
      refine s_split rfl (fun c => ?_) (fun c => ?_)
      · replace h101 := itt h101 c
        rw [c]
        refine go ?_; intros
        cases h101
        replace h : some _ = some _ := h
        cases h
        exact r_end
      replace h101 := itf h101 c
      rw [c]
      obtain ⟨x55, h56, h101⟩ := bnd h101
      refine go ?_; intros
      refine c_call (c := c_spec_WordOk) (x42.note) H_spec_WordOk h56 fun ch => ?_
      refine go ?_; intros
      refine s_split rfl (fun c => ?_) (fun c => ?_)
      · replace h101 := itt h101 c
        rw [c]
        refine go ?_; intros
        cases h101
        replace h : some _ = some _ := h
        cases h
        exact r_end
      replace h101 := itf h101 c
      rw [c]
      obtain ⟨x57, h58, h101⟩ := bnd h101
      refine go ?_; intros
      refine c_call (c := c_spec_l7Find) (a0, x42) H_spec_l7Find h58 fun ch => ?_
      refine go ?_; intros
      refine w_cond rfl (fun c => ?_) (fun c => ?_)
      · replace h101 := itt h101 c
        try rw [c]
        refine go ?_; intros
        cases h101
        replace h : some _ = some _ := h
        cases h
        exact r_end
      replace h101 := itf h101 c
      try rw [c]
      refine go ?_; intros
      rw [hw48]
      exact k_ln2 _ (Nat.lt_succ_self _) ⟨_, _, _, h101, rfl, drop_next hd44, pin, pinh⟩
  rintro t o ⟨q38, rfl, b59, pq1, pq2⟩
  refine pinnedQ pq1 pq2 ?_
  obtain ⟨hf95, h⟩ := gd h
  obtain ⟨q84, h102, h⟩ := bnd h
  refine go ?_; intros
  refine w_last (fun t o => ∃ q84_, q84 = .inr q84_ ∧ Pin t (ovr [] t) ∧ PinH o (ovh [] o)) ?_ ?_
  · refine w_loop2 (fun n t o => ∃ l89 k87  b86, gl_spec_RepoOk_2 a0 l89 k87  = some q84 ∧ n = l89.length ∧ (a0.heads).drop k87 = l89 ∧ Pin t (ovr [(1, .ptr 8 b86 210 0 0), (5, .v (.int .i64 (k87 : Int)))] t) ∧ PinH o (ovh [(8, ⟨b86, 1, 210, true, [[.sl false 3 (List.map (eCommit false) a0.commits), .sl false 2 (List.map eHead a0.heads)]]⟩)] o)) _ ⟨_, _, _, h102, rfl, rfl, pin, pinh⟩ ?_
    rintro n t o ⟨l89, k87, b86, h102, rfl, hd90, pq1, pq2⟩
    refine pinned pq1 pq2 ?_
    cases l89 with
    | nil =>
      have hge92 := drop_ge hd90
      rw [gl_spec_RepoOk_2] at h102
      refine go ?_; intros
      rw [hge92]
      refine go ?_; intros
      cases h102
      exact k_cn ⟨_, rfl, pin, pinh⟩
    | cons x88 l89 =>
      have hlt91 := drop_lt hd90
      have hx93 := drop_ix hd90
      have hw94 := drop_wr hd90 hf95
      rw [gl_spec_RepoOk_2] at h102
      refine go ?_; intros
      rw [hlt91]
      refine go ?_; intros
      refine r_iro rfl rfl hx93 rfl ?_
      obtain ⟨x97, h98, h102⟩ := bnd h102
      refine go ?_; intros
      refine c_call (c := c_spec_WordOk) (x88.name) H_spec_WordOk h98 fun ch => ?_
      refine go ?_; intros
      refine s_split rfl (fun c => ?_) (fun c => ?_)
      · replace h102 := itt h102 c
        rw [c]
        refine go ?_; intros
        cases h102
        replace h : some _ = some _ := h
        cases h
        exact r_end
      replace h102 := itf h102 c
      rw [c]
      obtain ⟨x99, h100, h102⟩ := bnd h102
      refine go ?_; intros
      refine c_call (c := c_spec_l7Head) (a0, x88.name) H_spec_l7Head h100 fun ch => ?_
      refine go ?_; intros
      refine s_split rfl (fun c => ?_) (fun c => ?_)
      · replace h102 := itt h102 c
        rw [c]
        refine go ?_; intros
        cases h102
        replace h : some _ = some _ := h
        cases h
        exact r_end
      replace h102 := itf h102 c
      rw [c]
      refine go ?_; intros
      refine s_split rfl (fun c => ?_) (fun c => ?_)
      · replace h102 := itt h102 c
        rw [c]
        refine go ?_; intros
        cases h102
        replace h : some _ = some _ := h
        cases h
        exact r_end
      replace h102 := itf h102 c
      rw [c]
      refine go ?_; intros
      refine w_cond rfl (fun c => ?_) (fun c => ?_)
      · replace h102 := itt h102 (by first | exact c | (have c2 := c; simp only [List.length_map] at c2; exact c2))
        try rw [c]
        refine go ?_; intros
        cases h102
        replace h : some _ = some _ := h
        cases h
        exact r_end
      replace h102 := itf h102 (by first | exact c | (have c2 := c; simp only [List.length_map] at c2; exact c2))
      try rw [c]
      refine go ?_; intros
      rw [hw94]
      exact k_ln2 _ (Nat.lt_succ_self _) ⟨_, _, _, h102, rfl, drop_next hd90, pin, pinh⟩
  rintro t o ⟨q84, rfl, pq1, pq2⟩
  refine pinnedQ pq1 pq2 ?_
  refine go ?_; intros
  cases h
  exact r_end
theorem d_spec_l7In {G : Gam} (H_spec_RepoOk : Has G c_spec_RepoOk) (a0 : Repo) (a1 : Int) (r : Bool) (h : gf_spec_l7In a0 a1 = some r) : Does G if_spec_l7In ks_spec_l7In (c_spec_l7In.args (a0, a1)) [] (c_spec_l7In.ans (a0, a1) r) := by
  refine does_pn (L := [(0, .agg [.ro (List.map (eCommit false) a0.commits), .ro (List.map eHead a0.heads)]), (1, .v (.int .i64 a1))]) (fun bs => pin) fun bs t o => ?_
  show vwp _ ib_spec_l7In _ _
  unfold ib_spec_l7In
  refine w_ir ?_
  unfold gf_spec_l7In at h
  obtain ⟨x2, h3, h⟩ := bnd h
  refine go ?_; intros
  refine c_call (c := c_spec_RepoOk) (a0) H_spec_RepoOk h3 fun ch => ?_
  refine go ?_; intros
  refine s_split rfl (fun c => ?_) (fun c => ?_)
  · replace h := itt h c
    rw [c]
    refine go ?_; intros
    refine s_split rfl (fun c => ?_) (fun c => ?_)
    · replace h := itt h c
      rw [c]
      refine go ?_; intros
      cases h
      exact r_end
    replace h := itf h c
    rw [c]
    refine go ?_; intros
    cases h
    exact r_end
  replace h := itf h c
  rw [c]
  refine go ?_; intros
  cases h
  exact r_end
theorem d_spec_l3Put {G : Gam}  (a0 : (List Feat)) (a1 : Feat) (r : (List Feat)) (h : gf_spec_l3Put a0 a1 = some r) : Does G if_spec_l3Put ks_spec_l3Put (c_spec_l3Put.args (a0, a1)) [] (c_spec_l3Put.ans (a0, a1) r) := by
  refine does_pn (L := [(0, .ro (List.map (eFeat false) a0)), (1, .agg [.v (.string a1.id), .v (.int .i64 a1.shape.kind), .ro (List.map ePt a1.shape.pts), .ro (List.map eTag a1.tags)])]) (fun bs => pin) fun bs t o => ?_
  show vwp _ ib_spec_l3Put _ _
  unfold ib_spec_l3Put
  refine w_ir ?_
  unfold gf_spec_l3Put at h
  obtain ⟨hf103, h⟩ := gd h
  obtain ⟨q88, h131, h⟩ := bnd h
  refine go ?_; intros
  refine w_last (fun t o => ∃ b123 b125 c126, Pin t (ovr [(3, .ptr 24 b123 100 0 0), (5, .ref 64 b125 c126 0 q88.2.length 100), (6, .v (.bool q88.1))] t) ∧ PinH o (ovh [(24, ⟨b123, 1, 100, true, [[.v (.string a1.id), .v (.int .i64 a1.shape.kind), .sl false 2 (List.map ePt a1.shape.pts), .sl false 2 (List.map eTag a1.tags)]]⟩), (64, ent b125 c126 100 (List.map (eFeat false) q88.2))] o)) ?_ ?_
  · refine w_loop2 (fun n t o => ∃ l97 k95 v89 v92 b91 b93 c94, gl_spec_l3Put_1 a1 l97 k95 v89 v92 = some q88 ∧ n = l97.length ∧ (a0).drop k95 = l97 ∧ Pin t (ovr [(0, .ro (List.map (eFeat false) a0)), (3, .ptr 24 b91 100 0 0), (5, .ref 64 b93 c94 0 v92.length 100), (6, .v (.bool v89)), (7, .v (.int .i64 (k95 : Int)))] t) ∧ PinH o (ovh [(24, ⟨b91, 1, 100, true, [[.v (.string a1.id), .v (.int .i64 a1.shape.kind), .sl false 2 (List.map ePt a1.shape.pts), .sl false 2 (List.map eTag a1.tags)]]⟩), (64, ent b93 c94 100 (List.map (eFeat false) v92))] o)) _ ⟨_, _, _, _, _, _, _, h131, rfl, rfl, pin, pinh⟩ ?_
    rintro n t o ⟨l97, k95, v89, v92, b91, b93, c94, h131, rfl, hd98, pq1, pq2⟩
    refine pinned pq1 pq2 ?_
    cases l97 with
    | nil =>
      have hge100 := drop_ge hd98
      rw [gl_spec_l3Put_1] at h131
      refine go ?_; intros
      rw [hge100]
      refine go ?_; intros
      cases h131
      exact k_cn ⟨_, _, _, pin, pinh⟩
    | cons x96 l97 =>
      have hlt99 := drop_lt hd98
      have hx101 := drop_ix hd98
      have hw102 := drop_wr hd98 hf103
      rw [gl_spec_l3Put_1] at h131
      refine go ?_; intros
      rw [hlt99]
      obtain ⟨q108, h132, h131⟩ := bnd h131
      refine go ?_; intros
      refine w_cut (fun t o => ∃ b114 b116 c117, Pin t (ovr [(0, .ro (List.map (eFeat false) a0)), (3, .ptr 24 b114 100 0 0), (5, .ref 64 b116 c117 0 q108.2.length 100), (6, .v (.bool q108.1)), (7, .v (.int .i64 (k95 : Int)))] t) ∧ PinH o (ovh [(24, ⟨b114, 1, 100, true, [[.v (.string a1.id), .v (.int .i64 a1.shape.kind), .sl false 2 (List.map ePt a1.shape.pts), .sl false 2 (List.map eTag a1.tags)]]⟩), (64, ent b116 c117 100 (List.map (eFeat false) q108.2))] o)) ?_ ?_
      · refine go ?_; intros
        refine s_split rfl (fun c => ?_) (fun c => ?_)
        · replace h132 := itt h132 c
          rw [c]
          refine go ?_; intros
          refine r_iro rfl rfl hx101 rfl ?_
          refine go ?_; intros
          refine w_cond rfl (fun c => ?_) (fun c => ?_)
          · replace h132 := itt h132 c
            try rw [c]
            obtain ⟨h112, h132⟩ := gd h132
            refine go ?_; intros
            refine r_app (f := (eFeat false)) (xs := v92) (ys := ([a1] : (List Feat))) rfl (src_mv rfl rfl (by first | rfl | simp)) rfl rfl (by first | rfl | simp) h112 fun b110 c111 => ?_
            refine go ?_; intros
            cases h132
            exact k_cn ⟨_, _, _, pin, pinh⟩
          replace h132 := itf h132 c
          try rw [c]
          refine go ?_; intros
          cases h132
          exact k_cn ⟨_, _, _, pin, pinh⟩
        replace h132 := itf h132 c
        rw [c]
        refine go ?_; intros
        cases h132
        exact k_cn ⟨_, _, _, pin, pinh⟩
      rintro t o ⟨b114, b116, c117, pq1, pq2⟩
      refine pinned pq1 pq2 ?_
      refine go ?_; intros
      refine r_iro rfl rfl hx101 rfl ?_
      refine go ?_; intros
      refine w_cond rfl (fun c => ?_) (fun c => ?_)
      · replace h131 := itt h131 c
        try rw [c]
        refine go ?_; intros
        refine r_iro rfl rfl hx101 rfl ?_
        obtain ⟨h121, h131⟩ := gd h131
        refine go ?_; intros
        refine r_app (f := (eFeat false)) (xs := q108.2) (ys := ([x96] : (List Feat))) rfl (src_mv rfl rfl (by first | rfl | simp)) rfl rfl (by first | rfl | simp) h121 fun b119 c120 => ?_
        refine go ?_; intros
        rw [hw102]
        exact k_ln2 _ (Nat.lt_succ_self _) ⟨_, _, _, _, _, _, _, h131, rfl, drop_next hd98, pin, pinh⟩
      replace h131 := itf h131 c
      try rw [c]
      refine go ?_; intros
      rw [hw102]
      exact k_ln2 _ (Nat.lt_succ_self _) ⟨_, _, _, _, _, _, _, h131, rfl, drop_next hd98, pin, pinh⟩
  rintro t o ⟨b123, b125, c126, pq1, pq2⟩
  refine pinnedQ pq1 pq2 ?_
  refine go ?_; intros
  refine w_cond rfl (fun c => ?_) (fun c => ?_)
  · replace h := itt h c
    try rw [c]
    obtain ⟨h130, h⟩ := gd h
    refine go ?_; intros
    refine r_app (f := (eFeat false)) (xs := q88.2) (ys := ([a1] : (List Feat))) rfl (src_mv rfl rfl (by first | rfl | simp)) rfl rfl (by first | rfl | simp) h130 fun b128 c129 => ?_
    refine go ?_; intros
    cases h
    exact r_end
  replace h := itf h c
  try rw [c]
  refine go ?_; intros
  cases h
  exact r_end
theorem d_spec_l3Find {G : Gam}  (a0 : (List Feat)) (a1 : Str) (r : Int) (h : gf_spec_l3Find a0 a1 = some r) : Does G if_spec_l3Find ks_spec_l3Find (c_spec_l3Find.args (a0, a1)) [] (c_spec_l3Find.ans (a0, a1) r) := by
  refine does_pn (L := [(0, .ro (List.map (eFeat false) a0)), (1, .v (.string a1))]) (fun bs => pin) fun bs t o => ?_
  show vwp _ ib_spec_l3Find _ _
  unfold ib_spec_l3Find
  refine w_ir ?_
  unfold gf_spec_l3Find at h
  obtain ⟨hf18, h⟩ := gd h
  obtain ⟨q8, h19, h⟩ := bnd h
  refine go ?_; intros
  refine w_last (fun t o => ∃ q8_, q8 = .inr q8_ ∧ Pin t (ovr [] t) ∧ PinH o (ovh [] o)) ?_ ?_
  · refine w_loop2 (fun n t o => ∃ l12 k10  , gl_spec_l3Find_1 a1 l12 k10  = some q8 ∧ n = l12.length ∧ (a0).drop k10 = l12 ∧ Pin t (ovr [(0, .ro (List.map (eFeat false) a0)), (1, .v (.string a1)), (5, .v (.int .i64 (k10 : Int)))] t) ∧ PinH o (ovh [] o)) _ ⟨_, _, h19, rfl, rfl, pin, pinh⟩ ?_
    rintro n t o ⟨l12, k10, h19, rfl, hd13, pq1, pq2⟩
    refine pinned pq1 pq2 ?_
    cases l12 with
    | nil =>
      have hge15 := drop_ge hd13
      rw [gl_spec_l3Find_1] at h19
      refine go ?_; intros
      rw [hge15]
      refine go ?_; intros
      cases h19
      exact k_cn ⟨_, rfl, pin, pinh⟩
    | cons x11 l12 =>
      have hlt14 := drop_lt hd13
      have hx16 := drop_ix hd13
      have hw17 := drop_wr hd13 hf18
      rw [gl_spec_l3Find_1] at h19
      refine go ?_; intros
      rw [hlt14]
      refine go ?_; intros
      refine r_iro rfl rfl hx16 rfl ?_
      refine go ?_; intros
      refine w_cond rfl (fun c => ?_) (fun c => ?_)
      · replace h19 := itt h19 c
        try rw [c]
        refine go ?_; intros
        cases h19
        replace h : some _ = some _ := h
        cases h
        exact r_end
      replace h19 := itf h19 c
      try rw [c]
      refine go ?_; intros
      rw [hw17]
      exact k_ln2 _ (Nat.lt_succ_self _) ⟨_, _, h19, rfl, drop_next hd13, pin, pinh⟩
  rintro t o ⟨q8, rfl, pq1, pq2⟩
  refine pinnedQ pq1 pq2 ?_
  refine go ?_; intros
  cases h
  exact r_end
theorem d_spec_l2Put {G : Gam}  (a0 : (List Tag)) (a1 : Str) (a2 : Str) (r : (List Tag)) (h : gf_spec_l2Put a0 a1 a2 = some r) : Does G if_spec_l2Put ks_spec_l2Put (c_spec_l2Put.args (a0, a1, a2)) [] (c_spec_l2Put.ans (a0, a1, a2) r) := by
  refine does_pn (L := [(0, .ro (List.map eTag a0)), (1, .v (.string a1)), (2, .v (.string a2))]) (fun bs => pin) fun bs t o => ?_
  show vwp _ ib_spec_l2Put _ _
  unfold ib_spec_l2Put
  refine w_ir ?_
  unfold gf_spec_l2Put at h
  obtain ⟨hf94, h⟩ := gd h
  obtain ⟨q80, h120, h⟩ := bnd h
  refine go ?_; intros
  refine w_last (fun t o => ∃ b114 c115, Pin t (ovr [(1, .v (.string a1)), (2, .v (.string a2)), (7, .ref 80 b114 c115 0 q80.2.length 82), (8, .v (.bool q80.1))] t) ∧ PinH o (ovh [(80, ent b114 c115 82 (List.map eTag q80.2))] o)) ?_ ?_
  · refine w_loop2 (fun n t o => ∃ l88 k86 v81 v83 b84 c85, gl_spec_l2Put_1 a1 a2 l88 k86 v81 v83 = some q80 ∧ n = l88.length ∧ (a0).drop k86 = l88 ∧ Pin t (ovr [(0, .ro (List.map eTag a0)), (1, .v (.string a1)), (2, .v (.string a2)), (7, .ref 80 b84 c85 0 v83.length 82), (8, .v (.bool v81)), (9, .v (.int .i64 (k86 : Int)))] t) ∧ PinH o (ovh [(80, ent b84 c85 82 (List.map eTag v83))] o)) _ ⟨_, _, _, _, _, _, h120, rfl, rfl, pin, pinh⟩ ?_
    rintro n t o ⟨l88, k86, v81, v83, b84, c85, h120, rfl, hd89, pq1, pq2⟩
    refine pinned pq1 pq2 ?_
    cases l88 with
    | nil =>
      have hge91 := drop_ge hd89
      rw [gl_spec_l2Put_1] at h120
      refine go ?_; intros
      rw [hge91]
      refine go ?_; intros
      cases h120
      exact k_cn ⟨_, _, pin, pinh⟩
    | cons x87 l88 =>
      have hlt90 := drop_lt hd89
      have hx92 := drop_ix hd89
      have hw93 := drop_wr hd89 hf94
      rw [gl_spec_l2Put_1] at h120
      refine go ?_; intros
      rw [hlt90]
      obtain ⟨q99, h121, h120⟩ := bnd h120
      refine go ?_; intros
      refine w_cut (fun t o => ∃ b106 c107, Pin t (ovr [(0, .ro (List.map eTag a0)), (1, .v (.string a1)), (2, .v (.string a2)), (7, .ref 80 b106 c107 0 q99.2.length 82), (8, .v (.bool q99.1)), (9, .v (.int .i64 (k86 : Int)))] t) ∧ PinH o (ovh [(80, ent b106 c107 82 (List.map eTag q99.2))] o)) ?_ ?_
      · refine go ?_; intros
        refine s_split rfl (fun c => ?_) (fun c => ?_)
        · replace h121 := itt h121 c
          rw [c]
          refine go ?_; intros
          refine r_iro rfl rfl hx92 rfl ?_
          refine go ?_; intros
          refine w_cond rfl (fun c => ?_) (fun c => ?_)
          · replace h121 := itt h121 c
            try rw [c]
            obtain ⟨h103, h121⟩ := gd h121
            refine go ?_; intros
            refine r_app (f := eTag) (xs := v83) (ys := ([(⟨a1, a2⟩ : Tag)] : (List Tag))) rfl (src_mv rfl rfl (by first | rfl | simp)) rfl rfl (by first | rfl | simp) h103 fun b101 c102 => ?_
            refine go ?_; intros
            cases h121
            exact k_cn ⟨_, _, pin, pinh⟩
          replace h121 := itf h121 c
          try rw [c]
          refine go ?_; intros
          cases h121
          exact k_cn ⟨_, _, pin, pinh⟩
        replace h121 := itf h121 c
        rw [c]
        refine go ?_; intros
        cases h121
        exact k_cn ⟨_, _, pin, pinh⟩
      rintro t o ⟨b106, c107, pq1, pq2⟩
      refine pinned pq1 pq2 ?_
      refine go ?_; intros
      refine r_iro rfl rfl hx92 rfl ?_
      refine go ?_; intros
      refine w_cond rfl (fun c => ?_) (fun c => ?_)
      · replace h120 := itt h120 c
        try rw [c]
        refine go ?_; intros
        refine r_iro rfl rfl hx92 rfl ?_
        obtain ⟨h111, h120⟩ := gd h120
        refine go ?_; intros
        refine r_app (f := eTag) (xs := q99.2) (ys := ([x87] : (List Tag))) rfl (src_mv rfl rfl (by first | rfl | simp)) rfl rfl (by first | rfl | simp) h111 fun b109 c110 => ?_
        refine go ?_; intros
        rw [hw93]
        exact k_ln2 _ (Nat.lt_succ_self _) ⟨_, _, _, _, _, _, h120, rfl, drop_next hd89, pin, pinh⟩
      replace h120 := itf h120 c
      try rw [c]
      refine go ?_; intros
      rw [hw93]
      exact k_ln2 _ (Nat.lt_succ_self _) ⟨_, _, _, _, _, _, h120, rfl, drop_next hd89, pin, pinh⟩
  rintro t o ⟨b114, c115, pq1, pq2⟩
  refine pinnedQ pq1 pq2 ?_
  refine go ?_; intros
  refine w_cond rfl (fun c => ?_) (fun c => ?_)
  · replace h := itt h c
    try rw [c]
    obtain ⟨h119, h⟩ := gd h
    refine go ?_; intros
    refine r_app (f := eTag) (xs := q80.2) (ys := ([(⟨a1, a2⟩ : Tag)] : (List Tag))) rfl (src_mv rfl rfl (by first | rfl | simp)) rfl rfl (by first | rfl | simp) h119 fun b117 c118 => ?_
    refine go ?_; intros
    cases h
    exact r_end
  replace h := itf h c
  try rw [c]
  refine go ?_; intros
  cases h
  exact r_end
theorem d_spec_l7Add {G : Gam} (H_spec_l7Find : Has G c_spec_l7Find) (H_spec_l7One : Has G c_spec_l7One) (a0 : Repo) (a1 : Int) (a2 : Commit) (r : Repo) (h : gf_spec_l7Add a0 a1 a2 = some r) : Does G if_spec_l7Add ks_spec_l7Add (c_spec_l7Add.args (a0, a1, a2)) (c_spec_l7Add.ins (a0, a1, a2)) (c_spec_l7Add.ans (a0, a1, a2) r) := by
  refine does_pg (L := fun bs => [(0, .agg [.ref 0 (bs 0).1 (bs 0).2 0 a0.commits.length 115, .ref 8 (bs 1).1 (bs 1).2 0 a0.heads.length 130]), (1, .v (.int .i64 a1)), (2, .agg [.ro (List.map eInt a2.up), .ro (List.map (eFeat false) a2.sheet), .v (.string a2.note)])]) (H := fun bs => [(0, ent (bs 0).1 (bs 0).2 115 (List.map (eCommit true) a0.commits)), (8, ent (bs 1).1 (bs 1).2 130 (List.map eHead a0.heads))]) (fun bs => pin) (fun bs => pinh) fun bs t o => ?_
  show vwp _ ib_spec_l7Add _ _
  unfold ib_spec_l7Add
  refine w_ir ?_
  unfold gf_spec_l7Add at h
  obtain ⟨x4, h5, h⟩ := bnd h
  refine go ?_; intros
  refine c_call (c := c_spec_l7Find) (a0, a2) H_spec_l7Find h5 fun ch => ?_
  refine go ?_; intros
  refine w_cond rfl (fun c => ?_) (fun c => ?_)
  · replace h := itt h c
    try rw [c]
    obtain ⟨x6, h7, h⟩ := bnd h
    refine go ?_; intros
    refine c_call (c := c_spec_l7One) (a2) H_spec_l7One h7 fun ch => ?_
    refine go ?_; intros
    try simp only [take_map_len, take_ent]
    obtain ⟨h15, h⟩ := gd h
    refine go ?_; intros
    refine r_app (f := (eCommit true)) (xs := a0.commits) (ys := ([x6] : (List Commit))) rfl (src_mv rfl rfl (by first | rfl | simp)) rfl rfl (by first | rfl | simp) h15 fun b13 c14 => ?_
    obtain ⟨x16, h17, h⟩ := bnd h
    refine go ?_; intros
    refine r_ire (xs := a0.heads) rfl rfl h17 rfl ?_
    refine go ?_; intros
    refine c_ste (f := eHead) a0.heads (⟨x16.name, (a0.commits.length : Int)⟩ : Head) (idx_get h17).2 ?_
    refine go ?_; intros
    cases h
    exact r_endg
  replace h := itf h c
  try rw [c]
  obtain ⟨x18, h19, h⟩ := bnd h
  refine go ?_; intros
  refine r_ire (xs := a0.heads) rfl rfl h19 rfl ?_
  refine go ?_; intros
  refine c_ste (f := eHead) a0.heads (⟨x18.name, x4⟩ : Head) (idx_get h19).2 ?_
  refine go ?_; intros
  cases h
  exact r_endg
end Go.Proofs.AM
