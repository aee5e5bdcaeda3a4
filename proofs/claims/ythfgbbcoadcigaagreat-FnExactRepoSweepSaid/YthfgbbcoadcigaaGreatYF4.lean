/- A part of the proofs of this seat's statements (YF4): lemmas on an abstract machine for the program's functions. Conditions: none. -/
import Derived.Test.YthfgbbcoadcigaaGreatYD
set_option linter.unusedVariables false
set_option maxRecDepth 100000
set_option maxHeartbeats 4000000
namespace Go.Proofs.AM
attribute [local irreducible] vwp vstps vstpLs vstp vdo vret kseq kblk kloop kend kcut kloop2 frzV renV shutK
theorem d_spec_l7One {G : Gam} (H_spec_l3Copy : Has G c_spec_l3Copy) (a0 : Commit) (r : Commit) (h : gf_spec_l7One a0 = some r) : Does G if_spec_l7One ks_spec_l7One (c_spec_l7One.args (a0)) [] (c_spec_l7One.ans (a0) r) := by
  refine does_pn (L := [(0, .agg [.ro (List.map eInt a0.up), .ro (List.map (eFeat false) a0.sheet), .v (.string a0.note)])]) (fun bs => pin) fun bs t o => ?_
  show vwp _ ib_spec_l7One _ _
  unfold ib_spec_l7One
  unfold gf_spec_l7One at h
  obtain ⟨h6, h⟩ := gd h
  refine go ?_; intros
  refine r_app (f := eInt) (xs := ([] : (List Int))) (ys := a0.up) rfl (src_ro (fun _ => rfl) (fun _ => rfl)) rfl rfl (by first | rfl | simp) h6 fun b4 c5 => ?_
  obtain ⟨x7, h8, h⟩ := bnd h
  refine go ?_; intros
  refine c_call (c := c_spec_l3Copy) (a0.sheet) H_spec_l3Copy h8 fun ch => ?_
  refine go ?_; intros
  cases h
  exact r_end
theorem d_spec_RepoOk {G : Gam} (H_spec_l7Up : Has G c_spec_l7Up) (H_spec_SheetOk : Has G c_spec_SheetOk) (H_spec_WordOk : Has G c_spec_WordOk) (H_spec_l7Find : Has G c_spec_l7Find) (H_spec_l7Head : Has G c_spec_l7Head) (a0 : Repo) (r : Bool) (h : gf_spec_RepoOk a0 = some r) : Does G if_spec_RepoOk ks_spec_RepoOk (c_spec_RepoOk.args (a0)) [] (c_spec_RepoOk.ans (a0) r) := by
  refine does_pn (L := [(0, .agg [.ro (List.map (eCommit false) a0.commits), .ro (List.map eHead a0.heads)])]) (fun bs => pin) fun bs t o => ?_
  show vwp _ ib_spec_RepoOk _ _
  unfold ib_spec_RepoOk
  unfold gf_spec_RepoOk at h
  refine go ?_; intros
  refine s_split rfl (fun c => ?_) (fun c => ?_)
  · replace h := itt h c
    rw [c]
    refine go ?_; intros
    cases h
    exact r_end
  replace h := itf h c
  rw [c]
  refine go ?_; intros
  refine s_split rfl (fun c => ?_) (fun c => ?_)
  · replace h := itt h c
    rw [c]
    refine go ?_; intros
    cases h
    exact r_end
  replace h := itf h c
  rw [c]
  refine go ?_; intros
  refine s_split rfl (fun c => ?_) (fun c => ?_)
  · replace h := itt h c
    rw [c]
    refine go ?_; intros
    cases h
    exact r_end
  replace h := itf h c
  rw [c]
  refine go ?_; intros
  refine w_cond rfl (fun c => ?_) (fun c => ?_)
  · replace h := itt h c
    try rw [c]
    refine go ?_; intros
    cases h
    exact r_end
  replace h := itf h c
  try rw [c]
  obtain ⟨hf49, h⟩ := gd h
  obtain ⟨q38, h101, h⟩ := bnd h
  refine go ?_; intros
  refine w_last (fun t o => ∃ q38_, q38 = .inr q38_ ∧ ∃ b59, Pin t (ovr [(1, .ptr 8 b59 210 0 0)] t) ∧ PinH o (ovh [(8, ⟨b59, 1, 210, true, [[.sl false 3 (List.map (eCommit false) a0.commits), .sl false 2 (List.map eHead a0.heads)]]⟩)] o)) ?_ ?_
  · refine w_loop2 (fun n t o => ∃ l43 k41  b40, gl_spec_RepoOk_1 a0 l43 k41  = some q38 ∧ n = l43.length ∧ (a0.commits).drop k41 = l43 ∧ Pin t (ovr [(1, .ptr 8 b40 210 0 0), (3, .v (.int .i64 (k41 : Int)))] t) ∧ PinH o (ovh [(8, ⟨b40, 1, 210, true, [[.sl false 3 (List.map (eCommit false) a0.commits), .sl false 2 (List.map eHead a0.heads)]]⟩)] o)) _ ⟨_, _, _, h101, rfl, rfl, pin, pinh⟩ ?_
    rintro n t o ⟨l43, k41, b40, h101, rfl, hd44, q1, q2⟩
    refine pinned q1 q2 ?_
    cases l43 with
    | nil =>
      have hge46 := drop_ge hd44
      rw [gl_spec_RepoOk_1] at h101
      refine go ?_; intros
      rw [hge46]
      refine go ?_; intros
      cases h101
      exact k_cn ⟨_, rfl, _, pin, pinh⟩
    | cons x42 l43 =>
      have hlt45 := drop_lt hd44
      have hx47 := drop_ix hd44
      have hw48 := drop_wr hd44 hf49
      rw [gl_spec_RepoOk_1] at h101
      refine go ?_; intros
      rw [hlt45]
      refine go ?_; intros
      refine r_iro rfl rfl hx47 rfl ?_
      obtain ⟨x51, h52, h101⟩ := bnd h101
      refine go ?_; intros
      refine c_call (c := c_spec_l7Up) (x42.up, (k41 : Int)) H_spec_l7Up h52 fun ch => ?_
      refine go ?_; intros
      refine s_split rfl (fun c => ?_) (fun c => ?_)
      · replace h101 := itt h101 c
        rw [c]
        refine go ?_; intros
        cases h101
        replace h : some _ = some _ := h
        cases h
        exact r_end
      replace h101 := itf h101 c
      rw [c]
      obtain ⟨x53, h54, h101⟩ := bnd h101
      refine go ?_; intros
      refine c_call (c := c_spec_SheetOk) (x42.sheet) H_spec_SheetOk h54 fun ch => ?_
      refine go ?_; intros
      refine s_split rfl (fun c => ?_) (fun c => ?_)
      · replace h101 := itt h101 c
        rw [c]
        refine go ?_; intros
        cases h101
        replace h : some _ = some _ := h
        cases h
        exact r_end
      replace h101 := itf h101 c
      rw [c]
      obtain ⟨x55, h56, h101⟩ := bnd h101
      refine go ?_; intros
      refine c_call (c := c_spec_WordOk) (x42.note) H_spec_WordOk h56 fun ch => ?_
      refine go ?_; intros
      refine s_split rfl (fun c => ?_) (fun c => ?_)
      · replace h101 := itt h101 c
        rw [c]
        refine go ?_; intros
        cases h101
        replace h : some _ = some _ := h
        cases h
        exact r_end
      replace h101 := itf h101 c
      rw [c]
      obtain ⟨x57, h58, h101⟩ := bnd h101
      refine go ?_; intros
      refine c_call (c := c_spec_l7Find) (a0, x42) H_spec_l7Find h58 fun ch => ?_
      refine go ?_; intros
      refine w_cond rfl (fun c => ?_) (fun c => ?_)
      · replace h101 := itt h101 c
        try rw [c]
        refine go ?_; intros
        cases h101
        replace h : some _ = some _ := h
        cases h
        exact r_end
      replace h101 := itf h101 c
      try rw [c]
      refine go ?_; intros
      rw [hw48]
      exact k_ln2 _ (Nat.lt_succ_self _) ⟨_, _, _, h101, rfl, drop_next hd44, pin, pinh⟩
  rintro t o ⟨q38, rfl, b59, q1, q2⟩
  refine pinnedQ q1 q2 ?_
  obtain ⟨hf95, h⟩ := gd h
  obtain ⟨q84, h102, h⟩ := bnd h
  refine go ?_; intros
  refine w_last (fun t o => ∃ q84_, q84 = .inr q84_ ∧ Pin t (ovr [] t) ∧ PinH o (ovh [] o)) ?_ ?_
  · refine w_loop2 (fun n t o => ∃ l89 k87  b86, gl_spec_RepoOk_2 a0 l89 k87  = some q84 ∧ n = l89.length ∧ (a0.heads).drop k87 = l89 ∧ Pin t (ovr [(1, .ptr 8 b86 210 0 0), (5, .v (.int .i64 (k87 : Int)))] t) ∧ PinH o (ovh [(8, ⟨b86, 1, 210, true, [[.sl false 3 (List.map (eCommit false) a0.commits), .sl false 2 (List.map eHead a0.heads)]]⟩)] o)) _ ⟨_, _, _, h102, rfl, rfl, pin, pinh⟩ ?_
    rintro n t o ⟨l89, k87, b86, h102, rfl, hd90, q1, q2⟩
    refine pinned q1 q2 ?_
    cases l89 with
    | nil =>
      have hge92 := drop_ge hd90
      rw [gl_spec_RepoOk_2] at h102
      refine go ?_; intros
      rw [hge92]
      refine go ?_; intros
      cases h102
      exact k_cn ⟨_, rfl, pin, pinh⟩
    | cons x88 l89 =>
      have hlt91 := drop_lt hd90
      have hx93 := drop_ix hd90
      have hw94 := drop_wr hd90 hf95
      rw [gl_spec_RepoOk_2] at h102
      refine go ?_; intros
      rw [hlt91]
      refine go ?_; intros
      refine r_iro rfl rfl hx93 rfl ?_
      obtain ⟨x97, h98, h102⟩ := bnd h102
      refine go ?_; intros
      refine c_call (c := c_spec_WordOk) (x88.name) H_spec_WordOk h98 fun ch => ?_
      refine go ?_; intros
      refine s_split rfl (fun c => ?_) (fun c => ?_)
      · replace h102 := itt h102 c
        rw [c]
        refine go ?_; intros
        cases h102
        replace h : some _ = some _ := h
        cases h
        exact r_end
      replace h102 := itf h102 c
      rw [c]
      obtain ⟨x99, h100, h102⟩ := bnd h102
      refine go ?_; intros
      refine c_call (c := c_spec_l7Head) (a0, x88.name) H_spec_l7Head h100 fun ch => ?_
      refine go ?_; intros
      refine s_split rfl (fun c => ?_) (fun c => ?_)
      · replace h102 := itt h102 c
        rw [c]
        refine go ?_; intros
        cases h102
        replace h : some _ = some _ := h
        cases h
        exact r_end
      replace h102 := itf h102 c
      rw [c]
      refine go ?_; intros
      refine s_split rfl (fun c => ?_) (fun c => ?_)
      · replace h102 := itt h102 c
        rw [c]
        refine go ?_; intros
        cases h102
        replace h : some _ = some _ := h
        cases h
        exact r_end
      replace h102 := itf h102 c
      rw [c]
      refine go ?_; intros
      refine w_cond rfl (fun c => ?_) (fun c => ?_)
      · replace h102 := itt h102 c
        try rw [c]
        refine go ?_; intros
        cases h102
        replace h : some _ = some _ := h
        cases h
        exact r_end
      replace h102 := itf h102 c
      try rw [c]
      refine go ?_; intros
      rw [hw94]
      exact k_ln2 _ (Nat.lt_succ_self _) ⟨_, _, _, h102, rfl, drop_next hd90, pin, pinh⟩
  rintro t o ⟨q84, rfl, q1, q2⟩
  refine pinnedQ q1 q2 ?_
  refine go ?_; intros
  cases h
  exact r_end
theorem d_spec_l7Marks {G : Gam}  (a0 : Repo) (a1 : (List Int)) (r : (List Bool)) (h : gf_spec_l7Marks a0 a1 = some r) : Does G if_spec_l7Marks ks_spec_l7Marks (c_spec_l7Marks.args (a0, a1)) [] (c_spec_l7Marks.ans (a0, a1) r) := by
  refine does_pn (L := [(0, .agg [.ro (List.map (eCommit false) a0.commits), .ro (List.map eHead a0.heads)]), (1, .ro (List.map eInt a1))]) (fun bs => pin) fun bs t o => ?_
  show vwp _ ib_spec_l7Marks _ _
  unfold ib_spec_l7Marks
  unfold gf_spec_l7Marks at h
  obtain ⟨h4, h⟩ := gd h
  refine go ?_; intros
  refine r_mks (f := eBool) (x := false) rfl rfl (band1 h4) (band2 h4) rfl fun b2 => ?_
  obtain ⟨hf39, h⟩ := gd h
  obtain ⟨q25, h268, h⟩ := bnd h
  refine go ?_; intros
  refine w_last (fun t o => ∃ b42 b44 c45, Pin t (ovr [(2, .ptr 16 b42 210 0 0), (5, .ref 96 b44 c45 0 q25.length 33)] t) ∧ PinH o (ovh [(16, ⟨b42, 1, 210, true, [[.sl false 3 (List.map (eCommit false) a0.commits), .sl false 2 (List.map eHead a0.heads)]]⟩), (96, ent b44 c45 33 (List.map eBool q25))] o)) ?_ ?_
  · refine w_loop2 (fun n t o => ∃ l33 k31 v28 b27 b29 c30, gl_spec_l7Marks_1 l33 k31 v28 = some q25 ∧ n = l33.length ∧ (a1).drop k31 = l33 ∧ Pin t (ovr [(1, .ro (List.map eInt a1)), (2, .ptr 16 b27 210 0 0), (5, .ref 96 b29 c30 0 v28.length 33), (6, .v (.int .i64 (k31 : Int)))] t) ∧ PinH o (ovh [(16, ⟨b27, 1, 210, true, [[.sl false 3 (List.map (eCommit false) a0.commits), .sl false 2 (List.map eHead a0.heads)]]⟩), (96, ent b29 c30 33 (List.map eBool v28))] o)) _ ⟨_, _, _, _, _, _, h268, rfl, rfl, pin, pinh⟩ ?_
    rintro n t o ⟨l33, k31, v28, b27, b29, c30, h268, rfl, hd34, q1, q2⟩
    refine pinned q1 q2 ?_
    cases l33 with
    | nil =>
      have hge36 := drop_ge hd34
      rw [gl_spec_l7Marks_1] at h268
      refine go ?_; intros
      rw [hge36]
      refine go ?_; intros
      cases h268
      exact k_cn ⟨_, _, _, pin, pinh⟩
    | cons x32 l33 =>
      have hlt35 := drop_lt hd34
      have hx37 := drop_ix hd34
      have hw38 := drop_wr hd34 hf39
      rw [gl_spec_l7Marks_1] at h268
      refine go ?_; intros
      rw [hlt35]
      refine go ?_; intros
      refine r_iro rfl rfl hx37 rfl ?_
      obtain ⟨x40, h41, h268⟩ := bnd h268
      refine go ?_; intros
      refine r_ire (xs := v28) rfl rfl h41 rfl ?_
      refine go ?_; intros
      refine c_ste (f := eBool) v28 true (idx_get h41).2 ?_
      refine go ?_; intros
      rw [hw38]
      exact k_ln2 _ (Nat.lt_succ_self _) ⟨_, _, _, _, _, _, h268, rfl, drop_next hd34, pin, pinh⟩
  rintro t o ⟨b42, b44, c45, q1, q2⟩
  refine pinnedQ q1 q2 ?_
  obtain ⟨q207, h269, h⟩ := bnd h
  refine go ?_; intros
  refine w_last (fun t o => ∃ b266 c267, Pin t (ovr [(5, .ref 96 b266 c267 0 q207.length 33)] t) ∧ PinH o (ovh [(96, ent b266 c267 33 (List.map eBool q207))] o)) ?_ ?_
  · refine w_loop2 (fun n t o => ∃ n213 v208 v210 b209 b211 c212, gl_spec_l7Marks_5 a0 n213 v208 v210 = some q207 ∧ n213 = n ∧ Pin t (ovr [(2, .ptr 16 b209 210 0 0), (5, .ref 96 b211 c212 0 v210.length 33), (7, .v (.int .i64 v208))] t) ∧ PinH o (ovh [(16, ⟨b209, 1, 210, true, [[.sl false 3 (List.map (eCommit false) a0.commits), .sl false 2 (List.map eHead a0.heads)]]⟩), (96, ent b211 c212 33 (List.map eBool v210))] o)) _ ⟨_, _, _, _, _, _, h269, rfl, pin, pinh⟩ ?_
    rintro n t o ⟨n213, v208, v210, b209, b211, c212, h269, rfl, q1, q2⟩
    refine pinned q1 q2 ?_
    cases n213 with
    | zero => rw [gl_spec_l7Marks_5] at h269; cases h269
    | succ n213 =>
      rw [gl_spec_l7Marks_5] at h269
      refine go ?_; intros
      refine w_cond rfl (fun c => ?_) (fun c => ?_)
      · replace h269 := itt h269 c
        try rw [c]
        obtain ⟨q246, h270, h269⟩ := bnd h269
        refine go ?_; intros
        refine w_last (fun t o => ∃ b261 b263 c264, Pin t (ovr [(2, .ptr 16 b261 210 0 0), (5, .ref 96 b263 c264 0 q246.length 33), (7, .v (.int .i64 v208))] t) ∧ PinH o (ovh [(16, ⟨b261, 1, 210, true, [[.sl false 3 (List.map (eCommit false) a0.commits), .sl false 2 (List.map eHead a0.heads)]]⟩), (96, ent b263 c264 33 (List.map eBool q246))] o)) ?_ ?_
        · refine w_loop2 (fun n t o => ∃ n252 v247 v249 b248 b250 c251, gl_spec_l7Marks_6 a0 v208 n252 v247 v249 = some q246 ∧ n252 = n ∧ Pin t (ovr [(2, .ptr 16 b248 210 0 0), (5, .ref 96 b250 c251 0 v249.length 33), (7, .v (.int .i64 v208)), (8, .v (.int .i64 v247))] t) ∧ PinH o (ovh [(16, ⟨b248, 1, 210, true, [[.sl false 3 (List.map (eCommit false) a0.commits), .sl false 2 (List.map eHead a0.heads)]]⟩), (96, ent b250 c251 33 (List.map eBool v249))] o)) _ ⟨_, _, _, _, _, _, h270, rfl, pin, pinh⟩ ?_
          rintro n t o ⟨n252, v247, v249, b248, b250, c251, h270, rfl, q1, q2⟩
          refine pinned q1 q2 ?_
          cases n252 with
          | zero => rw [gl_spec_l7Marks_6] at h270; cases h270
          | succ n252 =>
            rw [gl_spec_l7Marks_6] at h270
            obtain ⟨x253, h254, h270⟩ := bnd h270
            refine go ?_; intros
            refine r_iro rfl rfl h254 rfl ?_
            refine go ?_; intros
            refine s_split rfl (fun c => ?_) (fun c => ?_)
            · replace h270 := itt h270 c
              rw [c]
              obtain ⟨x255, h256, h270⟩ := bnd h270
              refine go ?_; intros
              refine r_ire (xs := v249) rfl rfl h256 rfl ?_
              refine go ?_; intros
              refine r_lde (f := eBool) (xs := v249) (x := x255) rfl rfl (idx_get h256).2 rfl rfl rfl ?_
              refine go ?_; intros
              refine w_cond rfl (fun c => ?_) (fun c => ?_)
              · replace h270 := itt h270 c
                try rw [c]
                refine go ?_; intros
                refine r_iro rfl rfl h254 rfl ?_
                obtain ⟨x257, h258, h270⟩ := bnd h270
                refine go ?_; intros
                refine r_iro rfl rfl h258 rfl ?_
                obtain ⟨x259, h260, h270⟩ := bnd h270
                refine go ?_; intros
                refine r_ire (xs := v249) rfl rfl h260 rfl ?_
                refine go ?_; intros
                refine c_ste (f := eBool) v249 true (idx_get h260).2 ?_
                refine go ?_; intros
                exact k_ln2 _ (Nat.lt_succ_self _) ⟨_, _, _, _, _, _, h270, rfl, pin, pinh⟩
              replace h270 := itf h270 c
              try rw [c]
              refine go ?_; intros
              cases h270
              exact k_cn ⟨_, _, _, pin, pinh⟩
            replace h270 := itf h270 c
            rw [c]
            refine go ?_; intros
            cases h270
            exact k_cn ⟨_, _, _, pin, pinh⟩
        rintro t o ⟨b261, b263, c264, q1, q2⟩
        refine pinnedQ q1 q2 ?_
        refine go ?_; intros
        exact k_ln2 _ (Nat.lt_succ_self _) ⟨_, _, _, _, _, _, h269, rfl, pin, pinh⟩
      replace h269 := itf h269 c
      try rw [c]
      refine go ?_; intros
      cases h269
      exact k_cn ⟨_, _, pin, pinh⟩
  rintro t o ⟨b266, c267, q1, q2⟩
  refine pinnedQ q1 q2 ?_
  refine go ?_; intros
  cases h
  exact r_end
end Go.Proofs.AM
