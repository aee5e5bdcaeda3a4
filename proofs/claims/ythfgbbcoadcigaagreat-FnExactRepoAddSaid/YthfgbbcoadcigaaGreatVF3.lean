/- A part of the proofs of this seat's statements (VF3): lemmas on an abstract machine for the program's functions. Conditions: none. -/
import Derived.Test.YthfgbbcoadcigaaGreatVD
set_option linter.unusedVariables false
set_option linter.unusedSimpArgs false
set_option maxRecDepth 100000
set_option maxHeartbeats 4000000
namespace Go.Proofs.AM
attribute [local irreducible] vwp vstps vstpLs vstp vdo vret kseq kblk kloop kend kcut kloop2 frzV renV shutK
theorem d_spec_l7Up {G : Gam}  (a0 : (List Int)) (a1 : Int) (r : Bool) (h : gf_spec_l7Up a0 a1 = some r) : Does G if_spec_l7Up ks_spec_l7Up (c_spec_l7Up.args (a0, a1)) [] (c_spec_l7Up.ans (a0, a1) r) := by
  refine does_pn (L := [(0, .ro (List.map eInt a0)), (1, .v (.int .i64 a1))]) (fun bs => pin) fun bs t o => ?_
  show vwp _ ib_spec_l7Up _ _
  unfold ib_spec_l7Up
  unfold gf_spec_l7Up at h
  obtain ⟨hf18, h⟩ := gd h
  obtain ⟨q8, h23, h⟩ := bnd h
  refine go ?_; intros
  refine w_last (fun t o => ∃ q8_, q8 = .inr q8_ ∧ Pin t (ovr [(0, .ro (List.map eInt a0)), (1, .v (.int .i64 a1))] t) ∧ PinH o (ovh [] o)) ?_ ?_
  · refine w_loop2 (fun n t o => ∃ l12 k10  , gl_spec_l7Up_1 a1 l12 k10  = some q8 ∧ n = l12.length ∧ (a0).drop k10 = l12 ∧ Pin t (ovr [(0, .ro (List.map eInt a0)), (1, .v (.int .i64 a1)), (5, .v (.int .i64 (k10 : Int)))] t) ∧ PinH o (ovh [] o)) _ ⟨_, _, h23, rfl, rfl, pin, pinh⟩ ?_
    rintro n t o ⟨l12, k10, h23, rfl, hd13, q1, q2⟩
    refine pinned q1 q2 ?_
    cases l12 with
    | nil =>
      have hge15 := drop_ge hd13
      rw [gl_spec_l7Up_1] at h23
      refine go ?_; intros
      rw [hge15]
      refine go ?_; intros
      cases h23
      exact k_cn ⟨_, rfl, pin, pinh⟩
    | cons x11 l12 =>
      have hlt14 := drop_lt hd13
      have hx16 := drop_ix hd13
      have hw17 := drop_wr hd13 hf18
      rw [gl_spec_l7Up_1] at h23
      refine go ?_; intros
      rw [hlt14]
      refine go ?_; intros
      refine r_iro rfl rfl hx16 rfl ?_
      refine go ?_; intros
      refine s_split rfl (fun c => ?_) (fun c => ?_)
      · replace h23 := itt h23 c
        rw [c]
        refine go ?_; intros
        cases h23
        replace h : some _ = some _ := h
        cases h
        exact r_end
      replace h23 := itf h23 c
      rw [c]
      refine go ?_; intros
      refine r_iro rfl rfl hx16 rfl ?_
      refine go ?_; intros
      refine w_cond rfl (fun c => ?_) (fun c => ?_)
      · replace h23 := itt h23 c
        try rw [c]
        refine go ?_; intros
        cases h23
        replace h : some _ = some _ := h
        cases h
        exact r_end
      replace h23 := itf h23 c
      try rw [c]
      refine go ?_; intros
      rw [hw17]
      exact k_ln2 _ (Nat.lt_succ_self _) ⟨_, _, h23, rfl, drop_next hd13, pin, pinh⟩
  rintro t o ⟨q8, rfl, q1, q2⟩
  refine pinnedQ q1 q2 ?_
  refine go ?_; intros
  refine s_split rfl (fun c => ?_) (fun c => ?_)
  · replace h := itt h c
    rw [c]
    refine go ?_; intros
    refine s_split rfl (fun c => ?_) (fun c => ?_)
    · replace h := itt h c
      rw [c]
      refine go ?_; intros
      refine s_split rfl (fun c => ?_) (fun c => ?_)
      · replace h := itt h c
        rw [c]
        refine go ?_; intros
        cases h
        exact r_end
      replace h := itf h c
      rw [c]
      obtain ⟨x19, h20, h⟩ := bnd h
      refine go ?_; intros
      refine r_iro rfl rfl h20 rfl ?_
      obtain ⟨x21, h22, h⟩ := bnd h
      refine go ?_; intros
      refine r_iro rfl rfl h22 rfl ?_
      refine go ?_; intros
      cases h
      exact r_end
    replace h := itf h c
    rw [c]
    refine go ?_; intros
    cases h
    exact r_end
  replace h := itf h c
  rw [c]
  refine go ?_; intros
  cases h
  exact r_end
theorem d_spec_SheetOk {G : Gam} (H_spec_FeatOk : Has G c_spec_FeatOk) (a0 : (List Feat)) (r : Bool) (h : gf_spec_SheetOk a0 = some r) : Does G if_spec_SheetOk ks_spec_SheetOk (c_spec_SheetOk.args (a0)) [] (c_spec_SheetOk.ans (a0) r) := by
  refine does_pn (L := [(0, .ro (List.map (eFeat false) a0))]) (fun bs => pin) fun bs t o => ?_
  show vwp _ ib_spec_SheetOk _ _
  unfold ib_spec_SheetOk
  unfold gf_spec_SheetOk at h
  obtain ⟨hf28, h⟩ := gd h
  obtain ⟨q18, h33, h⟩ := bnd h
  refine go ?_; intros
  refine w_last (fun t o => ∃ q18_, q18 = .inr q18_ ∧ Pin t (ovr [(0, .ro (List.map (eFeat false) a0))] t) ∧ PinH o (ovh [] o)) ?_ ?_
  · refine w_loop2 (fun n t o => ∃ l22 k20  , gl_spec_SheetOk_1 a0 l22 k20  = some q18 ∧ n = l22.length ∧ (a0).drop k20 = l22 ∧ Pin t (ovr [(0, .ro (List.map (eFeat false) a0)), (3, .v (.int .i64 (k20 : Int)))] t) ∧ PinH o (ovh [] o)) _ ⟨_, _, h33, rfl, rfl, pin, pinh⟩ ?_
    rintro n t o ⟨l22, k20, h33, rfl, hd23, q1, q2⟩
    refine pinned q1 q2 ?_
    cases l22 with
    | nil =>
      have hge25 := drop_ge hd23
      rw [gl_spec_SheetOk_1] at h33
      refine go ?_; intros
      rw [hge25]
      refine go ?_; intros
      cases h33
      exact k_cn ⟨_, rfl, pin, pinh⟩
    | cons x21 l22 =>
      have hlt24 := drop_lt hd23
      have hx26 := drop_ix hd23
      have hw27 := drop_wr hd23 hf28
      rw [gl_spec_SheetOk_1] at h33
      refine go ?_; intros
      rw [hlt24]
      refine go ?_; intros
      refine r_iro rfl rfl hx26 rfl ?_
      obtain ⟨x29, h30, h33⟩ := bnd h33
      refine go ?_; intros
      refine c_call (c := c_spec_FeatOk) (x21) H_spec_FeatOk h30 fun ch => ?_
      refine go ?_; intros
      refine s_split rfl (fun c => ?_) (fun c => ?_)
      · replace h33 := itt h33 c
        rw [c]
        refine go ?_; intros
        cases h33
        replace h : some _ = some _ := h
        cases h
        exact r_end
      replace h33 := itf h33 c
      rw [c]
      refine go ?_; intros
      refine s_split rfl (fun c => ?_) (fun c => ?_)
      · replace h33 := itt h33 c
        rw [c]
        refine go ?_; intros
        refine r_iro rfl rfl hx26 rfl ?_
        obtain ⟨x31, h32, h33⟩ := bnd h33
        refine go ?_; intros
        refine r_iro rfl rfl h32 rfl ?_
        refine go ?_; intros
        refine w_cond rfl (fun c => ?_) (fun c => ?_)
        · replace h33 := itt h33 c
          try rw [c]
          refine go ?_; intros
          cases h33
          replace h : some _ = some _ := h
          cases h
          exact r_end
        replace h33 := itf h33 c
        try rw [c]
        refine go ?_; intros
        rw [hw27]
        exact k_ln2 _ (Nat.lt_succ_self _) ⟨_, _, h33, rfl, drop_next hd23, pin, pinh⟩
      replace h33 := itf h33 c
      rw [c]
      refine go ?_; intros
      rw [hw27]
      exact k_ln2 _ (Nat.lt_succ_self _) ⟨_, _, h33, rfl, drop_next hd23, pin, pinh⟩
  rintro t o ⟨q18, rfl, q1, q2⟩
  refine pinnedQ q1 q2 ?_
  refine go ?_; intros
  cases h
  exact r_end
theorem d_spec_l7Find {G : Gam} (H_spec_l7Same : Has G c_spec_l7Same) (a0 : Repo) (a1 : Commit) (r : Int) (h : gf_spec_l7Find a0 a1 = some r) : Does G if_spec_l7Find ks_spec_l7Find (c_spec_l7Find.args (a0, a1)) [] (c_spec_l7Find.ans (a0, a1) r) := by
  refine does_pn (L := [(0, .agg [.ro (List.map (eCommit false) a0.commits), .ro (List.map eHead a0.heads)]), (1, .agg [.ro (List.map eInt a1.up), .ro (List.map (eFeat false) a1.sheet), .v (.string a1.note)])]) (fun bs => pin) fun bs t o => ?_
  show vwp _ ib_spec_l7Find _ _
  unfold ib_spec_l7Find
  unfold gf_spec_l7Find at h
  obtain ⟨hf32, h⟩ := gd h
  obtain ⟨q20, h35, h⟩ := bnd h
  refine go ?_; intros
  refine w_last (fun t o => ∃ q20_, q20 = .inr q20_ ∧ Pin t (ovr [] t) ∧ PinH o (ovh [] o)) ?_ ?_
  · refine w_loop2 (fun n t o => ∃ l26 k24  b22 b23, gl_spec_l7Find_1 a1 l26 k24  = some q20 ∧ n = l26.length ∧ (a0.commits).drop k24 = l26 ∧ Pin t (ovr [(2, .ptr 16 b22 210 0 0), (3, .ptr 24 b23 115 0 0), (5, .v (.int .i64 (k24 : Int)))] t) ∧ PinH o (ovh [(16, ⟨b22, 1, 210, true, [[.sl false 3 (List.map (eCommit false) a0.commits), .sl false 2 (List.map eHead a0.heads)]]⟩), (24, ⟨b23, 1, 115, true, [[.sl false 1 (List.map eInt a1.up), .sl false 4 (List.map (eFeat false) a1.sheet), .v (.string a1.note)]]⟩)] o)) _ ⟨_, _, _, _, h35, rfl, rfl, pin, pinh⟩ ?_
    rintro n t o ⟨l26, k24, b22, b23, h35, rfl, hd27, q1, q2⟩
    refine pinned q1 q2 ?_
    cases l26 with
    | nil =>
      have hge29 := drop_ge hd27
      rw [gl_spec_l7Find_1] at h35
      refine go ?_; intros
      rw [hge29]
      refine go ?_; intros
      cases h35
      exact k_cn ⟨_, rfl, pin, pinh⟩
    | cons x25 l26 =>
      have hlt28 := drop_lt hd27
      have hx30 := drop_ix hd27
      have hw31 := drop_wr hd27 hf32
      rw [gl_spec_l7Find_1] at h35
      refine go ?_; intros
      rw [hlt28]
      refine go ?_; intros
      refine r_iro rfl rfl hx30 rfl ?_
      obtain ⟨x33, h34, h35⟩ := bnd h35
      refine go ?_; intros
      refine c_call (c := c_spec_l7Same) (x25, a1) H_spec_l7Same h34 fun ch => ?_
      refine go ?_; intros
      refine w_cond rfl (fun c => ?_) (fun c => ?_)
      · replace h35 := itt h35 c
        try rw [c]
        refine go ?_; intros
        cases h35
        replace h : some _ = some _ := h
        cases h
        exact r_end
      replace h35 := itf h35 c
      try rw [c]
      refine go ?_; intros
      rw [hw31]
      exact k_ln2 _ (Nat.lt_succ_self _) ⟨_, _, _, _, h35, rfl, drop_next hd27, pin, pinh⟩
  rintro t o ⟨q20, rfl, q1, q2⟩
  refine pinnedQ q1 q2 ?_
  refine go ?_; intros
  cases h
  exact r_end
theorem d_spec_l7Head {G : Gam}  (a0 : Repo) (a1 : Str) (r : Int) (h : gf_spec_l7Head a0 a1 = some r) : Does G if_spec_l7Head ks_spec_l7Head (c_spec_l7Head.args (a0, a1)) [] (c_spec_l7Head.ans (a0, a1) r) := by
  refine does_pn (L := [(0, .agg [.ro (List.map (eCommit false) a0.commits), .ro (List.map eHead a0.heads)]), (1, .v (.string a1))]) (fun bs => pin) fun bs t o => ?_
  show vwp _ ib_spec_l7Head _ _
  unfold ib_spec_l7Head
  unfold gf_spec_l7Head at h
  obtain ⟨hf22, h⟩ := gd h
  obtain ⟨q11, h23, h⟩ := bnd h
  refine go ?_; intros
  refine w_last (fun t o => ∃ q11_, q11 = .inr q11_ ∧ Pin t (ovr [] t) ∧ PinH o (ovh [] o)) ?_ ?_
  · refine w_loop2 (fun n t o => ∃ l16 k14  b13, gl_spec_l7Head_1 a1 l16 k14  = some q11 ∧ n = l16.length ∧ (a0.heads).drop k14 = l16 ∧ Pin t (ovr [(1, .v (.string a1)), (2, .ptr 16 b13 210 0 0), (5, .v (.int .i64 (k14 : Int)))] t) ∧ PinH o (ovh [(16, ⟨b13, 1, 210, true, [[.sl false 3 (List.map (eCommit false) a0.commits), .sl false 2 (List.map eHead a0.heads)]]⟩)] o)) _ ⟨_, _, _, h23, rfl, rfl, pin, pinh⟩ ?_
    rintro n t o ⟨l16, k14, b13, h23, rfl, hd17, q1, q2⟩
    refine pinned q1 q2 ?_
    cases l16 with
    | nil =>
      have hge19 := drop_ge hd17
      rw [gl_spec_l7Head_1] at h23
      refine go ?_; intros
      rw [hge19]
      refine go ?_; intros
      cases h23
      exact k_cn ⟨_, rfl, pin, pinh⟩
    | cons x15 l16 =>
      have hlt18 := drop_lt hd17
      have hx20 := drop_ix hd17
      have hw21 := drop_wr hd17 hf22
      rw [gl_spec_l7Head_1] at h23
      refine go ?_; intros
      rw [hlt18]
      refine go ?_; intros
      refine r_iro rfl rfl hx20 rfl ?_
      refine go ?_; intros
      refine w_cond rfl (fun c => ?_) (fun c => ?_)
      · replace h23 := itt h23 c
        try rw [c]
        refine go ?_; intros
        cases h23
        replace h : some _ = some _ := h
        cases h
        exact r_end
      replace h23 := itf h23 c
      try rw [c]
      refine go ?_; intros
      rw [hw21]
      exact k_ln2 _ (Nat.lt_succ_self _) ⟨_, _, _, h23, rfl, drop_next hd17, pin, pinh⟩
  rintro t o ⟨q11, rfl, q1, q2⟩
  refine pinnedQ q1 q2 ?_
  refine go ?_; intros
  cases h
  exact r_end
theorem d_spec_l1Copy {G : Gam}  (a0 : Shape) (r : Shape) (h : gf_spec_l1Copy a0 = some r) : Does G if_spec_l1Copy ks_spec_l1Copy (c_spec_l1Copy.args (a0)) [] (c_spec_l1Copy.ans (a0) r) := by
  refine does_pn (L := [(0, .agg [.v (.int .i64 a0.kind), .ro (List.map ePt a0.pts)])]) (fun bs => pin) fun bs t o => ?_
  show vwp _ ib_spec_l1Copy _ _
  unfold ib_spec_l1Copy
  unfold gf_spec_l1Copy at h
  obtain ⟨h6, h⟩ := gd h
  refine go ?_; intros
  refine r_app (f := ePt) (xs := ([] : (List Pt))) (ys := a0.pts) rfl (src_ro (fun _ => rfl) (fun _ => rfl)) rfl rfl (by first | rfl | simp) h6 fun b4 c5 => ?_
  refine go ?_; intros
  cases h
  exact r_end
theorem d_spec_l2Copy {G : Gam} (H_spec_l1Copy : Has G c_spec_l1Copy) (a0 : Feat) (r : Feat) (h : gf_spec_l2Copy a0 = some r) : Does G if_spec_l2Copy ks_spec_l2Copy (c_spec_l2Copy.args (a0)) [] (c_spec_l2Copy.ans (a0) r) := by
  refine does_pn (L := [(0, .agg [.v (.string a0.id), .v (.int .i64 a0.shape.kind), .ro (List.map ePt a0.shape.pts), .ro (List.map eTag a0.tags)])]) (fun bs => pin) fun bs t o => ?_
  show vwp _ ib_spec_l2Copy _ _
  unfold ib_spec_l2Copy
  unfold gf_spec_l2Copy at h
  obtain ⟨x3, h4, h⟩ := bnd h
  refine go ?_; intros
  refine c_call (c := c_spec_l1Copy) (a0.shape) H_spec_l1Copy h4 fun ch => ?_
  obtain ⟨h10, h⟩ := gd h
  refine go ?_; intros
  refine r_app (f := eTag) (xs := ([] : (List Tag))) (ys := a0.tags) rfl (src_ro (fun _ => rfl) (fun _ => rfl)) rfl rfl (by first | rfl | simp) h10 fun b8 c9 => ?_
  refine go ?_; intros
  cases h
  exact r_end
theorem d_spec_l3Copy {G : Gam} (H_spec_l2Copy : Has G c_spec_l2Copy) (a0 : (List Feat)) (r : (List Feat)) (h : gf_spec_l3Copy a0 = some r) : Does G if_spec_l3Copy ks_spec_l3Copy (c_spec_l3Copy.args (a0)) [] (c_spec_l3Copy.ans (a0) r) := by
  refine does_pn (L := [(0, .ro (List.map (eFeat false) a0))]) (fun bs => pin) fun bs t o => ?_
  show vwp _ ib_spec_l3Copy _ _
  unfold ib_spec_l3Copy
  unfold gf_spec_l3Copy at h
  obtain ⟨hf57, h⟩ := gd h
  obtain ⟨q44, h71, h⟩ := bnd h
  refine go ?_; intros
  refine w_last (fun t o => ∃ b69 c70, Pin t (ovr [(3, .ref 40 b69 c70 0 q44.length 100)] t) ∧ PinH o (ovh [(40, ent b69 c70 100 (List.map (eFeat true) q44))] o)) ?_ ?_
  · refine w_loop2 (fun n t o => ∃ l51 k49 v46 b47 c48, gl_spec_l3Copy_1 l51 k49 v46 = some q44 ∧ n = l51.length ∧ (a0).drop k49 = l51 ∧ Pin t (ovr [(0, .ro (List.map (eFeat false) a0)), (3, .ref 40 b47 c48 0 v46.length 100), (4, .v (.int .i64 (k49 : Int)))] t) ∧ PinH o (ovh [(40, ent b47 c48 100 (List.map (eFeat true) v46))] o)) _ ⟨_, _, _, _, _, h71, rfl, rfl, pin, pinh⟩ ?_
    rintro n t o ⟨l51, k49, v46, b47, c48, h71, rfl, hd52, q1, q2⟩
    refine pinned q1 q2 ?_
    cases l51 with
    | nil =>
      have hge54 := drop_ge hd52
      rw [gl_spec_l3Copy_1] at h71
      refine go ?_; intros
      rw [hge54]
      refine go ?_; intros
      cases h71
      exact k_cn ⟨_, _, pin, pinh⟩
    | cons x50 l51 =>
      have hlt53 := drop_lt hd52
      have hx55 := drop_ix hd52
      have hw56 := drop_wr hd52 hf57
      rw [gl_spec_l3Copy_1] at h71
      refine go ?_; intros
      rw [hlt53]
      refine go ?_; intros
      refine r_iro rfl rfl hx55 rfl ?_
      obtain ⟨x58, h59, h71⟩ := bnd h71
      refine go ?_; intros
      refine c_call (c := c_spec_l2Copy) (x50) H_spec_l2Copy h59 fun ch => ?_
      refine go ?_; intros
      simp only [take_map_len, take_ent]
      obtain ⟨h67, h71⟩ := gd h71
      refine go ?_; intros
      refine r_app (f := (eFeat true)) (xs := v46) (ys := ([x58] : (List Feat))) rfl (src_mv rfl rfl (by first | rfl | simp)) rfl rfl (by first | rfl | simp) h67 fun b65 c66 => ?_
      refine go ?_; intros
      rw [hw56]
      exact k_ln2 _ (Nat.lt_succ_self _) ⟨_, _, _, _, _, h71, rfl, drop_next hd52, pin, pinh⟩
  rintro t o ⟨b69, c70, q1, q2⟩
  refine pinnedQ q1 q2 ?_
  refine go ?_; intros
  cases h
  exact r_end
end Go.Proofs.AM
