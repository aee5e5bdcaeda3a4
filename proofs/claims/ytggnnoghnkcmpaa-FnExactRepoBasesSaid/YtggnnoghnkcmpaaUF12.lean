/- A part of the proofs of this seat's statements (UF12): lemmas on an abstract machine for the program's functions. Conditions: none. -/
import Derived.Test.YtggnnoghnkcmpaaUD
set_option linter.unusedVariables false
set_option maxRecDepth 100000
set_option maxHeartbeats 4000000
namespace Go.Proofs.AM
attribute [local irreducible] vwp vstps vstpLs vstp vdo vret kseq kblk kloop kend kcut kloop2 frzV renV shutK
theorem d_laws_eqCommit {G : Gam} (H_laws_eqIntS : Has G c_laws_eqIntS) (H_laws_eqFeatS : Has G c_laws_eqFeatS) (a0 : Commit) (a1 : Commit) (r : Bool) (h : gf_laws_eqCommit a0 a1 = some r) : Does G if_laws_eqCommit ks_laws_eqCommit (c_laws_eqCommit.args (a0, a1)) [] (c_laws_eqCommit.ans (a0, a1) r) := by
  refine does_pn (L := [(0, .agg [.ro (List.map eInt a0.up), .ro (List.map (eFeat false) a0.sheet), .v (.string a0.note)]), (1, .agg [.ro (List.map eInt a1.up), .ro (List.map (eFeat false) a1.sheet), .v (.string a1.note)])]) (fun bs => pin) fun bs t o => ?_
  show vwp _ ib_laws_eqCommit _ _
  unfold ib_laws_eqCommit
  unfold gf_laws_eqCommit at h
  obtain ⟨x3, h4, h⟩ := bnd h
  refine go ?_; intros
  refine c_call (c := c_laws_eqIntS) (a0.up, a1.up) H_laws_eqIntS h4 fun ch => ?_
  refine go ?_; intros
  refine w_cond rfl (fun c => ?_) (fun c => ?_)
  · replace h := itt h c
    try rw [c]
    refine go ?_; intros
    cases h
    exact r_end
  replace h := itf h c
  try rw [c]
  obtain ⟨x5, h6, h⟩ := bnd h
  refine go ?_; intros
  refine c_call (c := c_laws_eqFeatS) (a0.sheet, a1.sheet) H_laws_eqFeatS h6 fun ch => ?_
  refine go ?_; intros
  refine w_cond rfl (fun c => ?_) (fun c => ?_)
  · replace h := itt h c
    try rw [c]
    refine go ?_; intros
    cases h
    exact r_end
  replace h := itf h c
  try rw [c]
  refine go ?_; intros
  refine w_cond rfl (fun c => ?_) (fun c => ?_)
  · replace h := itt h c
    try rw [c]
    refine go ?_; intros
    cases h
    exact r_end
  replace h := itf h c
  try rw [c]
  refine go ?_; intros
  cases h
  exact r_end
theorem d_laws_eqHead {G : Gam}  (a0 : Head) (a1 : Head) (r : Bool) (h : gf_laws_eqHead a0 a1 = some r) : Does G if_laws_eqHead ks_laws_eqHead (c_laws_eqHead.args (a0, a1)) [] (c_laws_eqHead.ans (a0, a1) r) := by
  refine does_pn (L := [(0, .agg [.v (.string a0.name), .v (.int .i64 a0.at_)]), (1, .agg [.v (.string a1.name), .v (.int .i64 a1.at_)])]) (fun bs => pin) fun bs t o => ?_
  show vwp _ ib_laws_eqHead _ _
  unfold ib_laws_eqHead
  unfold gf_laws_eqHead at h
  refine go ?_; intros
  refine w_cond rfl (fun c => ?_) (fun c => ?_)
  · replace h := itt h c
    try rw [c]
    refine go ?_; intros
    cases h
    exact r_end
  replace h := itf h c
  try rw [c]
  refine go ?_; intros
  refine w_cond rfl (fun c => ?_) (fun c => ?_)
  · replace h := itt h c
    try rw [c]
    refine go ?_; intros
    cases h
    exact r_end
  replace h := itf h c
  try rw [c]
  refine go ?_; intros
  cases h
  exact r_end
theorem d_laws_eqCommitS {G : Gam} (H_laws_eqCommit : Has G c_laws_eqCommit) (a0 : (List Commit)) (a1 : (List Commit)) (r : Bool) (h : gf_laws_eqCommitS a0 a1 = some r) : Does G if_laws_eqCommitS ks_laws_eqCommitS (c_laws_eqCommitS.args (a0, a1)) [] (c_laws_eqCommitS.ans (a0, a1) r) := by
  refine does_pn (L := [(0, .ro (List.map (eCommit false) a0)), (1, .ro (List.map (eCommit false) a1))]) (fun bs => pin) fun bs t o => ?_
  show vwp _ ib_laws_eqCommitS _ _
  unfold ib_laws_eqCommitS
  unfold gf_laws_eqCommitS at h
  refine go ?_; intros
  refine w_cond rfl (fun c => ?_) (fun c => ?_)
  · replace h := itt h c
    try rw [c]
    refine go ?_; intros
    cases h
    exact r_end
  replace h := itf h c
  try rw [c]
  obtain ⟨hf30, h⟩ := gd h
  obtain ⟨q20, h35, h⟩ := bnd h
  refine go ?_; intros
  refine w_last (fun t o => ∃ q20_, q20 = .inr q20_ ∧ Pin t (ovr [] t) ∧ PinH o (ovh [] o)) ?_ ?_
  · refine w_loop2 (fun n t o => ∃ l24 k22  , gl_laws_eqCommitS_1 a1 l24 k22  = some q20 ∧ n = l24.length ∧ (a0).drop k22 = l24 ∧ Pin t (ovr [(0, .ro (List.map (eCommit false) a0)), (1, .ro (List.map (eCommit false) a1)), (5, .v (.int .i64 (k22 : Int)))] t) ∧ PinH o (ovh [] o)) _ ⟨_, _, h35, rfl, rfl, pin, pinh⟩ ?_
    rintro n t o ⟨l24, k22, h35, rfl, hd25, q1, q2⟩
    refine pinned q1 q2 ?_
    cases l24 with
    | nil =>
      have hge27 := drop_ge hd25
      rw [gl_laws_eqCommitS_1] at h35
      refine go ?_; intros
      rw [hge27]
      refine go ?_; intros
      cases h35
      exact k_cn ⟨_, rfl, pin, pinh⟩
    | cons x23 l24 =>
      have hlt26 := drop_lt hd25
      have hx28 := drop_ix hd25
      have hw29 := drop_wr hd25 hf30
      rw [gl_laws_eqCommitS_1] at h35
      refine go ?_; intros
      rw [hlt26]
      refine go ?_; intros
      refine r_iro rfl rfl hx28 rfl ?_
      obtain ⟨x31, h32, h35⟩ := bnd h35
      refine go ?_; intros
      refine r_iro rfl rfl h32 rfl ?_
      obtain ⟨x33, h34, h35⟩ := bnd h35
      refine go ?_; intros
      refine c_call (c := c_laws_eqCommit) (x23, x31) H_laws_eqCommit h34 fun ch => ?_
      refine go ?_; intros
      refine w_cond rfl (fun c => ?_) (fun c => ?_)
      · replace h35 := itt h35 c
        try rw [c]
        refine go ?_; intros
        cases h35
        replace h : some _ = some _ := h
        cases h
        exact r_end
      replace h35 := itf h35 c
      try rw [c]
      refine go ?_; intros
      rw [hw29]
      exact k_ln2 _ (Nat.lt_succ_self _) ⟨_, _, h35, rfl, drop_next hd25, pin, pinh⟩
  rintro t o ⟨q20, rfl, q1, q2⟩
  refine pinnedQ q1 q2 ?_
  refine go ?_; intros
  cases h
  exact r_end
theorem d_laws_eqHeadS {G : Gam} (H_laws_eqHead : Has G c_laws_eqHead) (a0 : (List Head)) (a1 : (List Head)) (r : Bool) (h : gf_laws_eqHeadS a0 a1 = some r) : Does G if_laws_eqHeadS ks_laws_eqHeadS (c_laws_eqHeadS.args (a0, a1)) [] (c_laws_eqHeadS.ans (a0, a1) r) := by
  refine does_pn (L := [(0, .ro (List.map eHead a0)), (1, .ro (List.map eHead a1))]) (fun bs => pin) fun bs t o => ?_
  show vwp _ ib_laws_eqHeadS _ _
  unfold ib_laws_eqHeadS
  unfold gf_laws_eqHeadS at h
  refine go ?_; intros
  refine w_cond rfl (fun c => ?_) (fun c => ?_)
  · replace h := itt h c
    try rw [c]
    refine go ?_; intros
    cases h
    exact r_end
  replace h := itf h c
  try rw [c]
  obtain ⟨hf30, h⟩ := gd h
  obtain ⟨q20, h35, h⟩ := bnd h
  refine go ?_; intros
  refine w_last (fun t o => ∃ q20_, q20 = .inr q20_ ∧ Pin t (ovr [] t) ∧ PinH o (ovh [] o)) ?_ ?_
  · refine w_loop2 (fun n t o => ∃ l24 k22  , gl_laws_eqHeadS_1 a1 l24 k22  = some q20 ∧ n = l24.length ∧ (a0).drop k22 = l24 ∧ Pin t (ovr [(0, .ro (List.map eHead a0)), (1, .ro (List.map eHead a1)), (5, .v (.int .i64 (k22 : Int)))] t) ∧ PinH o (ovh [] o)) _ ⟨_, _, h35, rfl, rfl, pin, pinh⟩ ?_
    rintro n t o ⟨l24, k22, h35, rfl, hd25, q1, q2⟩
    refine pinned q1 q2 ?_
    cases l24 with
    | nil =>
      have hge27 := drop_ge hd25
      rw [gl_laws_eqHeadS_1] at h35
      refine go ?_; intros
      rw [hge27]
      refine go ?_; intros
      cases h35
      exact k_cn ⟨_, rfl, pin, pinh⟩
    | cons x23 l24 =>
      have hlt26 := drop_lt hd25
      have hx28 := drop_ix hd25
      have hw29 := drop_wr hd25 hf30
      rw [gl_laws_eqHeadS_1] at h35
      refine go ?_; intros
      rw [hlt26]
      refine go ?_; intros
      refine r_iro rfl rfl hx28 rfl ?_
      obtain ⟨x31, h32, h35⟩ := bnd h35
      refine go ?_; intros
      refine r_iro rfl rfl h32 rfl ?_
      obtain ⟨x33, h34, h35⟩ := bnd h35
      refine go ?_; intros
      refine c_call (c := c_laws_eqHead) (x23, x31) H_laws_eqHead h34 fun ch => ?_
      refine go ?_; intros
      refine w_cond rfl (fun c => ?_) (fun c => ?_)
      · replace h35 := itt h35 c
        try rw [c]
        refine go ?_; intros
        cases h35
        replace h : some _ = some _ := h
        cases h
        exact r_end
      replace h35 := itf h35 c
      try rw [c]
      refine go ?_; intros
      rw [hw29]
      exact k_ln2 _ (Nat.lt_succ_self _) ⟨_, _, h35, rfl, drop_next hd25, pin, pinh⟩
  rintro t o ⟨q20, rfl, q1, q2⟩
  refine pinnedQ q1 q2 ?_
  refine go ?_; intros
  cases h
  exact r_end
theorem d_laws_markText {G : Gam}  (a0 : Int) (r : Str) (h : gf_laws_markText a0 = some r) : Does G if_laws_markText ks_laws_markText (c_laws_markText.args (a0)) [] (c_laws_markText.ans (a0) r) := by
  refine does_pn (L := [(0, .v (.int .i64 a0))]) (fun bs => pin) fun bs t o => ?_
  show vwp _ ib_laws_markText _ _
  unfold ib_laws_markText
  unfold gf_laws_markText at h
  refine go ?_; intros
  refine w_cond rfl (fun c => ?_) (fun c => ?_)
  · replace h := itt h c
    try rw [c]
    refine go ?_; intros
    cases h
    exact r_end
  replace h := itf h c
  try rw [c]
  obtain ⟨q9, h19, h⟩ := bnd h
  refine go ?_; intros
  refine w_cut (fun t o => Pin t (ovr [(3, .v (.string q9))] t) ∧ PinH o (ovh [] o)) ?_ ?_
  · refine w_block ?_
    refine w_loop2 (fun n t o => ∃ n12 v10 v11 , gl_laws_markText_1 n12 v10 v11 = some q9 ∧ n12 = n ∧ Pin t (ovr [(0, .v (.int .i64 v10)), (3, .v (.string v11))] t) ∧ PinH o (ovh [] o)) _ ⟨_, _, _, h19, rfl, pin, pinh⟩ ?_
    rintro n t o ⟨n12, v10, v11, h19, rfl, q1, q2⟩
    refine pinned q1 q2 ?_
    cases n12 with
    | zero => rw [gl_laws_markText_1] at h19; cases h19
    | succ n12 =>
      rw [gl_laws_markText_1] at h19
      refine go ?_; intros
      refine w_cond rfl (fun c => ?_) (fun c => ?_)
      · replace h19 := itt h19 c
        try rw [c]
        refine go ?_; intros
        refine r_bytes (xs := ([(IntKind.u8.wrap (IntKind.i64.wrap (48 + (Int.tmod v10 10))))] : (List Int))) rfl rfl (by first | rfl | simp) rfl ?_
        obtain ⟨x14, h15, h19⟩ := bnd h19
        refine go ?_; intros
        refine r_cat rfl rfl h15 ?_
        refine go ?_; intros
        exact k_ln2 _ (Nat.lt_succ_self _) ⟨_, _, _, h19, rfl, pin, pinh⟩
      replace h19 := itf h19 c
      try rw [c]
      refine go ?_; intros
      cases h19
      exact k_cn ⟨pin, pinh⟩
  rintro t o ⟨q1, q2⟩
  refine pinned q1 q2 ?_
  obtain ⟨x17, h18, h⟩ := bnd h
  refine go ?_; intros
  refine r_cat rfl rfl h18 ?_
  refine go ?_; intros
  cases h
  exact r_end
theorem d_laws_markPtS {G : Gam}  (a0 : (List Pt)) (a1 : Int) (r : (Int × (List Pt))) (h : gf_laws_markPtS a0 a1 = some r) : Does G if_laws_markPtS ks_laws_markPtS (c_laws_markPtS.args (a0, a1)) (c_laws_markPtS.ins (a0, a1)) (c_laws_markPtS.ans (a0, a1) r) := by
  refine does_pg (L := fun bs => [(0, .ref 0 (bs 0).1 (bs 0).2 0 a0.length 66), (1, .v (.int .i64 a1))]) (H := fun bs => [(0, ent (bs 0).1 (bs 0).2 66 (List.map ePt a0))]) (fun bs => pin) (fun bs => pinh) fun bs t o => ?_
  show vwp _ ib_laws_markPtS _ _
  unfold ib_laws_markPtS
  unfold gf_laws_markPtS at h
  obtain ⟨q16, h27, h⟩ := bnd h
  refine go ?_; intros
  refine w_last (fun t o => Pin t (ovr [(1, .v (.int .i64 q16.1))] t) ∧ PinH o (ovh [(0, ent (bs 0).1 (bs 0).2 66 (List.map ePt q16.2))] o)) ?_ ?_
  · refine w_loop2 (fun n t o => ∃ n20 v17 v18 v19 , gl_laws_markPtS_1 n20 v17 v18 v19 = some q16 ∧ n20 = n ∧ Pin t (ovr [(0, .ref 0 (bs 0).1 (bs 0).2 0 v19.length 66), (1, .v (.int .i64 v17)), (5, .v (.int .i64 v18))] t) ∧ PinH o (ovh [(0, ent (bs 0).1 (bs 0).2 66 (List.map ePt v19))] o)) _ ⟨_, _, _, _, h27, rfl, pin, pinh⟩ ?_
    rintro n t o ⟨n20, v17, v18, v19, h27, rfl, q1, q2⟩
    refine pinned q1 q2 ?_
    cases n20 with
    | zero => rw [gl_laws_markPtS_1] at h27; cases h27
    | succ n20 =>
      rw [gl_laws_markPtS_1] at h27
      refine go ?_; intros
      refine w_cond rfl (fun c => ?_) (fun c => ?_)
      · replace h27 := itt h27 c
        try rw [c]
        obtain ⟨x21, h22, h27⟩ := bnd h27
        refine go ?_; intros
        refine r_ire (xs := v19) rfl rfl h22 rfl ?_
        refine go ?_; intros
        refine c_ste (f := ePt) v19 (⟨v17, x21.y⟩ : Pt) (idx_get h22).2 ?_
        obtain ⟨x23, h24, h27⟩ := bnd h27
        refine go ?_; intros
        refine r_ire (xs := (List.set v19 v18.toNat (⟨v17, x21.y⟩ : Pt))) rfl rfl h24 rfl ?_
        refine go ?_; intros
        refine c_ste (f := ePt) (List.set v19 v18.toNat (⟨v17, x21.y⟩ : Pt)) (⟨x23.x, (IntKind.i64.wrap (v17 + 1))⟩ : Pt) (idx_get h24).2 ?_
        refine go ?_; intros
        exact k_ln2 _ (Nat.lt_succ_self _) ⟨_, _, _, _, h27, rfl, pin, pinh⟩
      replace h27 := itf h27 c
      try rw [c]
      refine go ?_; intros
      cases h27
      exact k_cn ⟨pin, pinh⟩
  rintro t o ⟨q1, q2⟩
  refine pinnedQ q1 q2 ?_
  refine go ?_; intros
  cases h
  exact r_endg
theorem d_laws_markTagS {G : Gam} (H_laws_markText : Has G c_laws_markText) (a0 : (List Tag)) (a1 : Int) (r : (Int × (List Tag))) (h : gf_laws_markTagS a0 a1 = some r) : Does G if_laws_markTagS ks_laws_markTagS (c_laws_markTagS.args (a0, a1)) (c_laws_markTagS.ins (a0, a1)) (c_laws_markTagS.ans (a0, a1) r) := by
  refine does_pg (L := fun bs => [(0, .ref 0 (bs 0).1 (bs 0).2 0 a0.length 82), (1, .v (.int .i64 a1))]) (H := fun bs => [(0, ent (bs 0).1 (bs 0).2 82 (List.map eTag a0))]) (fun bs => pin) (fun bs => pinh) fun bs t o => ?_
  show vwp _ ib_laws_markTagS _ _
  unfold ib_laws_markTagS
  unfold gf_laws_markTagS at h
  obtain ⟨q28, h43, h⟩ := bnd h
  refine go ?_; intros
  refine w_last (fun t o => Pin t (ovr [(1, .v (.int .i64 q28.1))] t) ∧ PinH o (ovh [(0, ent (bs 0).1 (bs 0).2 82 (List.map eTag q28.2))] o)) ?_ ?_
  · refine w_loop2 (fun n t o => ∃ n32 v29 v30 v31 , gl_laws_markTagS_1 n32 v29 v30 v31 = some q28 ∧ n32 = n ∧ Pin t (ovr [(0, .ref 0 (bs 0).1 (bs 0).2 0 v31.length 82), (1, .v (.int .i64 v29)), (5, .v (.int .i64 v30))] t) ∧ PinH o (ovh [(0, ent (bs 0).1 (bs 0).2 82 (List.map eTag v31))] o)) _ ⟨_, _, _, _, h43, rfl, pin, pinh⟩ ?_
    rintro n t o ⟨n32, v29, v30, v31, h43, rfl, q1, q2⟩
    refine pinned q1 q2 ?_
    cases n32 with
    | zero => rw [gl_laws_markTagS_1] at h43; cases h43
    | succ n32 =>
      rw [gl_laws_markTagS_1] at h43
      refine go ?_; intros
      refine w_cond rfl (fun c => ?_) (fun c => ?_)
      · replace h43 := itt h43 c
        try rw [c]
        obtain ⟨x33, h34, h43⟩ := bnd h43
        refine go ?_; intros
        refine c_call (c := c_laws_markText) (v29) H_laws_markText h34 fun ch => ?_
        obtain ⟨x35, h36, h43⟩ := bnd h43
        refine go ?_; intros
        refine r_ire (xs := v31) rfl rfl h36 rfl ?_
        refine go ?_; intros
        refine c_ste (f := eTag) v31 (⟨x33, x35.val⟩ : Tag) (idx_get h36).2 ?_
        obtain ⟨x37, h38, h43⟩ := bnd h43
        refine go ?_; intros
        refine c_call (c := c_laws_markText) ((IntKind.i64.wrap (v29 + 1))) H_laws_markText h38 fun ch => ?_
        obtain ⟨x39, h40, h43⟩ := bnd h43
        refine go ?_; intros
        refine r_ire (xs := (List.set v31 v30.toNat (⟨x33, x35.val⟩ : Tag))) rfl rfl h40 rfl ?_
        refine go ?_; intros
        refine c_ste (f := eTag) (List.set v31 v30.toNat (⟨x33, x35.val⟩ : Tag)) (⟨x39.key, x37⟩ : Tag) (idx_get h40).2 ?_
        refine go ?_; intros
        exact k_ln2 _ (Nat.lt_succ_self _) ⟨_, _, _, _, h43, rfl, pin, pinh⟩
      replace h43 := itf h43 c
      try rw [c]
      refine go ?_; intros
      cases h43
      exact k_cn ⟨pin, pinh⟩
  rintro t o ⟨q1, q2⟩
  refine pinnedQ q1 q2 ?_
  refine go ?_; intros
  cases h
  exact r_endg
end Go.Proofs.AM
