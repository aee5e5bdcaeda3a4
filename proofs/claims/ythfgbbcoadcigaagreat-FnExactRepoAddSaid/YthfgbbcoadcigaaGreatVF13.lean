/- A part of the proofs of this seat's statements (VF13): lemmas on an abstract machine for the program's functions. Conditions: none. -/
import Derived.Test.YthfgbbcoadcigaaGreatVD
set_option linter.unusedVariables false
set_option maxRecDepth 100000
set_option maxHeartbeats 4000000
namespace Go.Proofs.AM
attribute [local irreducible] vwp vstps vstpLs vstp vdo vret kseq kblk kloop kend kcut kloop2 frzV renV shutK
theorem d_laws_markCommitS {G : Gam} (H_laws_markIntS : Has G c_laws_markIntS) (H_laws_markFeatS : Has G c_laws_markFeatS) (H_laws_markText : Has G c_laws_markText) (a0 : (List Commit)) (a1 : Int) (r : (Int × (List Commit))) (h : gf_laws_markCommitS a0 a1 = some r) : Does G if_laws_markCommitS ks_laws_markCommitS (c_laws_markCommitS.args (a0, a1)) (c_laws_markCommitS.ins (a0, a1)) (c_laws_markCommitS.ans (a0, a1) r) := by
  refine does_pg (L := fun bs => [(0, .ref 0 (bs 0).1 (bs 0).2 0 a0.length 115), (1, .v (.int .i64 a1))]) (H := fun bs => [(0, ent (bs 0).1 (bs 0).2 115 (List.map (eCommit true) a0))]) (fun bs => pin) (fun bs => pinh) fun bs t o => ?_
  show vwp _ ib_laws_markCommitS _ _
  unfold ib_laws_markCommitS
  unfold gf_laws_markCommitS at h
  obtain ⟨q52, h75, h⟩ := bnd h
  refine go ?_; intros
  refine w_last (fun t o => Pin t (ovr [(1, .v (.int .i64 q52.1))] t) ∧ PinH o (ovh [(0, ent (bs 0).1 (bs 0).2 115 (List.map (eCommit true) q52.2))] o)) ?_ ?_
  · refine w_loop2 (fun n t o => ∃ n56 v53 v54 v55 , gl_laws_markCommitS_1 n56 v53 v54 v55 = some q52 ∧ n56 = n ∧ Pin t (ovr [(0, .ref 0 (bs 0).1 (bs 0).2 0 v55.length 115), (1, .v (.int .i64 v53)), (5, .v (.int .i64 v54))] t) ∧ PinH o (ovh [(0, ent (bs 0).1 (bs 0).2 115 (List.map (eCommit true) v55))] o)) _ ⟨_, _, _, _, h75, rfl, pin, pinh⟩ ?_
    rintro n t o ⟨n56, v53, v54, v55, h75, rfl, q1, q2⟩
    refine pinned q1 q2 ?_
    cases n56 with
    | zero => rw [gl_laws_markCommitS_1] at h75; cases h75
    | succ n56 =>
      rw [gl_laws_markCommitS_1] at h75
      refine go ?_; intros
      refine w_cond rfl (fun c => ?_) (fun c => ?_)
      · replace h75 := itt h75 c
        try rw [c]
        obtain ⟨x57, h58, h75⟩ := bnd h75
        refine go ?_; intros
        refine r_ire (xs := v55) rfl rfl h58 rfl ?_
        refine go ?_; intros
        refine r_lopg (f := (eCommit true)) (g := eInt) (xs := v55) (x := x57) (ys := x57.up) (idx_get h58).2 rfl rfl rfl fun b59 c60 => ?_
        refine go ?_; intros
        refine r_shut ?_
        obtain ⟨x61, h62, h75⟩ := bnd h75
        refine go ?_; intros
        have L62 := l_laws_markIntS h62; (try dsimp only at L62); refine c_callg (c := c_laws_markIntS) (x57.up, v53) H_laws_markIntS h62 fun ch => ?_
        refine go ?_; intros
        refine c_shg (f := (eCommit true)) (⟨x61.2, x57.sheet, x57.note⟩ : Commit) (idx_get h58).2 ?_
        obtain ⟨x63, h64, h75⟩ := bnd h75
        refine go ?_; intros
        refine r_ire (xs := (List.set v55 v54.toNat (⟨x61.2, x57.sheet, x57.note⟩ : Commit))) rfl rfl h64 rfl ?_
        refine go ?_; intros
        refine r_lopg (f := (eCommit true)) (g := (eFeat true)) (xs := (List.set v55 v54.toNat (⟨x61.2, x57.sheet, x57.note⟩ : Commit))) (x := x63) (ys := x63.sheet) (idx_get h64).2 rfl rfl rfl fun b65 c66 => ?_
        refine go ?_; intros
        refine r_shut ?_
        obtain ⟨x67, h68, h75⟩ := bnd h75
        refine go ?_; intros
        have L68 := l_laws_markFeatS h68; (try dsimp only at L68); refine c_callg (c := c_laws_markFeatS) (x63.sheet, x61.1) H_laws_markFeatS h68 fun ch => ?_
        refine go ?_; intros
        refine c_shg (f := (eCommit true)) (⟨x63.up, x67.2, x63.note⟩ : Commit) (idx_get h64).2 ?_
        obtain ⟨x69, h70, h75⟩ := bnd h75
        refine go ?_; intros
        refine c_call (c := c_laws_markText) (x67.1) H_laws_markText h70 fun ch => ?_
        obtain ⟨x71, h72, h75⟩ := bnd h75
        refine go ?_; intros
        refine r_ire (xs := (List.set (List.set v55 v54.toNat (⟨x61.2, x57.sheet, x57.note⟩ : Commit)) v54.toNat (⟨x63.up, x67.2, x63.note⟩ : Commit))) rfl rfl h72 rfl ?_
        refine go ?_; intros
        refine c_ste (f := (eCommit true)) (List.set (List.set v55 v54.toNat (⟨x61.2, x57.sheet, x57.note⟩ : Commit)) v54.toNat (⟨x63.up, x67.2, x63.note⟩ : Commit)) (⟨x71.up, x71.sheet, x69⟩ : Commit) (idx_get h72).2 ?_
        refine go ?_; intros
        exact k_ln2 _ (Nat.lt_succ_self _) ⟨_, _, _, _, h75, rfl, pin, pinh⟩
      replace h75 := itf h75 c
      try rw [c]
      refine go ?_; intros
      cases h75
      exact k_cn ⟨pin, pinh⟩
  rintro t o ⟨q1, q2⟩
  refine pinnedQ q1 q2 ?_
  refine go ?_; intros
  cases h
  exact r_endg
theorem d_laws_markHeadS {G : Gam} (H_laws_markText : Has G c_laws_markText) (a0 : (List Head)) (a1 : Int) (r : (Int × (List Head))) (h : gf_laws_markHeadS a0 a1 = some r) : Does G if_laws_markHeadS ks_laws_markHeadS (c_laws_markHeadS.args (a0, a1)) (c_laws_markHeadS.ins (a0, a1)) (c_laws_markHeadS.ans (a0, a1) r) := by
  refine does_pg (L := fun bs => [(0, .ref 0 (bs 0).1 (bs 0).2 0 a0.length 130), (1, .v (.int .i64 a1))]) (H := fun bs => [(0, ent (bs 0).1 (bs 0).2 130 (List.map eHead a0))]) (fun bs => pin) (fun bs => pinh) fun bs t o => ?_
  show vwp _ ib_laws_markHeadS _ _
  unfold ib_laws_markHeadS
  unfold gf_laws_markHeadS at h
  obtain ⟨q22, h35, h⟩ := bnd h
  refine go ?_; intros
  refine w_last (fun t o => Pin t (ovr [(1, .v (.int .i64 q22.1))] t) ∧ PinH o (ovh [(0, ent (bs 0).1 (bs 0).2 130 (List.map eHead q22.2))] o)) ?_ ?_
  · refine w_loop2 (fun n t o => ∃ n26 v23 v24 v25 , gl_laws_markHeadS_1 n26 v23 v24 v25 = some q22 ∧ n26 = n ∧ Pin t (ovr [(0, .ref 0 (bs 0).1 (bs 0).2 0 v25.length 130), (1, .v (.int .i64 v23)), (5, .v (.int .i64 v24))] t) ∧ PinH o (ovh [(0, ent (bs 0).1 (bs 0).2 130 (List.map eHead v25))] o)) _ ⟨_, _, _, _, h35, rfl, pin, pinh⟩ ?_
    rintro n t o ⟨n26, v23, v24, v25, h35, rfl, q1, q2⟩
    refine pinned q1 q2 ?_
    cases n26 with
    | zero => rw [gl_laws_markHeadS_1] at h35; cases h35
    | succ n26 =>
      rw [gl_laws_markHeadS_1] at h35
      refine go ?_; intros
      refine w_cond rfl (fun c => ?_) (fun c => ?_)
      · replace h35 := itt h35 c
        try rw [c]
        obtain ⟨x27, h28, h35⟩ := bnd h35
        refine go ?_; intros
        refine c_call (c := c_laws_markText) (v23) H_laws_markText h28 fun ch => ?_
        obtain ⟨x29, h30, h35⟩ := bnd h35
        refine go ?_; intros
        refine r_ire (xs := v25) rfl rfl h30 rfl ?_
        refine go ?_; intros
        refine c_ste (f := eHead) v25 (⟨x27, x29.at_⟩ : Head) (idx_get h30).2 ?_
        obtain ⟨x31, h32, h35⟩ := bnd h35
        refine go ?_; intros
        refine r_ire (xs := (List.set v25 v24.toNat (⟨x27, x29.at_⟩ : Head))) rfl rfl h32 rfl ?_
        refine go ?_; intros
        refine c_ste (f := eHead) (List.set v25 v24.toNat (⟨x27, x29.at_⟩ : Head)) (⟨x31.name, (IntKind.i64.wrap (v23 + 1))⟩ : Head) (idx_get h32).2 ?_
        refine go ?_; intros
        exact k_ln2 _ (Nat.lt_succ_self _) ⟨_, _, _, _, h35, rfl, pin, pinh⟩
      replace h35 := itf h35 c
      try rw [c]
      refine go ?_; intros
      cases h35
      exact k_cn ⟨pin, pinh⟩
  rintro t o ⟨q1, q2⟩
  refine pinnedQ q1 q2 ?_
  refine go ?_; intros
  cases h
  exact r_endg
theorem d_laws_heldPtS {G : Gam}  (a0 : (List Pt)) (a1 : Int) (r : Int) (h : gf_laws_heldPtS a0 a1 = some r) : Does G if_laws_heldPtS ks_laws_heldPtS (c_laws_heldPtS.args (a0, a1)) [] (c_laws_heldPtS.ans (a0, a1) r) := by
  refine does_pn (L := [(0, .ro (List.map ePt a0)), (1, .v (.int .i64 a1))]) (fun bs => pin) fun bs t o => ?_
  show vwp _ ib_laws_heldPtS _ _
  unfold ib_laws_heldPtS
  unfold gf_laws_heldPtS at h
  obtain ⟨hf20, h⟩ := gd h
  obtain ⟨q9, h22, h⟩ := bnd h
  refine go ?_; intros
  refine w_last (fun t o => ∃ q9_, q9 = .inr q9_ ∧ Pin t (ovr [(1, .v (.int .i64 q9_))] t) ∧ PinH o (ovh [] o)) ?_ ?_
  · refine w_loop2 (fun n t o => ∃ l14 k12 v10 , gl_laws_heldPtS_1 l14 k12 v10 = some q9 ∧ n = l14.length ∧ (a0).drop k12 = l14 ∧ Pin t (ovr [(0, .ro (List.map ePt a0)), (1, .v (.int .i64 v10)), (5, .v (.int .i64 (k12 : Int)))] t) ∧ PinH o (ovh [] o)) _ ⟨_, _, _, h22, rfl, rfl, pin, pinh⟩ ?_
    rintro n t o ⟨l14, k12, v10, h22, rfl, hd15, q1, q2⟩
    refine pinned q1 q2 ?_
    cases l14 with
    | nil =>
      have hge17 := drop_ge hd15
      rw [gl_laws_heldPtS_1] at h22
      refine go ?_; intros
      rw [hge17]
      refine go ?_; intros
      cases h22
      exact k_cn ⟨_, rfl, pin, pinh⟩
    | cons x13 l14 =>
      have hlt16 := drop_lt hd15
      have hx18 := drop_ix hd15
      have hw19 := drop_wr hd15 hf20
      rw [gl_laws_heldPtS_1] at h22
      refine go ?_; intros
      rw [hlt16]
      refine go ?_; intros
      refine r_iro rfl rfl hx18 rfl ?_
      refine go ?_; intros
      refine w_cond rfl (fun c => ?_) (fun c => ?_)
      · replace h22 := itt h22 c
        try rw [c]
        refine go ?_; intros
        cases h22
        replace h : some _ = some _ := h
        cases h
        exact r_end
      replace h22 := itf h22 c
      try rw [c]
      refine go ?_; intros
      refine r_iro rfl rfl hx18 rfl ?_
      refine go ?_; intros
      refine w_cond rfl (fun c => ?_) (fun c => ?_)
      · replace h22 := itt h22 c
        try rw [c]
        refine go ?_; intros
        cases h22
        replace h : some _ = some _ := h
        cases h
        exact r_end
      replace h22 := itf h22 c
      try rw [c]
      refine go ?_; intros
      rw [hw19]
      exact k_ln2 _ (Nat.lt_succ_self _) ⟨_, _, _, h22, rfl, drop_next hd15, pin, pinh⟩
  rintro t o ⟨q9, rfl, q1, q2⟩
  refine pinnedQ q1 q2 ?_
  refine go ?_; intros
  cases h
  exact r_end
theorem d_laws_heldTagS {G : Gam} (H_laws_markText : Has G c_laws_markText) (a0 : (List Tag)) (a1 : Int) (r : Int) (h : gf_laws_heldTagS a0 a1 = some r) : Does G if_laws_heldTagS ks_laws_heldTagS (c_laws_heldTagS.args (a0, a1)) [] (c_laws_heldTagS.ans (a0, a1) r) := by
  refine does_pn (L := [(0, .ro (List.map eTag a0)), (1, .v (.int .i64 a1))]) (fun bs => pin) fun bs t o => ?_
  show vwp _ ib_laws_heldTagS _ _
  unfold ib_laws_heldTagS
  unfold gf_laws_heldTagS at h
  obtain ⟨hf32, h⟩ := gd h
  obtain ⟨q21, h38, h⟩ := bnd h
  refine go ?_; intros
  refine w_last (fun t o => ∃ q21_, q21 = .inr q21_ ∧ Pin t (ovr [(1, .v (.int .i64 q21_))] t) ∧ PinH o (ovh [] o)) ?_ ?_
  · refine w_loop2 (fun n t o => ∃ l26 k24 v22 , gl_laws_heldTagS_1 l26 k24 v22 = some q21 ∧ n = l26.length ∧ (a0).drop k24 = l26 ∧ Pin t (ovr [(0, .ro (List.map eTag a0)), (1, .v (.int .i64 v22)), (5, .v (.int .i64 (k24 : Int)))] t) ∧ PinH o (ovh [] o)) _ ⟨_, _, _, h38, rfl, rfl, pin, pinh⟩ ?_
    rintro n t o ⟨l26, k24, v22, h38, rfl, hd27, q1, q2⟩
    refine pinned q1 q2 ?_
    cases l26 with
    | nil =>
      have hge29 := drop_ge hd27
      rw [gl_laws_heldTagS_1] at h38
      refine go ?_; intros
      rw [hge29]
      refine go ?_; intros
      cases h38
      exact k_cn ⟨_, rfl, pin, pinh⟩
    | cons x25 l26 =>
      have hlt28 := drop_lt hd27
      have hx30 := drop_ix hd27
      have hw31 := drop_wr hd27 hf32
      rw [gl_laws_heldTagS_1] at h38
      refine go ?_; intros
      rw [hlt28]
      refine go ?_; intros
      refine r_iro rfl rfl hx30 rfl ?_
      obtain ⟨x33, h34, h38⟩ := bnd h38
      refine go ?_; intros
      refine c_call (c := c_laws_markText) (v22) H_laws_markText h34 fun ch => ?_
      refine go ?_; intros
      refine w_cond rfl (fun c => ?_) (fun c => ?_)
      · replace h38 := itt h38 c
        try rw [c]
        refine go ?_; intros
        cases h38
        replace h : some _ = some _ := h
        cases h
        exact r_end
      replace h38 := itf h38 c
      try rw [c]
      refine go ?_; intros
      refine r_iro rfl rfl hx30 rfl ?_
      obtain ⟨x35, h36, h38⟩ := bnd h38
      refine go ?_; intros
      refine c_call (c := c_laws_markText) ((IntKind.i64.wrap (v22 + 1))) H_laws_markText h36 fun ch => ?_
      refine go ?_; intros
      refine w_cond rfl (fun c => ?_) (fun c => ?_)
      · replace h38 := itt h38 c
        try rw [c]
        refine go ?_; intros
        cases h38
        replace h : some _ = some _ := h
        cases h
        exact r_end
      replace h38 := itf h38 c
      try rw [c]
      refine go ?_; intros
      rw [hw31]
      exact k_ln2 _ (Nat.lt_succ_self _) ⟨_, _, _, h38, rfl, drop_next hd27, pin, pinh⟩
  rintro t o ⟨q21, rfl, q1, q2⟩
  refine pinnedQ q1 q2 ?_
  refine go ?_; intros
  cases h
  exact r_end
theorem d_laws_heldIntS {G : Gam}  (a0 : (List Int)) (a1 : Int) (r : Int) (h : gf_laws_heldIntS a0 a1 = some r) : Does G if_laws_heldIntS ks_laws_heldIntS (c_laws_heldIntS.args (a0, a1)) [] (c_laws_heldIntS.ans (a0, a1) r) := by
  refine does_pn (L := [(0, .ro (List.map eInt a0)), (1, .v (.int .i64 a1))]) (fun bs => pin) fun bs t o => ?_
  show vwp _ ib_laws_heldIntS _ _
  unfold ib_laws_heldIntS
  unfold gf_laws_heldIntS at h
  obtain ⟨hf22, h⟩ := gd h
  obtain ⟨q11, h24, h⟩ := bnd h
  refine go ?_; intros
  refine w_last (fun t o => ∃ q11_, q11 = .inr q11_ ∧ Pin t (ovr [(1, .v (.int .i64 q11_))] t) ∧ PinH o (ovh [] o)) ?_ ?_
  · refine w_loop2 (fun n t o => ∃ l16 k14 v12 , gl_laws_heldIntS_1 l16 k14 v12 = some q11 ∧ n = l16.length ∧ (a0).drop k14 = l16 ∧ Pin t (ovr [(0, .ro (List.map eInt a0)), (1, .v (.int .i64 v12)), (5, .v (.int .i64 (k14 : Int)))] t) ∧ PinH o (ovh [] o)) _ ⟨_, _, _, h24, rfl, rfl, pin, pinh⟩ ?_
    rintro n t o ⟨l16, k14, v12, h24, rfl, hd17, q1, q2⟩
    refine pinned q1 q2 ?_
    cases l16 with
    | nil =>
      have hge19 := drop_ge hd17
      rw [gl_laws_heldIntS_1] at h24
      refine go ?_; intros
      rw [hge19]
      refine go ?_; intros
      cases h24
      exact k_cn ⟨_, rfl, pin, pinh⟩
    | cons x15 l16 =>
      have hlt18 := drop_lt hd17
      have hx20 := drop_ix hd17
      have hw21 := drop_wr hd17 hf22
      rw [gl_laws_heldIntS_1] at h24
      refine go ?_; intros
      rw [hlt18]
      refine go ?_; intros
      refine r_iro rfl rfl hx20 rfl ?_
      refine go ?_; intros
      refine w_cond rfl (fun c => ?_) (fun c => ?_)
      · replace h24 := itt h24 c
        try rw [c]
        refine go ?_; intros
        cases h24
        replace h : some _ = some _ := h
        cases h
        exact r_end
      replace h24 := itf h24 c
      try rw [c]
      refine go ?_; intros
      rw [hw21]
      exact k_ln2 _ (Nat.lt_succ_self _) ⟨_, _, _, h24, rfl, drop_next hd17, pin, pinh⟩
  rintro t o ⟨q11, rfl, q1, q2⟩
  refine pinnedQ q1 q2 ?_
  refine go ?_; intros
  cases h
  exact r_end
theorem d_laws_heldFeatS {G : Gam} (H_laws_markText : Has G c_laws_markText) (H_laws_heldPtS : Has G c_laws_heldPtS) (H_laws_heldTagS : Has G c_laws_heldTagS) (a0 : (List Feat)) (a1 : Int) (r : Int) (h : gf_laws_heldFeatS a0 a1 = some r) : Does G if_laws_heldFeatS ks_laws_heldFeatS (c_laws_heldFeatS.args (a0, a1)) [] (c_laws_heldFeatS.ans (a0, a1) r) := by
  refine does_pn (L := [(0, .ro (List.map (eFeat false) a0)), (1, .v (.int .i64 a1))]) (fun bs => pin) fun bs t o => ?_
  show vwp _ ib_laws_heldFeatS _ _
  unfold ib_laws_heldFeatS
  unfold gf_laws_heldFeatS at h
  obtain ⟨hf38, h⟩ := gd h
  obtain ⟨q27, h46, h⟩ := bnd h
  refine go ?_; intros
  refine w_last (fun t o => ∃ q27_, q27 = .inr q27_ ∧ Pin t (ovr [(1, .v (.int .i64 q27_))] t) ∧ PinH o (ovh [] o)) ?_ ?_
  · refine w_loop2 (fun n t o => ∃ l32 k30 v28 , gl_laws_heldFeatS_1 l32 k30 v28 = some q27 ∧ n = l32.length ∧ (a0).drop k30 = l32 ∧ Pin t (ovr [(0, .ro (List.map (eFeat false) a0)), (1, .v (.int .i64 v28)), (5, .v (.int .i64 (k30 : Int)))] t) ∧ PinH o (ovh [] o)) _ ⟨_, _, _, h46, rfl, rfl, pin, pinh⟩ ?_
    rintro n t o ⟨l32, k30, v28, h46, rfl, hd33, q1, q2⟩
    refine pinned q1 q2 ?_
    cases l32 with
    | nil =>
      have hge35 := drop_ge hd33
      rw [gl_laws_heldFeatS_1] at h46
      refine go ?_; intros
      rw [hge35]
      refine go ?_; intros
      cases h46
      exact k_cn ⟨_, rfl, pin, pinh⟩
    | cons x31 l32 =>
      have hlt34 := drop_lt hd33
      have hx36 := drop_ix hd33
      have hw37 := drop_wr hd33 hf38
      rw [gl_laws_heldFeatS_1] at h46
      refine go ?_; intros
      rw [hlt34]
      refine go ?_; intros
      refine r_iro rfl rfl hx36 rfl ?_
      obtain ⟨x39, h40, h46⟩ := bnd h46
      refine go ?_; intros
      refine c_call (c := c_laws_markText) (v28) H_laws_markText h40 fun ch => ?_
      refine go ?_; intros
      refine w_cond rfl (fun c => ?_) (fun c => ?_)
      · replace h46 := itt h46 c
        try rw [c]
        refine go ?_; intros
        cases h46
        replace h : some _ = some _ := h
        cases h
        exact r_end
      replace h46 := itf h46 c
      try rw [c]
      refine go ?_; intros
      refine r_iro rfl rfl hx36 rfl ?_
      refine go ?_; intros
      refine w_cond rfl (fun c => ?_) (fun c => ?_)
      · replace h46 := itt h46 c
        try rw [c]
        refine go ?_; intros
        cases h46
        replace h : some _ = some _ := h
        cases h
        exact r_end
      replace h46 := itf h46 c
      try rw [c]
      refine go ?_; intros
      refine r_iro rfl rfl hx36 rfl ?_
      obtain ⟨x41, h42, h46⟩ := bnd h46
      refine go ?_; intros
      refine c_call (c := c_laws_heldPtS) (x31.shape.pts, (IntKind.i64.wrap ((IntKind.i64.wrap (v28 + 1)) + 1))) H_laws_heldPtS h42 fun ch => ?_
      refine go ?_; intros
      refine w_cond rfl (fun c => ?_) (fun c => ?_)
      · replace h46 := itt h46 c
        try rw [c]
        refine go ?_; intros
        cases h46
        replace h : some _ = some _ := h
        cases h
        exact r_end
      replace h46 := itf h46 c
      try rw [c]
      refine go ?_; intros
      refine r_iro rfl rfl hx36 rfl ?_
      obtain ⟨x43, h44, h46⟩ := bnd h46
      refine go ?_; intros
      refine c_call (c := c_laws_heldTagS) (x31.tags, x41) H_laws_heldTagS h44 fun ch => ?_
      refine go ?_; intros
      refine w_cond rfl (fun c => ?_) (fun c => ?_)
      · replace h46 := itt h46 c
        try rw [c]
        refine go ?_; intros
        cases h46
        replace h : some _ = some _ := h
        cases h
        exact r_end
      replace h46 := itf h46 c
      try rw [c]
      refine go ?_; intros
      rw [hw37]
      exact k_ln2 _ (Nat.lt_succ_self _) ⟨_, _, _, h46, rfl, drop_next hd33, pin, pinh⟩
  rintro t o ⟨q27, rfl, q1, q2⟩
  refine pinnedQ q1 q2 ?_
  refine go ?_; intros
  cases h
  exact r_end
end Go.Proofs.AM
