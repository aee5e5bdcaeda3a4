/- A part of the proofs of this seat's statements (VF12): lemmas on an abstract machine for the program's functions. Conditions: none. -/
import Derived.Test.YthfgbbcoadcigaaGreatVD
set_option linter.unusedVariables false
set_option maxRecDepth 100000
set_option maxHeartbeats 4000000
namespace Go.Proofs.AM
attribute [local irreducible] vwp vstps vstpLs vstp vdo vret kseq kblk kloop kend kcut kloop2 frzV renV shutK
theorem d_laws_markText {G : Gam}  (a0 : Int) (r : Str) (h : gf_laws_markText a0 = some r) : Does G if_laws_markText ks_laws_markText (c_laws_markText.args (a0)) [] (c_laws_markText.ans (a0) r) := by
  refine does_pn (L := [(0, .v (.int .i64 a0))]) (fun bs => pin) fun bs t o => ?_
  show vwp _ ib_laws_markText _ _
  unfold ib_laws_markText
  unfold gf_laws_markText at h
  refine go ?_; intros
  refine w_cond rfl (fun c => ?_) (fun c => ?_)
  · replace h := itt h c
    try rw [c]
    refine go ?_; intros
    cases h
    exact r_end
  replace h := itf h c
  try rw [c]
  obtain ⟨q9, h19, h⟩ := bnd h
  refine go ?_; intros
  refine w_cut (fun t o => Pin t (ovr [(3, .v (.string q9))] t) ∧ PinH o (ovh [] o)) ?_ ?_
  · refine w_block ?_
    refine w_loop2 (fun n t o => ∃ n12 v10 v11 , gl_laws_markText_1 n12 v10 v11 = some q9 ∧ n12 = n ∧ Pin t (ovr [(0, .v (.int .i64 v10)), (3, .v (.string v11))] t) ∧ PinH o (ovh [] o)) _ ⟨_, _, _, h19, rfl, pin, pinh⟩ ?_
    rintro n t o ⟨n12, v10, v11, h19, rfl, q1, q2⟩
    refine pinned q1 q2 ?_
    cases n12 with
    | zero => rw [gl_laws_markText_1] at h19; cases h19
    | succ n12 =>
      rw [gl_laws_markText_1] at h19
      refine go ?_; intros
      refine w_cond rfl (fun c => ?_) (fun c => ?_)
      · replace h19 := itt h19 c
        try rw [c]
        refine go ?_; intros
        refine r_bytes (xs := ([(IntKind.u8.wrap (IntKind.i64.wrap (48 + (Int.tmod v10 10))))] : (List Int))) rfl rfl (by first | rfl | simp) rfl ?_
        obtain ⟨x14, h15, h19⟩ := bnd h19
        refine go ?_; intros
        refine r_cat rfl rfl h15 ?_
        refine go ?_; intros
        exact k_ln2 _ (Nat.lt_succ_self _) ⟨_, _, _, h19, rfl, pin, pinh⟩
      replace h19 := itf h19 c
      try rw [c]
      refine go ?_; intros
      cases h19
      exact k_cn ⟨pin, pinh⟩
  rintro t o ⟨q1, q2⟩
  refine pinned q1 q2 ?_
  obtain ⟨x17, h18, h⟩ := bnd h
  refine go ?_; intros
  refine r_cat rfl rfl h18 ?_
  refine go ?_; intros
  cases h
  exact r_end
theorem d_laws_markPtS {G : Gam}  (a0 : (List Pt)) (a1 : Int) (r : (Int × (List Pt))) (h : gf_laws_markPtS a0 a1 = some r) : Does G if_laws_markPtS ks_laws_markPtS (c_laws_markPtS.args (a0, a1)) (c_laws_markPtS.ins (a0, a1)) (c_laws_markPtS.ans (a0, a1) r) := by
  refine does_pg (L := fun bs => [(0, .ref 0 (bs 0).1 (bs 0).2 0 a0.length 66), (1, .v (.int .i64 a1))]) (H := fun bs => [(0, ent (bs 0).1 (bs 0).2 66 (List.map ePt a0))]) (fun bs => pin) (fun bs => pinh) fun bs t o => ?_
  show vwp _ ib_laws_markPtS _ _
  unfold ib_laws_markPtS
  unfold gf_laws_markPtS at h
  obtain ⟨q16, h27, h⟩ := bnd h
  refine go ?_; intros
  refine w_last (fun t o => Pin t (ovr [(1, .v (.int .i64 q16.1))] t) ∧ PinH o (ovh [(0, ent (bs 0).1 (bs 0).2 66 (List.map ePt q16.2))] o)) ?_ ?_
  · refine w_loop2 (fun n t o => ∃ n20 v17 v18 v19 , gl_laws_markPtS_1 n20 v17 v18 v19 = some q16 ∧ n20 = n ∧ Pin t (ovr [(0, .ref 0 (bs 0).1 (bs 0).2 0 v19.length 66), (1, .v (.int .i64 v17)), (5, .v (.int .i64 v18))] t) ∧ PinH o (ovh [(0, ent (bs 0).1 (bs 0).2 66 (List.map ePt v19))] o)) _ ⟨_, _, _, _, h27, rfl, pin, pinh⟩ ?_
    rintro n t o ⟨n20, v17, v18, v19, h27, rfl, q1, q2⟩
    refine pinned q1 q2 ?_
    cases n20 with
    | zero => rw [gl_laws_markPtS_1] at h27; cases h27
    | succ n20 =>
      rw [gl_laws_markPtS_1] at h27
      refine go ?_; intros
      refine w_cond rfl (fun c => ?_) (fun c => ?_)
      · replace h27 := itt h27 c
        try rw [c]
        obtain ⟨x21, h22, h27⟩ := bnd h27
        refine go ?_; intros
        refine r_ire (xs := v19) rfl rfl h22 rfl ?_
        refine go ?_; intros
        refine c_ste (f := ePt) v19 (⟨v17, x21.y⟩ : Pt) (idx_get h22).2 ?_
        obtain ⟨x23, h24, h27⟩ := bnd h27
        refine go ?_; intros
        refine r_ire (xs := (List.set v19 v18.toNat (⟨v17, x21.y⟩ : Pt))) rfl rfl h24 rfl ?_
        refine go ?_; intros
        refine c_ste (f := ePt) (List.set v19 v18.toNat (⟨v17, x21.y⟩ : Pt)) (⟨x23.x, (IntKind.i64.wrap (v17 + 1))⟩ : Pt) (idx_get h24).2 ?_
        refine go ?_; intros
        exact k_ln2 _ (Nat.lt_succ_self _) ⟨_, _, _, _, h27, rfl, pin, pinh⟩
      replace h27 := itf h27 c
      try rw [c]
      refine go ?_; intros
      cases h27
      exact k_cn ⟨pin, pinh⟩
  rintro t o ⟨q1, q2⟩
  refine pinnedQ q1 q2 ?_
  refine go ?_; intros
  cases h
  exact r_endg
theorem d_laws_markTagS {G : Gam} (H_laws_markText : Has G c_laws_markText) (a0 : (List Tag)) (a1 : Int) (r : (Int × (List Tag))) (h : gf_laws_markTagS a0 a1 = some r) : Does G if_laws_markTagS ks_laws_markTagS (c_laws_markTagS.args (a0, a1)) (c_laws_markTagS.ins (a0, a1)) (c_laws_markTagS.ans (a0, a1) r) := by
  refine does_pg (L := fun bs => [(0, .ref 0 (bs 0).1 (bs 0).2 0 a0.length 82), (1, .v (.int .i64 a1))]) (H := fun bs => [(0, ent (bs 0).1 (bs 0).2 82 (List.map eTag a0))]) (fun bs => pin) (fun bs => pinh) fun bs t o => ?_
  show vwp _ ib_laws_markTagS _ _
  unfold ib_laws_markTagS
  unfold gf_laws_markTagS at h
  obtain ⟨q28, h43, h⟩ := bnd h
  refine go ?_; intros
  refine w_last (fun t o => Pin t (ovr [(1, .v (.int .i64 q28.1))] t) ∧ PinH o (ovh [(0, ent (bs 0).1 (bs 0).2 82 (List.map eTag q28.2))] o)) ?_ ?_
  · refine w_loop2 (fun n t o => ∃ n32 v29 v30 v31 , gl_laws_markTagS_1 n32 v29 v30 v31 = some q28 ∧ n32 = n ∧ Pin t (ovr [(0, .ref 0 (bs 0).1 (bs 0).2 0 v31.length 82), (1, .v (.int .i64 v29)), (5, .v (.int .i64 v30))] t) ∧ PinH o (ovh [(0, ent (bs 0).1 (bs 0).2 82 (List.map eTag v31))] o)) _ ⟨_, _, _, _, h43, rfl, pin, pinh⟩ ?_
    rintro n t o ⟨n32, v29, v30, v31, h43, rfl, q1, q2⟩
    refine pinned q1 q2 ?_
    cases n32 with
    | zero => rw [gl_laws_markTagS_1] at h43; cases h43
    | succ n32 =>
      rw [gl_laws_markTagS_1] at h43
      refine go ?_; intros
      refine w_cond rfl (fun c => ?_) (fun c => ?_)
      · replace h43 := itt h43 c
        try rw [c]
        obtain ⟨x33, h34, h43⟩ := bnd h43
        refine go ?_; intros
        refine c_call (c := c_laws_markText) (v29) H_laws_markText h34 fun ch => ?_
        obtain ⟨x35, h36, h43⟩ := bnd h43
        refine go ?_; intros
        refine r_ire (xs := v31) rfl rfl h36 rfl ?_
        refine go ?_; intros
        refine c_ste (f := eTag) v31 (⟨x33, x35.val⟩ : Tag) (idx_get h36).2 ?_
        obtain ⟨x37, h38, h43⟩ := bnd h43
        refine go ?_; intros
        refine c_call (c := c_laws_markText) ((IntKind.i64.wrap (v29 + 1))) H_laws_markText h38 fun ch => ?_
        obtain ⟨x39, h40, h43⟩ := bnd h43
        refine go ?_; intros
        refine r_ire (xs := (List.set v31 v30.toNat (⟨x33, x35.val⟩ : Tag))) rfl rfl h40 rfl ?_
        refine go ?_; intros
        refine c_ste (f := eTag) (List.set v31 v30.toNat (⟨x33, x35.val⟩ : Tag)) (⟨x39.key, x37⟩ : Tag) (idx_get h40).2 ?_
        refine go ?_; intros
        exact k_ln2 _ (Nat.lt_succ_self _) ⟨_, _, _, _, h43, rfl, pin, pinh⟩
      replace h43 := itf h43 c
      try rw [c]
      refine go ?_; intros
      cases h43
      exact k_cn ⟨pin, pinh⟩
  rintro t o ⟨q1, q2⟩
  refine pinnedQ q1 q2 ?_
  refine go ?_; intros
  cases h
  exact r_endg
theorem d_laws_markIntS {G : Gam}  (a0 : (List Int)) (a1 : Int) (r : (Int × (List Int))) (h : gf_laws_markIntS a0 a1 = some r) : Does G if_laws_markIntS ks_laws_markIntS (c_laws_markIntS.args (a0, a1)) (c_laws_markIntS.ins (a0, a1)) (c_laws_markIntS.ans (a0, a1) r) := by
  refine does_pg (L := fun bs => [(0, .ref 0 (bs 0).1 (bs 0).2 0 a0.length 17), (1, .v (.int .i64 a1))]) (H := fun bs => [(0, ent (bs 0).1 (bs 0).2 17 (List.map eInt a0))]) (fun bs => pin) (fun bs => pinh) fun bs t o => ?_
  show vwp _ ib_laws_markIntS _ _
  unfold ib_laws_markIntS
  unfold gf_laws_markIntS at h
  obtain ⟨q12, h21, h⟩ := bnd h
  refine go ?_; intros
  refine w_last (fun t o => Pin t (ovr [(1, .v (.int .i64 q12.1))] t) ∧ PinH o (ovh [(0, ent (bs 0).1 (bs 0).2 17 (List.map eInt q12.2))] o)) ?_ ?_
  · refine w_loop2 (fun n t o => ∃ n16 v13 v14 v15 , gl_laws_markIntS_1 n16 v13 v14 v15 = some q12 ∧ n16 = n ∧ Pin t (ovr [(0, .ref 0 (bs 0).1 (bs 0).2 0 v15.length 17), (1, .v (.int .i64 v13)), (5, .v (.int .i64 v14))] t) ∧ PinH o (ovh [(0, ent (bs 0).1 (bs 0).2 17 (List.map eInt v15))] o)) _ ⟨_, _, _, _, h21, rfl, pin, pinh⟩ ?_
    rintro n t o ⟨n16, v13, v14, v15, h21, rfl, q1, q2⟩
    refine pinned q1 q2 ?_
    cases n16 with
    | zero => rw [gl_laws_markIntS_1] at h21; cases h21
    | succ n16 =>
      rw [gl_laws_markIntS_1] at h21
      refine go ?_; intros
      refine w_cond rfl (fun c => ?_) (fun c => ?_)
      · replace h21 := itt h21 c
        try rw [c]
        obtain ⟨x17, h18, h21⟩ := bnd h21
        refine go ?_; intros
        refine r_ire (xs := v15) rfl rfl h18 rfl ?_
        refine go ?_; intros
        refine c_ste (f := eInt) v15 v13 (idx_get h18).2 ?_
        refine go ?_; intros
        exact k_ln2 _ (Nat.lt_succ_self _) ⟨_, _, _, _, h21, rfl, pin, pinh⟩
      replace h21 := itf h21 c
      try rw [c]
      refine go ?_; intros
      cases h21
      exact k_cn ⟨pin, pinh⟩
  rintro t o ⟨q1, q2⟩
  refine pinnedQ q1 q2 ?_
  refine go ?_; intros
  cases h
  exact r_endg
theorem d_laws_markFeatS {G : Gam} (H_laws_markText : Has G c_laws_markText) (H_laws_markPtS : Has G c_laws_markPtS) (H_laws_markTagS : Has G c_laws_markTagS) (a0 : (List Feat)) (a1 : Int) (r : (Int × (List Feat))) (h : gf_laws_markFeatS a0 a1 = some r) : Does G if_laws_markFeatS ks_laws_markFeatS (c_laws_markFeatS.args (a0, a1)) (c_laws_markFeatS.ins (a0, a1)) (c_laws_markFeatS.ans (a0, a1) r) := by
  refine does_pg (L := fun bs => [(0, .ref 0 (bs 0).1 (bs 0).2 0 a0.length 100), (1, .v (.int .i64 a1))]) (H := fun bs => [(0, ent (bs 0).1 (bs 0).2 100 (List.map (eFeat true) a0))]) (fun bs => pin) (fun bs => pinh) fun bs t o => ?_
  show vwp _ ib_laws_markFeatS _ _
  unfold ib_laws_markFeatS
  unfold gf_laws_markFeatS at h
  obtain ⟨q58, h83, h⟩ := bnd h
  refine go ?_; intros
  refine w_last (fun t o => Pin t (ovr [(1, .v (.int .i64 q58.1))] t) ∧ PinH o (ovh [(0, ent (bs 0).1 (bs 0).2 100 (List.map (eFeat true) q58.2))] o)) ?_ ?_
  · refine w_loop2 (fun n t o => ∃ n62 v59 v60 v61 , gl_laws_markFeatS_1 n62 v59 v60 v61 = some q58 ∧ n62 = n ∧ Pin t (ovr [(0, .ref 0 (bs 0).1 (bs 0).2 0 v61.length 100), (1, .v (.int .i64 v59)), (5, .v (.int .i64 v60))] t) ∧ PinH o (ovh [(0, ent (bs 0).1 (bs 0).2 100 (List.map (eFeat true) v61))] o)) _ ⟨_, _, _, _, h83, rfl, pin, pinh⟩ ?_
    rintro n t o ⟨n62, v59, v60, v61, h83, rfl, q1, q2⟩
    refine pinned q1 q2 ?_
    cases n62 with
    | zero => rw [gl_laws_markFeatS_1] at h83; cases h83
    | succ n62 =>
      rw [gl_laws_markFeatS_1] at h83
      refine go ?_; intros
      refine w_cond rfl (fun c => ?_) (fun c => ?_)
      · replace h83 := itt h83 c
        try rw [c]
        obtain ⟨x63, h64, h83⟩ := bnd h83
        refine go ?_; intros
        refine c_call (c := c_laws_markText) (v59) H_laws_markText h64 fun ch => ?_
        obtain ⟨x65, h66, h83⟩ := bnd h83
        refine go ?_; intros
        refine r_ire (xs := v61) rfl rfl h66 rfl ?_
        refine go ?_; intros
        refine c_ste (f := (eFeat true)) v61 (⟨x63, x65.shape, x65.tags⟩ : Feat) (idx_get h66).2 ?_
        obtain ⟨x67, h68, h83⟩ := bnd h83
        refine go ?_; intros
        refine r_ire (xs := (List.set v61 v60.toNat (⟨x63, x65.shape, x65.tags⟩ : Feat))) rfl rfl h68 rfl ?_
        refine go ?_; intros
        refine c_ste (f := (eFeat true)) (List.set v61 v60.toNat (⟨x63, x65.shape, x65.tags⟩ : Feat)) (⟨x67.id, ⟨(IntKind.i64.wrap (v59 + 1)), x67.shape.pts⟩, x67.tags⟩ : Feat) (idx_get h68).2 ?_
        obtain ⟨x69, h70, h83⟩ := bnd h83
        refine go ?_; intros
        refine r_ire (xs := (List.set (List.set v61 v60.toNat (⟨x63, x65.shape, x65.tags⟩ : Feat)) v60.toNat (⟨x67.id, ⟨(IntKind.i64.wrap (v59 + 1)), x67.shape.pts⟩, x67.tags⟩ : Feat))) rfl rfl h70 rfl ?_
        refine go ?_; intros
        refine r_lopg (f := (eFeat true)) (g := ePt) (xs := (List.set (List.set v61 v60.toNat (⟨x63, x65.shape, x65.tags⟩ : Feat)) v60.toNat (⟨x67.id, ⟨(IntKind.i64.wrap (v59 + 1)), x67.shape.pts⟩, x67.tags⟩ : Feat))) (x := x69) (ys := x69.shape.pts) (idx_get h70).2 rfl rfl rfl fun b71 c72 => ?_
        refine go ?_; intros
        refine r_shut ?_
        obtain ⟨x73, h74, h83⟩ := bnd h83
        refine go ?_; intros
        have L74 := l_laws_markPtS h74; (try dsimp only at L74); refine c_callg (c := c_laws_markPtS) (x69.shape.pts, (IntKind.i64.wrap ((IntKind.i64.wrap (v59 + 1)) + 1))) H_laws_markPtS h74 fun ch => ?_
        refine go ?_; intros
        refine c_shg (f := (eFeat true)) (⟨x69.id, ⟨x69.shape.kind, x73.2⟩, x69.tags⟩ : Feat) (idx_get h70).2 ?_
        obtain ⟨x75, h76, h83⟩ := bnd h83
        refine go ?_; intros
        refine r_ire (xs := (List.set (List.set (List.set v61 v60.toNat (⟨x63, x65.shape, x65.tags⟩ : Feat)) v60.toNat (⟨x67.id, ⟨(IntKind.i64.wrap (v59 + 1)), x67.shape.pts⟩, x67.tags⟩ : Feat)) v60.toNat (⟨x69.id, ⟨x69.shape.kind, x73.2⟩, x69.tags⟩ : Feat))) rfl rfl h76 rfl ?_
        refine go ?_; intros
        refine r_lopg (f := (eFeat true)) (g := eTag) (xs := (List.set (List.set (List.set v61 v60.toNat (⟨x63, x65.shape, x65.tags⟩ : Feat)) v60.toNat (⟨x67.id, ⟨(IntKind.i64.wrap (v59 + 1)), x67.shape.pts⟩, x67.tags⟩ : Feat)) v60.toNat (⟨x69.id, ⟨x69.shape.kind, x73.2⟩, x69.tags⟩ : Feat))) (x := x75) (ys := x75.tags) (idx_get h76).2 rfl rfl rfl fun b77 c78 => ?_
        refine go ?_; intros
        refine r_shut ?_
        obtain ⟨x79, h80, h83⟩ := bnd h83
        refine go ?_; intros
        have L80 := l_laws_markTagS h80; (try dsimp only at L80); refine c_callg (c := c_laws_markTagS) (x75.tags, x73.1) H_laws_markTagS h80 fun ch => ?_
        refine go ?_; intros
        refine c_shg (f := (eFeat true)) (⟨x75.id, x75.shape, x79.2⟩ : Feat) (idx_get h76).2 ?_
        refine go ?_; intros
        exact k_ln2 _ (Nat.lt_succ_self _) ⟨_, _, _, _, h83, rfl, pin, pinh⟩
      replace h83 := itf h83 c
      try rw [c]
      refine go ?_; intros
      cases h83
      exact k_cn ⟨pin, pinh⟩
  rintro t o ⟨q1, q2⟩
  refine pinnedQ q1 q2 ?_
  refine go ?_; intros
  cases h
  exact r_endg
end Go.Proofs.AM
