/- A part of the proof of 'FnExactPackSizeSaid' (PsF2): lemmas on an abstract machine for the program's functions. Conditions: none. -/
import Derived.Test.YthimhbjbpeheoaaPsD
set_option linter.unusedVariables false
set_option maxRecDepth 100000
set_option maxHeartbeats 4000000
namespace Go.Proofs.AM
attribute [local irreducible] vwp vstps vstpLs vstp vdo vret kseq kblk kloop kend kcut kloop2 frzV renV
theorem d_laws_szChangeS {G : Gam} (H_laws_szChange : Has G c_laws_szChange) (a0 : (List Change)) (a1 : Int) (r : Int) (h : gf_laws_szChangeS a0 a1 = some r) : Does G if_laws_szChangeS ks_laws_szChangeS (c_laws_szChangeS.args (a0, a1)) [] (c_laws_szChangeS.ans r) := by
  refine does_pn (L := [(0, .ro (List.map (eChange false) a0)), (1, .v (.int .i64 a1))]) (fun bs => pin) fun bs t o => ?_
  show vwp _ ib_laws_szChangeS _ _
  unfold ib_laws_szChangeS
  unfold gf_laws_szChangeS at h
  refine go ?_; intros
  refine w_cond rfl (fun c => ?_) (fun c => ?_)
  · replace h := itt h c
    try rw [c]
    refine go ?_; intros
    cases h
    exact r_end
  replace h := itf h c
  try rw [c]
  obtain ⟨hf26, h⟩ := gd h
  obtain ⟨q15, h30, h⟩ := bnd h
  refine go ?_; intros
  refine w_last (fun t o => ∃ q15_, q15 = .inr q15_ ∧ Pin t (ovr [(1, .v (.int .i64 q15_))] t) ∧ PinH o (ovh [] o)) ?_ ?_
  · refine w_loop2 (fun n t o => ∃ l20 k18 v16 , gl_laws_szChangeS_1 l20 k18 v16 = some q15 ∧ n = l20.length ∧ (a0).drop k18 = l20 ∧ Pin t (ovr [(0, .ro (List.map (eChange false) a0)), (1, .v (.int .i64 v16)), (5, .v (.int .i64 (k18 : Int)))] t) ∧ PinH o (ovh [] o)) _ ⟨_, _, _, h30, rfl, rfl, pin, pinh⟩ ?_
    rintro n t o ⟨l20, k18, v16, h30, rfl, hd21, q1, q2⟩
    refine pinned q1 q2 ?_
    cases l20 with
    | nil =>
      have hge23 := drop_ge hd21
      rw [gl_laws_szChangeS_1] at h30
      refine go ?_; intros
      rw [hge23]
      refine go ?_; intros
      cases h30
      exact k_cn ⟨_, rfl, pin, pinh⟩
    | cons x19 l20 =>
      have hlt22 := drop_lt hd21
      have hx24 := drop_ix hd21
      have hw25 := drop_wr hd21 hf26
      rw [gl_laws_szChangeS_1] at h30
      refine go ?_; intros
      rw [hlt22]
      refine go ?_; intros
      refine r_iro rfl rfl hx24 rfl ?_
      obtain ⟨x27, h28, h30⟩ := bnd h30
      refine go ?_; intros
      refine c_call (c := c_laws_szChange) (x19, v16) H_laws_szChange h28 fun ch => ?_
      refine go ?_; intros
      refine w_cond rfl (fun c => ?_) (fun c => ?_)
      · replace h30 := itt h30 c
        try rw [c]
        refine go ?_; intros
        cases h30
        replace h : some _ = some _ := h
        cases h
        exact r_end
      replace h30 := itf h30 c
      try rw [c]
      refine go ?_; intros
      rw [hw25]
      exact k_ln2 _ (Nat.lt_succ_self _) ⟨_, _, _, h30, rfl, drop_next hd21, pin, pinh⟩
  rintro t o ⟨q15, rfl, q1, q2⟩
  refine pinnedQ q1 q2 ?_
  refine go ?_; intros
  cases h
  exact r_end
theorem d_laws_szEntry {G : Gam} (H_laws_szIntS : Has G c_laws_szIntS) (H_laws_szChangeS : Has G c_laws_szChangeS) (a0 : Entry) (a1 : Int) (r : Int) (h : gf_laws_szEntry a0 a1 = some r) : Does G if_laws_szEntry ks_laws_szEntry (c_laws_szEntry.args (a0, a1)) [] (c_laws_szEntry.ans r) := by
  refine does_pn (L := [(0, .agg [.ro (List.map eInt a0.up), .v (.string a0.note), .ro (List.map (eChange false) a0.diff)]), (1, .v (.int .i64 a1))]) (fun bs => pin) fun bs t o => ?_
  show vwp _ ib_laws_szEntry _ _
  unfold ib_laws_szEntry
  unfold gf_laws_szEntry at h
  obtain ⟨x2, h3, h⟩ := bnd h
  refine go ?_; intros
  refine c_call (c := c_laws_szIntS) (a0.up, a1) H_laws_szIntS h3 fun ch => ?_
  refine go ?_; intros
  refine w_cond rfl (fun c => ?_) (fun c => ?_)
  · replace h := itt h c
    try rw [c]
    refine go ?_; intros
    cases h
    exact r_end
  replace h := itf h c
  try rw [c]
  refine go ?_; intros
  refine w_cond rfl (fun c => ?_) (fun c => ?_)
  · replace h := itt h c
    try rw [c]
    refine go ?_; intros
    cases h
    exact r_end
  replace h := itf h c
  try rw [c]
  obtain ⟨x4, h5, h⟩ := bnd h
  refine go ?_; intros
  refine c_call (c := c_laws_szChangeS) (a0.diff, (IntKind.i64.wrap (x2 - (a0.note.size : Int)))) H_laws_szChangeS h5 fun ch => ?_
  refine go ?_; intros
  refine w_cond rfl (fun c => ?_) (fun c => ?_)
  · replace h := itt h c
    try rw [c]
    refine go ?_; intros
    cases h
    exact r_end
  replace h := itf h c
  try rw [c]
  refine go ?_; intros
  cases h
  exact r_end
theorem d_laws_szEntryS {G : Gam} (H_laws_szEntry : Has G c_laws_szEntry) (a0 : (List Entry)) (a1 : Int) (r : Int) (h : gf_laws_szEntryS a0 a1 = some r) : Does G if_laws_szEntryS ks_laws_szEntryS (c_laws_szEntryS.args (a0, a1)) [] (c_laws_szEntryS.ans r) := by
  refine does_pn (L := [(0, .ro (List.map (eEntry false) a0)), (1, .v (.int .i64 a1))]) (fun bs => pin) fun bs t o => ?_
  show vwp _ ib_laws_szEntryS _ _
  unfold ib_laws_szEntryS
  unfold gf_laws_szEntryS at h
  refine go ?_; intros
  refine w_cond rfl (fun c => ?_) (fun c => ?_)
  · replace h := itt h c
    try rw [c]
    refine go ?_; intros
    cases h
    exact r_end
  replace h := itf h c
  try rw [c]
  obtain ⟨hf26, h⟩ := gd h
  obtain ⟨q15, h30, h⟩ := bnd h
  refine go ?_; intros
  refine w_last (fun t o => ∃ q15_, q15 = .inr q15_ ∧ Pin t (ovr [(1, .v (.int .i64 q15_))] t) ∧ PinH o (ovh [] o)) ?_ ?_
  · refine w_loop2 (fun n t o => ∃ l20 k18 v16 , gl_laws_szEntryS_1 l20 k18 v16 = some q15 ∧ n = l20.length ∧ (a0).drop k18 = l20 ∧ Pin t (ovr [(0, .ro (List.map (eEntry false) a0)), (1, .v (.int .i64 v16)), (5, .v (.int .i64 (k18 : Int)))] t) ∧ PinH o (ovh [] o)) _ ⟨_, _, _, h30, rfl, rfl, pin, pinh⟩ ?_
    rintro n t o ⟨l20, k18, v16, h30, rfl, hd21, q1, q2⟩
    refine pinned q1 q2 ?_
    cases l20 with
    | nil =>
      have hge23 := drop_ge hd21
      rw [gl_laws_szEntryS_1] at h30
      refine go ?_; intros
      rw [hge23]
      refine go ?_; intros
      cases h30
      exact k_cn ⟨_, rfl, pin, pinh⟩
    | cons x19 l20 =>
      have hlt22 := drop_lt hd21
      have hx24 := drop_ix hd21
      have hw25 := drop_wr hd21 hf26
      rw [gl_laws_szEntryS_1] at h30
      refine go ?_; intros
      rw [hlt22]
      refine go ?_; intros
      refine r_iro rfl rfl hx24 rfl ?_
      obtain ⟨x27, h28, h30⟩ := bnd h30
      refine go ?_; intros
      refine c_call (c := c_laws_szEntry) (x19, v16) H_laws_szEntry h28 fun ch => ?_
      refine go ?_; intros
      refine w_cond rfl (fun c => ?_) (fun c => ?_)
      · replace h30 := itt h30 c
        try rw [c]
        refine go ?_; intros
        cases h30
        replace h : some _ = some _ := h
        cases h
        exact r_end
      replace h30 := itf h30 c
      try rw [c]
      refine go ?_; intros
      rw [hw25]
      exact k_ln2 _ (Nat.lt_succ_self _) ⟨_, _, _, h30, rfl, drop_next hd21, pin, pinh⟩
  rintro t o ⟨q15, rfl, q1, q2⟩
  refine pinnedQ q1 q2 ?_
  refine go ?_; intros
  cases h
  exact r_end
theorem d_laws_toChange {G : Gam} (H_laws_toFeat : Has G c_laws_toFeat) (a0 : Change) (r : Change) (h : gf_laws_toChange a0 = some r) : Does G if_laws_toChange ks_laws_toChange (c_laws_toChange.args (a0)) [] (c_laws_toChange.ans r) := by
  refine does_pn (L := [(0, .agg [.v (.string a0.id), .v (.bool a0.had), .v (.string a0.was.id), .v (.int .i64 a0.was.shape.kind), .ro (List.map ePt a0.was.shape.pts), .ro (List.map eTag a0.was.tags), .v (.bool a0.has), .v (.string a0.now.id), .v (.int .i64 a0.now.shape.kind), .ro (List.map ePt a0.now.shape.pts), .ro (List.map eTag a0.now.tags)])]) (fun bs => pin) fun bs t o => ?_
  show vwp _ ib_laws_toChange _ _
  unfold ib_laws_toChange
  unfold gf_laws_toChange at h
  obtain ⟨q3, h60, h⟩ := bnd h
  refine go ?_; intros
  refine w_cut (fun t o => ∃ b5 b6 c7 b8 c9 b10 c11 b12 c13 b14 b15 c16 b17 c18 b19 c20 b21 c22 b23, Pin t (ovr [(1, .ptr 8 b5 427 0 0), (2, .ptr 16 b14 155 0 0), (3, .ptr 24 b23 155 0 0)] t) ∧ PinH o (ovh [(8, ⟨b5, 1, 427, true, [[.v (.string a0.id), .v (.bool a0.had), .v (.string a0.was.id), .v (.int .i64 a0.was.shape.kind), .sl false 2 (List.map ePt a0.was.shape.pts), .sl false 2 (List.map eTag a0.was.tags), .v (.bool a0.has), .v (.string a0.now.id), .v (.int .i64 a0.now.shape.kind), .sl false 2 (List.map ePt a0.now.shape.pts), .sl false 2 (List.map eTag a0.now.tags)]]⟩), (1000260, ent b6 c7 66 (List.map ePt [])), (1000261, ent b8 c9 82 (List.map eTag [])), (1000265, ent b10 c11 66 (List.map ePt [])), (1000266, ent b12 c13 82 (List.map eTag [])), (16, ⟨b14, 1, 155, true, [[.v (.string (⟨#[]⟩ : Str)), .v (.bool false), .v (.string (⟨#[]⟩ : Str)), .v (.int .i64 0), .al 1000260 b6 c7 0 ([] : List Pt).length 66, .al 1000261 b8 c9 0 ([] : List Tag).length 82, .v (.bool false), .v (.string (⟨#[]⟩ : Str)), .v (.int .i64 0), .al 1000265 b10 c11 0 ([] : List Pt).length 66, .al 1000266 b12 c13 0 ([] : List Tag).length 82]]⟩), (1000388, ent b15 c16 66 (List.map ePt [])), (1000389, ent b17 c18 82 (List.map eTag [])), (1000393, ent b19 c20 66 (List.map ePt [])), (1000394, ent b21 c22 82 (List.map eTag [])), (24, ⟨b23, 1, 155, true, [[.v (.string (⟨#[]⟩ : Str)), .v (.bool false), .v (.string (⟨#[]⟩ : Str)), .v (.int .i64 0), .al 1000388 b15 c16 0 ([] : List Pt).length 66, .al 1000389 b17 c18 0 ([] : List Tag).length 82, .v (.bool false), .v (.string (⟨#[]⟩ : Str)), .v (.int .i64 0), .al 1000393 b19 c20 0 ([] : List Pt).length 66, .al 1000394 b21 c22 0 ([] : List Tag).length 82]]⟩)] o)) ?_ ?_
  · refine go ?_; intros
    cases h60
    exact k_cn ⟨_, _, _, _, _, _, _, _, _, _, _, _, _, _, _, _, _, _, _, pin, pinh⟩
  rintro t o ⟨b5, b6, c7, b8, c9, b10, c11, b12, c13, b14, b15, c16, b17, c18, b19, c20, b21, c22, b23, q1, q2⟩
  refine pinned q1 q2 ?_
  obtain ⟨q24, h61, h⟩ := bnd h
  refine go ?_; intros
  refine w_cut (fun t o => ∃ b31 b32 c33 b34 c35 b36 c37 b38 c39 b40 b42 c43 b45 c46 b47 c48 b49 c50 b53, Pin t (ovr [(1, .ptr 8 b31 427 0 0), (2, .ptr 16 b40 155 0 0), (3, .ptr 24 b53 155 0 0)] t) ∧ PinH o (ovh [(8, ⟨b31, 1, 427, true, [[.v (.string a0.id), .v (.bool a0.had), .v (.string a0.was.id), .v (.int .i64 a0.was.shape.kind), .sl false 2 (List.map ePt a0.was.shape.pts), .sl false 2 (List.map eTag a0.was.tags), .v (.bool a0.has), .v (.string a0.now.id), .v (.int .i64 a0.now.shape.kind), .sl false 2 (List.map ePt a0.now.shape.pts), .sl false 2 (List.map eTag a0.now.tags)]]⟩), (1000260, ent b32 c33 66 (List.map ePt [])), (1000261, ent b34 c35 82 (List.map eTag [])), (1000265, ent b36 c37 66 (List.map ePt [])), (1000266, ent b38 c39 82 (List.map eTag [])), (16, ⟨b40, 1, 155, true, [[.v (.string (⟨#[]⟩ : Str)), .v (.bool false), .v (.string (⟨#[]⟩ : Str)), .v (.int .i64 0), .al 1000260 b32 c33 0 ([] : List Pt).length 66, .al 1000261 b34 c35 0 ([] : List Tag).length 82, .v (.bool false), .v (.string (⟨#[]⟩ : Str)), .v (.int .i64 0), .al 1000265 b36 c37 0 ([] : List Pt).length 66, .al 1000266 b38 c39 0 ([] : List Tag).length 82]]⟩), (1000388, ent b42 c43 66 (List.map ePt q24.1)), (1000389, ent b45 c46 82 (List.map eTag q24.2.1)), (1000393, ent b47 c48 66 (List.map ePt [])), (1000394, ent b49 c50 82 (List.map eTag [])), (24, ⟨b53, 1, 155, true, [[.v (.string a0.id), .v (.bool a0.had), .v (.string q24.2.2.1), .v (.int .i64 q24.2.2.2), .al 1000388 b42 c43 0 q24.1.length 66, .al 1000389 b45 c46 0 q24.2.1.length 82, .v (.bool false), .v (.string (⟨#[]⟩ : Str)), .v (.int .i64 0), .al 1000393 b47 c48 0 ([] : List Pt).length 66, .al 1000394 b49 c50 0 ([] : List Tag).length 82]]⟩)] o)) ?_ ?_
  · obtain ⟨x25, h26, h61⟩ := bnd h61
    refine go ?_; intros
    refine c_call (c := c_laws_toFeat) (a0.was) H_laws_toFeat h26 fun ch => ?_
    refine go ?_; intros
    cases h61
    exact k_cn ⟨_, _, _, _, _, _, _, _, _, _, _, _, _, _, _, _, _, _, _, pin, pinh⟩
  rintro t o ⟨b31, b32, c33, b34, c35, b36, c37, b38, c39, b40, b42, c43, b45, c46, b47, c48, b49, c50, b53, q1, q2⟩
  refine pinned q1 q2 ?_
  obtain ⟨x54, h55, h⟩ := bnd h
  refine go ?_; intros
  refine c_call (c := c_laws_toFeat) (a0.now) H_laws_toFeat h55 fun ch => ?_
  refine go ?_; intros
  cases h
  exact r_end
theorem d_laws_toChangeS {G : Gam} (H_laws_toChange : Has G c_laws_toChange) (a0 : (List Change)) (r : (List Change)) (h : gf_laws_toChangeS a0 = some r) : Does G if_laws_toChangeS ks_laws_toChangeS (c_laws_toChangeS.args (a0)) [] (c_laws_toChangeS.ans r) := by
  refine does_pn (L := [(0, .ro (List.map (eChange false) a0))]) (fun bs => pin) fun bs t o => ?_
  show vwp _ ib_laws_toChangeS _ _
  unfold ib_laws_toChangeS
  unfold gf_laws_toChangeS at h
  obtain ⟨h3, h⟩ := gd h
  refine go ?_; intros
  refine r_mks (f := (eChange true)) (x := (⟨(⟨#[]⟩ : Str), false, ⟨(⟨#[]⟩ : Str), ⟨0, []⟩, []⟩, false, ⟨(⟨#[]⟩ : Str), ⟨0, []⟩, []⟩⟩ : Change)) rfl rfl (band1 h3) (band2 h3) rfl fun b1 => ?_
  obtain ⟨hf65, h⟩ := gd h
  obtain ⟨q52, h81, h⟩ := bnd h
  refine go ?_; intros
  refine w_last (fun t o => ∃ b79 c80, Pin t (ovr [(3, .ref 56 b79 c80 0 q52.length 155)] t) ∧ PinH o (ovh [(56, ent b79 c80 155 (List.map (eChange true) q52))] o)) ?_ ?_
  · refine w_loop2 (fun n t o => ∃ l59 k57 v54 b55 c56, gl_laws_toChangeS_1 l59 k57 v54 = some q52 ∧ n = l59.length ∧ (a0).drop k57 = l59 ∧ Pin t (ovr [(0, .ro (List.map (eChange false) a0)), (3, .ref 56 b55 c56 0 v54.length 155), (4, .v (.int .i64 (k57 : Int)))] t) ∧ PinH o (ovh [(56, ent b55 c56 155 (List.map (eChange true) v54))] o)) _ ⟨_, _, _, _, _, h81, rfl, rfl, pin, pinh⟩ ?_
    rintro n t o ⟨l59, k57, v54, b55, c56, h81, rfl, hd60, q1, q2⟩
    refine pinned q1 q2 ?_
    cases l59 with
    | nil =>
      have hge62 := drop_ge hd60
      rw [gl_laws_toChangeS_1] at h81
      refine go ?_; intros
      rw [hge62]
      refine go ?_; intros
      cases h81
      exact k_cn ⟨_, _, pin, pinh⟩
    | cons x58 l59 =>
      have hlt61 := drop_lt hd60
      have hx63 := drop_ix hd60
      have hw64 := drop_wr hd60 hf65
      rw [gl_laws_toChangeS_1] at h81
      refine go ?_; intros
      rw [hlt61]
      refine go ?_; intros
      refine r_iro rfl rfl hx63 rfl ?_
      obtain ⟨x66, h67, h81⟩ := bnd h81
      refine go ?_; intros
      refine c_call (c := c_laws_toChange) (x58) H_laws_toChange h67 fun ch => ?_
      obtain ⟨x76, h77, h81⟩ := bnd h81
      refine go ?_; intros
      refine r_ire (xs := v54) rfl rfl h77 rfl ?_
      refine go ?_; intros
      refine c_ste (f := (eChange true)) v54 x66 (idx_get h77).2 ?_
      refine go ?_; intros
      rw [hw64]
      exact k_ln2 _ (Nat.lt_succ_self _) ⟨_, _, _, _, _, h81, rfl, drop_next hd60, pin, pinh⟩
  rintro t o ⟨b79, c80, q1, q2⟩
  refine pinnedQ q1 q2 ?_
  refine go ?_; intros
  cases h
  exact r_end
end Go.Proofs.AM
