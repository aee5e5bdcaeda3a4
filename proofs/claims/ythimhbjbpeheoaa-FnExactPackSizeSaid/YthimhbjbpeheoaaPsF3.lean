/- A part of the proof of 'FnExactPackSizeSaid' (PsF3): lemmas on an abstract machine for the program's functions. Conditions: none. -/
import Derived.Test.YthimhbjbpeheoaaPsD
set_option linter.unusedVariables false
set_option maxRecDepth 100000
set_option maxHeartbeats 4000000
namespace Go.Proofs.AM
attribute [local irreducible] vwp vstps vstpLs vstp vdo vret kseq kblk kloop kend kcut kloop2 frzV renV
theorem d_laws_toEntry {G : Gam} (H_laws_toIntS : Has G c_laws_toIntS) (H_laws_toChangeS : Has G c_laws_toChangeS) (a0 : Entry) (r : Entry) (h : gf_laws_toEntry a0 = some r) : Does G if_laws_toEntry ks_laws_toEntry (c_laws_toEntry.args (a0)) [] (c_laws_toEntry.ans r) := by
  refine does_pn (L := [(0, .agg [.ro (List.map eInt a0.up), .v (.string a0.note), .ro (List.map (eChange false) a0.diff)])]) (fun bs => pin) fun bs t o => ?_
  show vwp _ ib_laws_toEntry _ _
  unfold ib_laws_toEntry
  unfold gf_laws_toEntry at h
  obtain ⟨q4, h25, h⟩ := bnd h
  refine go ?_; intros
  refine w_cut (fun t o => ∃ b9 b10 c11 b12 c13 b14 b16 c17 b18 c19 b20, Pin t (ovr [(1, .ptr 8 b9 435 0 0), (2, .ptr 16 b14 163 0 0), (3, .ptr 24 b20 163 0 0)] t) ∧ PinH o (ovh [(8, ⟨b9, 1, 435, true, [[.sl false 1 (List.map eInt a0.up), .v (.string a0.note), .sl false 11 (List.map (eChange false) a0.diff)]]⟩), (1000256, ent b10 c11 17 (List.map eInt [])), (1000258, ent b12 c13 155 (List.map (eChange true) [])), (16, ⟨b14, 1, 163, true, [[.al 1000256 b10 c11 0 ([] : List Int).length 17, .v (.string (⟨#[]⟩ : Str)), .al 1000258 b12 c13 0 ([] : List Change).length 155]]⟩), (1000384, ent b16 c17 17 (List.map eInt q4)), (1000386, ent b18 c19 155 (List.map (eChange true) [])), (24, ⟨b20, 1, 163, true, [[.al 1000384 b16 c17 0 q4.length 17, .v (.string (⟨#[]⟩ : Str)), .al 1000386 b18 c19 0 ([] : List Change).length 155]]⟩)] o)) ?_ ?_
  · obtain ⟨x5, h6, h25⟩ := bnd h25
    refine go ?_; intros
    refine c_call (c := c_laws_toIntS) (a0.up) H_laws_toIntS h6 fun ch => ?_
    refine go ?_; intros
    cases h25
    exact k_cn ⟨_, _, _, _, _, _, _, _, _, _, _, pin, pinh⟩
  rintro t o ⟨b9, b10, c11, b12, c13, b14, b16, c17, b18, c19, b20, q1, q2⟩
  refine pinned q1 q2 ?_
  obtain ⟨x21, h22, h⟩ := bnd h
  refine go ?_; intros
  refine c_call (c := c_laws_toChangeS) (a0.diff) H_laws_toChangeS h22 fun ch => ?_
  refine go ?_; intros
  cases h
  exact r_end
theorem d_laws_toEntryS {G : Gam} (H_laws_toEntry : Has G c_laws_toEntry) (a0 : (List Entry)) (r : (List Entry)) (h : gf_laws_toEntryS a0 = some r) : Does G if_laws_toEntryS ks_laws_toEntryS (c_laws_toEntryS.args (a0)) [] (c_laws_toEntryS.ans r) := by
  refine does_pn (L := [(0, .ro (List.map (eEntry false) a0))]) (fun bs => pin) fun bs t o => ?_
  show vwp _ ib_laws_toEntryS _ _
  unfold ib_laws_toEntryS
  unfold gf_laws_toEntryS at h
  obtain ⟨h3, h⟩ := gd h
  refine go ?_; intros
  refine r_mks (f := (eEntry true)) (x := (⟨[], (⟨#[]⟩ : Str), []⟩ : Entry)) rfl rfl (band1 h3) (band2 h3) rfl fun b1 => ?_
  obtain ⟨hf53, h⟩ := gd h
  obtain ⟨q40, h65, h⟩ := bnd h
  refine go ?_; intros
  refine w_last (fun t o => ∃ b63 c64, Pin t (ovr [(3, .ref 56 b63 c64 0 q40.length 163)] t) ∧ PinH o (ovh [(56, ent b63 c64 163 (List.map (eEntry true) q40))] o)) ?_ ?_
  · refine w_loop2 (fun n t o => ∃ l47 k45 v42 b43 c44, gl_laws_toEntryS_1 l47 k45 v42 = some q40 ∧ n = l47.length ∧ (a0).drop k45 = l47 ∧ Pin t (ovr [(0, .ro (List.map (eEntry false) a0)), (3, .ref 56 b43 c44 0 v42.length 163), (4, .v (.int .i64 (k45 : Int)))] t) ∧ PinH o (ovh [(56, ent b43 c44 163 (List.map (eEntry true) v42))] o)) _ ⟨_, _, _, _, _, h65, rfl, rfl, pin, pinh⟩ ?_
    rintro n t o ⟨l47, k45, v42, b43, c44, h65, rfl, hd48, q1, q2⟩
    refine pinned q1 q2 ?_
    cases l47 with
    | nil =>
      have hge50 := drop_ge hd48
      rw [gl_laws_toEntryS_1] at h65
      refine go ?_; intros
      rw [hge50]
      refine go ?_; intros
      cases h65
      exact k_cn ⟨_, _, pin, pinh⟩
    | cons x46 l47 =>
      have hlt49 := drop_lt hd48
      have hx51 := drop_ix hd48
      have hw52 := drop_wr hd48 hf53
      rw [gl_laws_toEntryS_1] at h65
      refine go ?_; intros
      rw [hlt49]
      refine go ?_; intros
      refine r_iro rfl rfl hx51 rfl ?_
      obtain ⟨x54, h55, h65⟩ := bnd h65
      refine go ?_; intros
      refine c_call (c := c_laws_toEntry) (x46) H_laws_toEntry h55 fun ch => ?_
      obtain ⟨x60, h61, h65⟩ := bnd h65
      refine go ?_; intros
      refine r_ire (xs := v42) rfl rfl h61 rfl ?_
      refine go ?_; intros
      refine c_ste (f := (eEntry true)) v42 x54 (idx_get h61).2 ?_
      refine go ?_; intros
      rw [hw52]
      exact k_ln2 _ (Nat.lt_succ_self _) ⟨_, _, _, _, _, h65, rfl, drop_next hd48, pin, pinh⟩
  rintro t o ⟨b63, c64, q1, q2⟩
  refine pinnedQ q1 q2 ?_
  refine go ?_; intros
  cases h
  exact r_end
theorem d_spec_PackSize {G : Gam}  (a0 : (List Entry)) (r : Int) (h : gf_spec_PackSize a0 = some r) : Does G if_spec_PackSize ks_spec_PackSize (c_spec_PackSize.args (a0)) [] (c_spec_PackSize.ans r) := by
  refine does_pn (L := [(0, .ro (List.map (eEntry false) a0))]) (fun bs => pin) fun bs t o => ?_
  show vwp _ ib_spec_PackSize _ _
  unfold ib_spec_PackSize
  unfold gf_spec_PackSize at h
  obtain ⟨hf20, h⟩ := gd h
  obtain ⟨q9, h22, h⟩ := bnd h
  refine go ?_; intros
  refine w_last (fun t o => Pin t (ovr [(3, .v (.int .i64 q9))] t) ∧ PinH o (ovh [] o)) ?_ ?_
  · refine w_loop2 (fun n t o => ∃ l14 k12 v10 , gl_spec_PackSize_1 l14 k12 v10 = some q9 ∧ n = l14.length ∧ (a0).drop k12 = l14 ∧ Pin t (ovr [(0, .ro (List.map (eEntry false) a0)), (3, .v (.int .i64 v10)), (4, .v (.int .i64 (k12 : Int)))] t) ∧ PinH o (ovh [] o)) _ ⟨_, _, _, h22, rfl, rfl, pin, pinh⟩ ?_
    rintro n t o ⟨l14, k12, v10, h22, rfl, hd15, q1, q2⟩
    refine pinned q1 q2 ?_
    cases l14 with
    | nil =>
      have hge17 := drop_ge hd15
      rw [gl_spec_PackSize_1] at h22
      refine go ?_; intros
      rw [hge17]
      refine go ?_; intros
      cases h22
      exact k_cn ⟨pin, pinh⟩
    | cons x13 l14 =>
      have hlt16 := drop_lt hd15
      have hx18 := drop_ix hd15
      have hw19 := drop_wr hd15 hf20
      rw [gl_spec_PackSize_1] at h22
      refine go ?_; intros
      rw [hlt16]
      refine go ?_; intros
      refine r_iro rfl rfl hx18 rfl ?_
      refine go ?_; intros
      rw [hw19]
      exact k_ln2 _ (Nat.lt_succ_self _) ⟨_, _, _, h22, rfl, drop_next hd15, pin, pinh⟩
  rintro t o ⟨q1, q2⟩
  refine pinnedQ q1 q2 ?_
  refine go ?_; intros
  cases h
  exact r_end
theorem d_impl_PackSize {G : Gam}  (a0 : (List Entry)) (r : Int) (h : gf_impl_PackSize a0 = some r) : Does G if_impl_PackSize ks_impl_PackSize (c_impl_PackSize.args (a0)) [] (c_impl_PackSize.ans r) := by
  refine does_pn (L := [(0, .ro (List.map (eEntry false) a0))]) (fun bs => pin) fun bs t o => ?_
  show vwp _ ib_impl_PackSize _ _
  unfold ib_impl_PackSize
  unfold gf_impl_PackSize at h
  obtain ⟨hf23, h⟩ := gd h
  obtain ⟨q12, h26, h⟩ := bnd h
  refine go ?_; intros
  refine w_last (fun t o => Pin t (ovr [(3, .v (.int .i64 q12))] t) ∧ PinH o (ovh [] o)) ?_ ?_
  · refine w_loop2 (fun n t o => ∃ l17 k15 v13 , gl_impl_PackSize_1 l17 k15 v13 = some q12 ∧ n = l17.length ∧ (a0).drop k15 = l17 ∧ Pin t (ovr [(3, .v (.int .i64 v13)), (6, .ro (List.map (eEntry false) a0)), (7, .v (.int .i64 (a0.length : Int))), (8, .v (.int .i64 (k15 : Int)))] t) ∧ PinH o (ovh [] o)) _ ⟨_, _, _, h26, rfl, rfl, pin, pinh⟩ ?_
    rintro n t o ⟨l17, k15, v13, h26, rfl, hd18, q1, q2⟩
    refine pinned q1 q2 ?_
    cases l17 with
    | nil =>
      have hge20 := drop_ge hd18
      rw [gl_impl_PackSize_1] at h26
      refine go ?_; intros
      rw [hge20]
      refine go ?_; intros
      cases h26
      exact k_cn ⟨pin, pinh⟩
    | cons x16 l17 =>
      have hlt19 := drop_lt hd18
      have hx21 := drop_ix hd18
      have hw22 := drop_wr hd18 hf23
      rw [gl_impl_PackSize_1] at h26
      refine go ?_; intros
      rw [hlt19]
      refine go ?_; intros
      refine r_iro rfl rfl hx21 rfl ?_
      refine go ?_; intros
      rw [hw22]
      exact k_ln2 _ (Nat.lt_succ_self _) ⟨_, _, _, h26, rfl, drop_next hd18, pin, pinh⟩
  rintro t o ⟨q1, q2⟩
  refine pinnedQ q1 q2 ?_
  refine go ?_; intros
  cases h
  exact r_end
theorem d_laws_eqChange {G : Gam} (H_laws_eqFeat : Has G c_laws_eqFeat) (a0 : Change) (a1 : Change) (r : Bool) (h : gf_laws_eqChange a0 a1 = some r) : Does G if_laws_eqChange ks_laws_eqChange (c_laws_eqChange.args (a0, a1)) [] (c_laws_eqChange.ans r) := by
  refine does_pn (L := [(0, .agg [.v (.string a0.id), .v (.bool a0.had), .v (.string a0.was.id), .v (.int .i64 a0.was.shape.kind), .ro (List.map ePt a0.was.shape.pts), .ro (List.map eTag a0.was.tags), .v (.bool a0.has), .v (.string a0.now.id), .v (.int .i64 a0.now.shape.kind), .ro (List.map ePt a0.now.shape.pts), .ro (List.map eTag a0.now.tags)]), (1, .agg [.v (.string a1.id), .v (.bool a1.had), .v (.string a1.was.id), .v (.int .i64 a1.was.shape.kind), .ro (List.map ePt a1.was.shape.pts), .ro (List.map eTag a1.was.tags), .v (.bool a1.has), .v (.string a1.now.id), .v (.int .i64 a1.now.shape.kind), .ro (List.map ePt a1.now.shape.pts), .ro (List.map eTag a1.now.tags)])]) (fun bs => pin) fun bs t o => ?_
  show vwp _ ib_laws_eqChange _ _
  unfold ib_laws_eqChange
  unfold gf_laws_eqChange at h
  refine go ?_; intros
  refine w_cond rfl (fun c => ?_) (fun c => ?_)
  · replace h := itt h c
    try rw [c]
    refine go ?_; intros
    cases h
    exact r_end
  replace h := itf h c
  try rw [c]
  refine go ?_; intros
  refine w_cond rfl (fun c => ?_) (fun c => ?_)
  · replace h := itt h c
    try rw [c]
    refine go ?_; intros
    cases h
    exact r_end
  replace h := itf h c
  try rw [c]
  obtain ⟨x3, h4, h⟩ := bnd h
  refine go ?_; intros
  refine c_call (c := c_laws_eqFeat) (a0.was, a1.was) H_laws_eqFeat h4 fun ch => ?_
  refine go ?_; intros
  refine w_cond rfl (fun c => ?_) (fun c => ?_)
  · replace h := itt h c
    try rw [c]
    refine go ?_; intros
    cases h
    exact r_end
  replace h := itf h c
  try rw [c]
  refine go ?_; intros
  refine w_cond rfl (fun c => ?_) (fun c => ?_)
  · replace h := itt h c
    try rw [c]
    refine go ?_; intros
    cases h
    exact r_end
  replace h := itf h c
  try rw [c]
  obtain ⟨x5, h6, h⟩ := bnd h
  refine go ?_; intros
  refine c_call (c := c_laws_eqFeat) (a0.now, a1.now) H_laws_eqFeat h6 fun ch => ?_
  refine go ?_; intros
  refine w_cond rfl (fun c => ?_) (fun c => ?_)
  · replace h := itt h c
    try rw [c]
    refine go ?_; intros
    cases h
    exact r_end
  replace h := itf h c
  try rw [c]
  refine go ?_; intros
  cases h
  exact r_end
theorem d_laws_eqChangeS {G : Gam} (H_laws_eqChange : Has G c_laws_eqChange) (a0 : (List Change)) (a1 : (List Change)) (r : Bool) (h : gf_laws_eqChangeS a0 a1 = some r) : Does G if_laws_eqChangeS ks_laws_eqChangeS (c_laws_eqChangeS.args (a0, a1)) [] (c_laws_eqChangeS.ans r) := by
  refine does_pn (L := [(0, .ro (List.map (eChange false) a0)), (1, .ro (List.map (eChange false) a1))]) (fun bs => pin) fun bs t o => ?_
  show vwp _ ib_laws_eqChangeS _ _
  unfold ib_laws_eqChangeS
  unfold gf_laws_eqChangeS at h
  refine go ?_; intros
  refine w_cond rfl (fun c => ?_) (fun c => ?_)
  · replace h := itt h c
    try rw [c]
    refine go ?_; intros
    cases h
    exact r_end
  replace h := itf h c
  try rw [c]
  obtain ⟨hf30, h⟩ := gd h
  obtain ⟨q20, h35, h⟩ := bnd h
  refine go ?_; intros
  refine w_last (fun t o => ∃ q20_, q20 = .inr q20_ ∧ Pin t (ovr [] t) ∧ PinH o (ovh [] o)) ?_ ?_
  · refine w_loop2 (fun n t o => ∃ l24 k22  , gl_laws_eqChangeS_1 a1 l24 k22  = some q20 ∧ n = l24.length ∧ (a0).drop k22 = l24 ∧ Pin t (ovr [(0, .ro (List.map (eChange false) a0)), (1, .ro (List.map (eChange false) a1)), (5, .v (.int .i64 (k22 : Int)))] t) ∧ PinH o (ovh [] o)) _ ⟨_, _, h35, rfl, rfl, pin, pinh⟩ ?_
    rintro n t o ⟨l24, k22, h35, rfl, hd25, q1, q2⟩
    refine pinned q1 q2 ?_
    cases l24 with
    | nil =>
      have hge27 := drop_ge hd25
      rw [gl_laws_eqChangeS_1] at h35
      refine go ?_; intros
      rw [hge27]
      refine go ?_; intros
      cases h35
      exact k_cn ⟨_, rfl, pin, pinh⟩
    | cons x23 l24 =>
      have hlt26 := drop_lt hd25
      have hx28 := drop_ix hd25
      have hw29 := drop_wr hd25 hf30
      rw [gl_laws_eqChangeS_1] at h35
      refine go ?_; intros
      rw [hlt26]
      refine go ?_; intros
      refine r_iro rfl rfl hx28 rfl ?_
      obtain ⟨x31, h32, h35⟩ := bnd h35
      refine go ?_; intros
      refine r_iro rfl rfl h32 rfl ?_
      obtain ⟨x33, h34, h35⟩ := bnd h35
      refine go ?_; intros
      refine c_call (c := c_laws_eqChange) (x23, x31) H_laws_eqChange h34 fun ch => ?_
      refine go ?_; intros
      refine w_cond rfl (fun c => ?_) (fun c => ?_)
      · replace h35 := itt h35 c
        try rw [c]
        refine go ?_; intros
        cases h35
        replace h : some _ = some _ := h
        cases h
        exact r_end
      replace h35 := itf h35 c
      try rw [c]
      refine go ?_; intros
      rw [hw29]
      exact k_ln2 _ (Nat.lt_succ_self _) ⟨_, _, h35, rfl, drop_next hd25, pin, pinh⟩
  rintro t o ⟨q20, rfl, q1, q2⟩
  refine pinnedQ q1 q2 ?_
  refine go ?_; intros
  cases h
  exact r_end
theorem d_laws_eqEntry {G : Gam} (H_laws_eqIntS : Has G c_laws_eqIntS) (H_laws_eqChangeS : Has G c_laws_eqChangeS) (a0 : Entry) (a1 : Entry) (r : Bool) (h : gf_laws_eqEntry a0 a1 = some r) : Does G if_laws_eqEntry ks_laws_eqEntry (c_laws_eqEntry.args (a0, a1)) [] (c_laws_eqEntry.ans r) := by
  refine does_pn (L := [(0, .agg [.ro (List.map eInt a0.up), .v (.string a0.note), .ro (List.map (eChange false) a0.diff)]), (1, .agg [.ro (List.map eInt a1.up), .v (.string a1.note), .ro (List.map (eChange false) a1.diff)])]) (fun bs => pin) fun bs t o => ?_
  show vwp _ ib_laws_eqEntry _ _
  unfold ib_laws_eqEntry
  unfold gf_laws_eqEntry at h
  obtain ⟨x3, h4, h⟩ := bnd h
  refine go ?_; intros
  refine c_call (c := c_laws_eqIntS) (a0.up, a1.up) H_laws_eqIntS h4 fun ch => ?_
  refine go ?_; intros
  refine w_cond rfl (fun c => ?_) (fun c => ?_)
  · replace h := itt h c
    try rw [c]
    refine go ?_; intros
    cases h
    exact r_end
  replace h := itf h c
  try rw [c]
  refine go ?_; intros
  refine w_cond rfl (fun c => ?_) (fun c => ?_)
  · replace h := itt h c
    try rw [c]
    refine go ?_; intros
    cases h
    exact r_end
  replace h := itf h c
  try rw [c]
  obtain ⟨x5, h6, h⟩ := bnd h
  refine go ?_; intros
  refine c_call (c := c_laws_eqChangeS) (a0.diff, a1.diff) H_laws_eqChangeS h6 fun ch => ?_
  refine go ?_; intros
  refine w_cond rfl (fun c => ?_) (fun c => ?_)
  · replace h := itt h c
    try rw [c]
    refine go ?_; intros
    cases h
    exact r_end
  replace h := itf h c
  try rw [c]
  refine go ?_; intros
  cases h
  exact r_end
end Go.Proofs.AM
