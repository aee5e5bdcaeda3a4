/- A part of the proofs of this seat's statements (ZF4): lemmas on an abstract machine for the program's functions. Conditions: none. -/
import Derived.Test.YtggnnoghnkcmpaaGreatZD
set_option linter.unusedVariables false
set_option maxRecDepth 100000
set_option maxHeartbeats 4000000
namespace Go.Proofs.AM
attribute [local irreducible] vwp vstps vstpLs vstp vdo vret kseq kblk kloop kend kcut kloop2 frzV renV shutK
theorem d_spec_l7Marks {G : Gam}  (a0 : Repo) (a1 : (List Int)) (r : (List Bool)) (h : gf_spec_l7Marks a0 a1 = some r) : Does G if_spec_l7Marks ks_spec_l7Marks (c_spec_l7Marks.args (a0, a1)) [] (c_spec_l7Marks.ans (a0, a1) r) := by
  refine does_pn (L := [(0, .agg [.ro (List.map (eCommit false) a0.commits), .ro (List.map eHead a0.heads)]), (1, .ro (List.map eInt a1))]) (fun bs => pin) fun bs t o => ?_
  show vwp _ ib_spec_l7Marks _ _
  unfold ib_spec_l7Marks
  unfold gf_spec_l7Marks at h
  obtain ⟨h4, h⟩ := gd h
  refine go ?_; intros
  refine r_mks (f := eBool) (x := false) rfl rfl (band1 h4) (band2 h4) rfl fun b2 => ?_
  obtain ⟨hf39, h⟩ := gd h
  obtain ⟨q25, h268, h⟩ := bnd h
  refine go ?_; intros
  refine w_last (fun t o => ∃ b42 b44 c45, Pin t (ovr [(2, .ptr 16 b42 210 0 0), (5, .ref 96 b44 c45 0 q25.length 33)] t) ∧ PinH o (ovh [(16, ⟨b42, 1, 210, true, [[.sl false 3 (List.map (eCommit false) a0.commits), .sl false 2 (List.map eHead a0.heads)]]⟩), (96, ent b44 c45 33 (List.map eBool q25))] o)) ?_ ?_
  · refine w_loop2 (fun n t o => ∃ l33 k31 v28 b27 b29 c30, gl_spec_l7Marks_1 l33 k31 v28 = some q25 ∧ n = l33.length ∧ (a1).drop k31 = l33 ∧ Pin t (ovr [(1, .ro (List.map eInt a1)), (2, .ptr 16 b27 210 0 0), (5, .ref 96 b29 c30 0 v28.length 33), (6, .v (.int .i64 (k31 : Int)))] t) ∧ PinH o (ovh [(16, ⟨b27, 1, 210, true, [[.sl false 3 (List.map (eCommit false) a0.commits), .sl false 2 (List.map eHead a0.heads)]]⟩), (96, ent b29 c30 33 (List.map eBool v28))] o)) _ ⟨_, _, _, _, _, _, h268, rfl, rfl, pin, pinh⟩ ?_
    rintro n t o ⟨l33, k31, v28, b27, b29, c30, h268, rfl, hd34, q1, q2⟩
    refine pinned q1 q2 ?_
    cases l33 with
    | nil =>
      have hge36 := drop_ge hd34
      rw [gl_spec_l7Marks_1] at h268
      refine go ?_; intros
      rw [hge36]
      refine go ?_; intros
      cases h268
      exact k_cn ⟨_, _, _, pin, pinh⟩
    | cons x32 l33 =>
      have hlt35 := drop_lt hd34
      have hx37 := drop_ix hd34
      have hw38 := drop_wr hd34 hf39
      rw [gl_spec_l7Marks_1] at h268
      refine go ?_; intros
      rw [hlt35]
      refine go ?_; intros
      refine r_iro rfl rfl hx37 rfl ?_
      obtain ⟨x40, h41, h268⟩ := bnd h268
      refine go ?_; intros
      refine r_ire (xs := v28) rfl rfl h41 rfl ?_
      refine go ?_; intros
      refine c_ste (f := eBool) v28 true (idx_get h41).2 ?_
      refine go ?_; intros
      rw [hw38]
      exact k_ln2 _ (Nat.lt_succ_self _) ⟨_, _, _, _, _, _, h268, rfl, drop_next hd34, pin, pinh⟩
  rintro t o ⟨b42, b44, c45, q1, q2⟩
  refine pinnedQ q1 q2 ?_
  obtain ⟨q207, h269, h⟩ := bnd h
  refine go ?_; intros
  refine w_last (fun t o => ∃ b266 c267, Pin t (ovr [(5, .ref 96 b266 c267 0 q207.length 33)] t) ∧ PinH o (ovh [(96, ent b266 c267 33 (List.map eBool q207))] o)) ?_ ?_
  · refine w_loop2 (fun n t o => ∃ n213 v208 v210 b209 b211 c212, gl_spec_l7Marks_5 a0 n213 v208 v210 = some q207 ∧ n213 = n ∧ Pin t (ovr [(2, .ptr 16 b209 210 0 0), (5, .ref 96 b211 c212 0 v210.length 33), (7, .v (.int .i64 v208))] t) ∧ PinH o (ovh [(16, ⟨b209, 1, 210, true, [[.sl false 3 (List.map (eCommit false) a0.commits), .sl false 2 (List.map eHead a0.heads)]]⟩), (96, ent b211 c212 33 (List.map eBool v210))] o)) _ ⟨_, _, _, _, _, _, h269, rfl, pin, pinh⟩ ?_
    rintro n t o ⟨n213, v208, v210, b209, b211, c212, h269, rfl, q1, q2⟩
    refine pinned q1 q2 ?_
    cases n213 with
    | zero => rw [gl_spec_l7Marks_5] at h269; cases h269
    | succ n213 =>
      rw [gl_spec_l7Marks_5] at h269
      refine go ?_; intros
      refine w_cond rfl (fun c => ?_) (fun c => ?_)
      · replace h269 := itt h269 c
        try rw [c]
        obtain ⟨q246, h270, h269⟩ := bnd h269
        refine go ?_; intros
        refine w_last (fun t o => ∃ b261 b263 c264, Pin t (ovr [(2, .ptr 16 b261 210 0 0), (5, .ref 96 b263 c264 0 q246.length 33), (7, .v (.int .i64 v208))] t) ∧ PinH o (ovh [(16, ⟨b261, 1, 210, true, [[.sl false 3 (List.map (eCommit false) a0.commits), .sl false 2 (List.map eHead a0.heads)]]⟩), (96, ent b263 c264 33 (List.map eBool q246))] o)) ?_ ?_
        · refine w_loop2 (fun n t o => ∃ n252 v247 v249 b248 b250 c251, gl_spec_l7Marks_6 a0 v208 n252 v247 v249 = some q246 ∧ n252 = n ∧ Pin t (ovr [(2, .ptr 16 b248 210 0 0), (5, .ref 96 b250 c251 0 v249.length 33), (7, .v (.int .i64 v208)), (8, .v (.int .i64 v247))] t) ∧ PinH o (ovh [(16, ⟨b248, 1, 210, true, [[.sl false 3 (List.map (eCommit false) a0.commits), .sl false 2 (List.map eHead a0.heads)]]⟩), (96, ent b250 c251 33 (List.map eBool v249))] o)) _ ⟨_, _, _, _, _, _, h270, rfl, pin, pinh⟩ ?_
          rintro n t o ⟨n252, v247, v249, b248, b250, c251, h270, rfl, q1, q2⟩
          refine pinned q1 q2 ?_
          cases n252 with
          | zero => rw [gl_spec_l7Marks_6] at h270; cases h270
          | succ n252 =>
            rw [gl_spec_l7Marks_6] at h270
            obtain ⟨x253, h254, h270⟩ := bnd h270
            refine go ?_; intros
            refine r_iro rfl rfl h254 rfl ?_
            refine go ?_; intros
            refine s_split rfl (fun c => ?_) (fun c => ?_)
            · replace h270 := itt h270 c
              rw [c]
              obtain ⟨x255, h256, h270⟩ := bnd h270
              refine go ?_; intros
              refine r_ire (xs := v249) rfl rfl h256 rfl ?_
              refine go ?_; intros
              refine r_lde (f := eBool) (xs := v249) (x := x255) rfl rfl (idx_get h256).2 rfl rfl rfl ?_
              refine go ?_; intros
              refine w_cond rfl (fun c => ?_) (fun c => ?_)
              · replace h270 := itt h270 c
                try rw [c]
                refine go ?_; intros
                refine r_iro rfl rfl h254 rfl ?_
                obtain ⟨x257, h258, h270⟩ := bnd h270
                refine go ?_; intros
                refine r_iro rfl rfl h258 rfl ?_
                obtain ⟨x259, h260, h270⟩ := bnd h270
                refine go ?_; intros
                refine r_ire (xs := v249) rfl rfl h260 rfl ?_
                refine go ?_; intros
                refine c_ste (f := eBool) v249 true (idx_get h260).2 ?_
                refine go ?_; intros
                exact k_ln2 _ (Nat.lt_succ_self _) ⟨_, _, _, _, _, _, h270, rfl, pin, pinh⟩
              replace h270 := itf h270 c
              try rw [c]
              refine go ?_; intros
              cases h270
              exact k_cn ⟨_, _, _, pin, pinh⟩
            replace h270 := itf h270 c
            rw [c]
            refine go ?_; intros
            cases h270
            exact k_cn ⟨_, _, _, pin, pinh⟩
        rintro t o ⟨b261, b263, c264, q1, q2⟩
        refine pinnedQ q1 q2 ?_
        refine go ?_; intros
        exact k_ln2 _ (Nat.lt_succ_self _) ⟨_, _, _, _, _, _, h269, rfl, pin, pinh⟩
      replace h269 := itf h269 c
      try rw [c]
      refine go ?_; intros
      cases h269
      exact k_cn ⟨_, _, pin, pinh⟩
  rintro t o ⟨b266, c267, q1, q2⟩
  refine pinnedQ q1 q2 ?_
  refine go ?_; intros
  cases h
  exact r_end
theorem d_laws_toPt {G : Gam}  (a0 : Pt) (r : Pt) (h : gf_laws_toPt a0 = some r) : Does G if_laws_toPt ks_laws_toPt (c_laws_toPt.args (a0)) [] (c_laws_toPt.ans (a0) r) := by
  refine does_pn (L := [(0, .agg [.v (.int .i64 a0.x), .v (.int .i64 a0.y)])]) (fun bs => pin) fun bs t o => ?_
  show vwp _ ib_laws_toPt _ _
  unfold ib_laws_toPt
  unfold gf_laws_toPt at h
  refine go ?_; intros
  cases h
  exact r_end
theorem d_laws_toPtS {G : Gam} (H_laws_toPt : Has G c_laws_toPt) (a0 : (List Pt)) (r : (List Pt)) (h : gf_laws_toPtS a0 = some r) : Does G if_laws_toPtS ks_laws_toPtS (c_laws_toPtS.args (a0)) [] (c_laws_toPtS.ans (a0) r) := by
  refine does_pn (L := [(0, .ro (List.map ePt a0))]) (fun bs => pin) fun bs t o => ?_
  show vwp _ ib_laws_toPtS _ _
  unfold ib_laws_toPtS
  unfold gf_laws_toPtS at h
  obtain ⟨h3, h⟩ := gd h
  refine go ?_; intros
  refine r_mks (f := ePt) (x := (⟨0, 0⟩ : Pt)) rfl rfl (band1 h3) (band2 h3) rfl fun b1 => ?_
  obtain ⟨hf41, h⟩ := gd h
  obtain ⟨q28, h49, h⟩ := bnd h
  refine go ?_; intros
  refine w_last (fun t o => ∃ b47 c48, Pin t (ovr [(3, .ref 56 b47 c48 0 q28.length 66)] t) ∧ PinH o (ovh [(56, ent b47 c48 66 (List.map ePt q28))] o)) ?_ ?_
  · refine w_loop2 (fun n t o => ∃ l35 k33 v30 b31 c32, gl_laws_toPtS_1 l35 k33 v30 = some q28 ∧ n = l35.length ∧ (a0).drop k33 = l35 ∧ Pin t (ovr [(0, .ro (List.map ePt a0)), (3, .ref 56 b31 c32 0 v30.length 66), (4, .v (.int .i64 (k33 : Int)))] t) ∧ PinH o (ovh [(56, ent b31 c32 66 (List.map ePt v30))] o)) _ ⟨_, _, _, _, _, h49, rfl, rfl, pin, pinh⟩ ?_
    rintro n t o ⟨l35, k33, v30, b31, c32, h49, rfl, hd36, q1, q2⟩
    refine pinned q1 q2 ?_
    cases l35 with
    | nil =>
      have hge38 := drop_ge hd36
      rw [gl_laws_toPtS_1] at h49
      refine go ?_; intros
      rw [hge38]
      refine go ?_; intros
      cases h49
      exact k_cn ⟨_, _, pin, pinh⟩
    | cons x34 l35 =>
      have hlt37 := drop_lt hd36
      have hx39 := drop_ix hd36
      have hw40 := drop_wr hd36 hf41
      rw [gl_laws_toPtS_1] at h49
      refine go ?_; intros
      rw [hlt37]
      refine go ?_; intros
      refine r_iro rfl rfl hx39 rfl ?_
      obtain ⟨x42, h43, h49⟩ := bnd h49
      refine go ?_; intros
      refine c_call (c := c_laws_toPt) (x34) H_laws_toPt h43 fun ch => ?_
      obtain ⟨x44, h45, h49⟩ := bnd h49
      refine go ?_; intros
      refine r_ire (xs := v30) rfl rfl h45 rfl ?_
      refine go ?_; intros
      refine c_ste (f := ePt) v30 x42 (idx_get h45).2 ?_
      refine go ?_; intros
      rw [hw40]
      exact k_ln2 _ (Nat.lt_succ_self _) ⟨_, _, _, _, _, h49, rfl, drop_next hd36, pin, pinh⟩
  rintro t o ⟨b47, c48, q1, q2⟩
  refine pinnedQ q1 q2 ?_
  refine go ?_; intros
  cases h
  exact r_end
theorem d_laws_toTag {G : Gam}  (a0 : Tag) (r : Tag) (h : gf_laws_toTag a0 = some r) : Does G if_laws_toTag ks_laws_toTag (c_laws_toTag.args (a0)) [] (c_laws_toTag.ans (a0) r) := by
  refine does_pn (L := [(0, .agg [.v (.string a0.key), .v (.string a0.val)])]) (fun bs => pin) fun bs t o => ?_
  show vwp _ ib_laws_toTag _ _
  unfold ib_laws_toTag
  unfold gf_laws_toTag at h
  refine go ?_; intros
  cases h
  exact r_end
theorem d_laws_toShape {G : Gam} (H_laws_toPtS : Has G c_laws_toPtS) (a0 : Shape) (r : Shape) (h : gf_laws_toShape a0 = some r) : Does G if_laws_toShape ks_laws_toShape (c_laws_toShape.args (a0)) [] (c_laws_toShape.ans (a0) r) := by
  refine does_pn (L := [(0, .agg [.v (.int .i64 a0.kind), .ro (List.map ePt a0.pts)])]) (fun bs => pin) fun bs t o => ?_
  show vwp _ ib_laws_toShape _ _
  unfold ib_laws_toShape
  unfold gf_laws_toShape at h
  obtain ⟨x4, h5, h⟩ := bnd h
  refine go ?_; intros
  refine c_call (c := c_laws_toPtS) (a0.pts) H_laws_toPtS h5 fun ch => ?_
  refine go ?_; intros
  cases h
  exact r_end
theorem d_laws_toTagS {G : Gam} (H_laws_toTag : Has G c_laws_toTag) (a0 : (List Tag)) (r : (List Tag)) (h : gf_laws_toTagS a0 = some r) : Does G if_laws_toTagS ks_laws_toTagS (c_laws_toTagS.args (a0)) [] (c_laws_toTagS.ans (a0) r) := by
  refine does_pn (L := [(0, .ro (List.map eTag a0))]) (fun bs => pin) fun bs t o => ?_
  show vwp _ ib_laws_toTagS _ _
  unfold ib_laws_toTagS
  unfold gf_laws_toTagS at h
  obtain ⟨h3, h⟩ := gd h
  refine go ?_; intros
  refine r_mks (f := eTag) (x := (⟨(⟨#[]⟩ : Str), (⟨#[]⟩ : Str)⟩ : Tag)) rfl rfl (band1 h3) (band2 h3) rfl fun b1 => ?_
  obtain ⟨hf41, h⟩ := gd h
  obtain ⟨q28, h49, h⟩ := bnd h
  refine go ?_; intros
  refine w_last (fun t o => ∃ b47 c48, Pin t (ovr [(3, .ref 56 b47 c48 0 q28.length 82)] t) ∧ PinH o (ovh [(56, ent b47 c48 82 (List.map eTag q28))] o)) ?_ ?_
  · refine w_loop2 (fun n t o => ∃ l35 k33 v30 b31 c32, gl_laws_toTagS_1 l35 k33 v30 = some q28 ∧ n = l35.length ∧ (a0).drop k33 = l35 ∧ Pin t (ovr [(0, .ro (List.map eTag a0)), (3, .ref 56 b31 c32 0 v30.length 82), (4, .v (.int .i64 (k33 : Int)))] t) ∧ PinH o (ovh [(56, ent b31 c32 82 (List.map eTag v30))] o)) _ ⟨_, _, _, _, _, h49, rfl, rfl, pin, pinh⟩ ?_
    rintro n t o ⟨l35, k33, v30, b31, c32, h49, rfl, hd36, q1, q2⟩
    refine pinned q1 q2 ?_
    cases l35 with
    | nil =>
      have hge38 := drop_ge hd36
      rw [gl_laws_toTagS_1] at h49
      refine go ?_; intros
      rw [hge38]
      refine go ?_; intros
      cases h49
      exact k_cn ⟨_, _, pin, pinh⟩
    | cons x34 l35 =>
      have hlt37 := drop_lt hd36
      have hx39 := drop_ix hd36
      have hw40 := drop_wr hd36 hf41
      rw [gl_laws_toTagS_1] at h49
      refine go ?_; intros
      rw [hlt37]
      refine go ?_; intros
      refine r_iro rfl rfl hx39 rfl ?_
      obtain ⟨x42, h43, h49⟩ := bnd h49
      refine go ?_; intros
      refine c_call (c := c_laws_toTag) (x34) H_laws_toTag h43 fun ch => ?_
      obtain ⟨x44, h45, h49⟩ := bnd h49
      refine go ?_; intros
      refine r_ire (xs := v30) rfl rfl h45 rfl ?_
      refine go ?_; intros
      refine c_ste (f := eTag) v30 x42 (idx_get h45).2 ?_
      refine go ?_; intros
      rw [hw40]
      exact k_ln2 _ (Nat.lt_succ_self _) ⟨_, _, _, _, _, h49, rfl, drop_next hd36, pin, pinh⟩
  rintro t o ⟨b47, c48, q1, q2⟩
  refine pinnedQ q1 q2 ?_
  refine go ?_; intros
  cases h
  exact r_end
theorem d_laws_toFeat {G : Gam} (H_laws_toShape : Has G c_laws_toShape) (H_laws_toTagS : Has G c_laws_toTagS) (a0 : Feat) (r : Feat) (h : gf_laws_toFeat a0 = some r) : Does G if_laws_toFeat ks_laws_toFeat (c_laws_toFeat.args (a0)) [] (c_laws_toFeat.ans (a0) r) := by
  refine does_pn (L := [(0, .agg [.v (.string a0.id), .v (.int .i64 a0.shape.kind), .ro (List.map ePt a0.shape.pts), .ro (List.map eTag a0.tags)])]) (fun bs => pin) fun bs t o => ?_
  show vwp _ ib_laws_toFeat _ _
  unfold ib_laws_toFeat
  unfold gf_laws_toFeat at h
  obtain ⟨q4, h26, h⟩ := bnd h
  refine go ?_; intros
  refine w_cut (fun t o => ∃ b9 b10 c11 b12 c13 b14 b16 c17 b18 c19 b21, Pin t (ovr [(1, .ptr 8 b9 372 0 0), (2, .ptr 16 b14 100 0 0), (3, .ptr 24 b21 100 0 0)] t) ∧ PinH o (ovh [(8, ⟨b9, 1, 372, true, [[.v (.string a0.id), .v (.int .i64 a0.shape.kind), .sl false 2 (List.map ePt a0.shape.pts), .sl false 2 (List.map eTag a0.tags)]]⟩), (1000258, ent b10 c11 66 (List.map ePt [])), (1000259, ent b12 c13 82 (List.map eTag [])), (16, ⟨b14, 1, 100, true, [[.v (.string (⟨#[]⟩ : Str)), .v (.int .i64 0), .al 1000258 b10 c11 0 ([] : List Pt).length 66, .al 1000259 b12 c13 0 ([] : List Tag).length 82]]⟩), (1000386, ent b16 c17 66 (List.map ePt q4.1)), (1000387, ent b18 c19 82 (List.map eTag [])), (24, ⟨b21, 1, 100, true, [[.v (.string a0.id), .v (.int .i64 q4.2), .al 1000386 b16 c17 0 q4.1.length 66, .al 1000387 b18 c19 0 ([] : List Tag).length 82]]⟩)] o)) ?_ ?_
  · obtain ⟨x5, h6, h26⟩ := bnd h26
    refine go ?_; intros
    refine c_call (c := c_laws_toShape) (a0.shape) H_laws_toShape h6 fun ch => ?_
    refine go ?_; intros
    cases h26
    exact k_cn ⟨_, _, _, _, _, _, _, _, _, _, _, pin, pinh⟩
  rintro t o ⟨b9, b10, c11, b12, c13, b14, b16, c17, b18, c19, b21, q1, q2⟩
  refine pinned q1 q2 ?_
  obtain ⟨x22, h23, h⟩ := bnd h
  refine go ?_; intros
  refine c_call (c := c_laws_toTagS) (a0.tags) H_laws_toTagS h23 fun ch => ?_
  refine go ?_; intros
  cases h
  exact r_end
end Go.Proofs.AM
