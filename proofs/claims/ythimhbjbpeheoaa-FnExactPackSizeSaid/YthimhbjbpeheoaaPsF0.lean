/- A part of the proof of 'FnExactPackSizeSaid' (PsF0): lemmas on an abstract machine for the program's functions. Conditions: none. -/
import Derived.Test.YthimhbjbpeheoaaPsD
set_option linter.unusedVariables false
set_option maxRecDepth 100000
set_option maxHeartbeats 4000000
namespace Go.Proofs.AM
attribute [local irreducible] vwp vstps vstpLs vstp vdo vret kseq kblk kloop kend kcut kloop2 frzV renV
theorem d_laws_szPtS {G : Gam}  (a0 : (List Pt)) (a1 : Int) (r : Int) (h : gf_laws_szPtS a0 a1 = some r) : Does G if_laws_szPtS ks_laws_szPtS (c_laws_szPtS.args (a0, a1)) [] (c_laws_szPtS.ans r) := by
  refine does_pn (L := [(0, .ro (List.map ePt a0)), (1, .v (.int .i64 a1))]) (fun bs => pin) fun bs t o => ?_
  show vwp _ ib_laws_szPtS _ _
  unfold ib_laws_szPtS
  unfold gf_laws_szPtS at h
  refine go ?_; intros
  refine w_cond rfl (fun c => ?_) (fun c => ?_)
  · replace h := itt h c
    try rw [c]
    refine go ?_; intros
    cases h
    exact r_end
  replace h := itf h c
  try rw [c]
  refine go ?_; intros
  cases h
  exact r_end
theorem d_laws_szTag {G : Gam}  (a0 : Tag) (a1 : Int) (r : Int) (h : gf_laws_szTag a0 a1 = some r) : Does G if_laws_szTag ks_laws_szTag (c_laws_szTag.args (a0, a1)) [] (c_laws_szTag.ans r) := by
  refine does_pn (L := [(0, .agg [.v (.string a0.key), .v (.string a0.val)]), (1, .v (.int .i64 a1))]) (fun bs => pin) fun bs t o => ?_
  show vwp _ ib_laws_szTag _ _
  unfold ib_laws_szTag
  unfold gf_laws_szTag at h
  refine go ?_; intros
  refine w_cond rfl (fun c => ?_) (fun c => ?_)
  · replace h := itt h c
    try rw [c]
    refine go ?_; intros
    cases h
    exact r_end
  replace h := itf h c
  try rw [c]
  refine go ?_; intros
  refine w_cond rfl (fun c => ?_) (fun c => ?_)
  · replace h := itt h c
    try rw [c]
    refine go ?_; intros
    cases h
    exact r_end
  replace h := itf h c
  try rw [c]
  refine go ?_; intros
  cases h
  exact r_end
theorem d_laws_szShape {G : Gam} (H_laws_szPtS : Has G c_laws_szPtS) (a0 : Shape) (a1 : Int) (r : Int) (h : gf_laws_szShape a0 a1 = some r) : Does G if_laws_szShape ks_laws_szShape (c_laws_szShape.args (a0, a1)) [] (c_laws_szShape.ans r) := by
  refine does_pn (L := [(0, .agg [.v (.int .i64 a0.kind), .ro (List.map ePt a0.pts)]), (1, .v (.int .i64 a1))]) (fun bs => pin) fun bs t o => ?_
  show vwp _ ib_laws_szShape _ _
  unfold ib_laws_szShape
  unfold gf_laws_szShape at h
  obtain ⟨x2, h3, h⟩ := bnd h
  refine go ?_; intros
  refine c_call (c := c_laws_szPtS) (a0.pts, a1) H_laws_szPtS h3 fun ch => ?_
  refine go ?_; intros
  refine w_cond rfl (fun c => ?_) (fun c => ?_)
  · replace h := itt h c
    try rw [c]
    refine go ?_; intros
    cases h
    exact r_end
  replace h := itf h c
  try rw [c]
  refine go ?_; intros
  cases h
  exact r_end
theorem d_laws_szTagS {G : Gam} (H_laws_szTag : Has G c_laws_szTag) (a0 : (List Tag)) (a1 : Int) (r : Int) (h : gf_laws_szTagS a0 a1 = some r) : Does G if_laws_szTagS ks_laws_szTagS (c_laws_szTagS.args (a0, a1)) [] (c_laws_szTagS.ans r) := by
  refine does_pn (L := [(0, .ro (List.map eTag a0)), (1, .v (.int .i64 a1))]) (fun bs => pin) fun bs t o => ?_
  show vwp _ ib_laws_szTagS _ _
  unfold ib_laws_szTagS
  unfold gf_laws_szTagS at h
  refine go ?_; intros
  refine w_cond rfl (fun c => ?_) (fun c => ?_)
  · replace h := itt h c
    try rw [c]
    refine go ?_; intros
    cases h
    exact r_end
  replace h := itf h c
  try rw [c]
  obtain ⟨hf26, h⟩ := gd h
  obtain ⟨q15, h30, h⟩ := bnd h
  refine go ?_; intros
  refine w_last (fun t o => ∃ q15_, q15 = .inr q15_ ∧ Pin t (ovr [(1, .v (.int .i64 q15_))] t) ∧ PinH o (ovh [] o)) ?_ ?_
  · refine w_loop2 (fun n t o => ∃ l20 k18 v16 , gl_laws_szTagS_1 l20 k18 v16 = some q15 ∧ n = l20.length ∧ (a0).drop k18 = l20 ∧ Pin t (ovr [(0, .ro (List.map eTag a0)), (1, .v (.int .i64 v16)), (5, .v (.int .i64 (k18 : Int)))] t) ∧ PinH o (ovh [] o)) _ ⟨_, _, _, h30, rfl, rfl, pin, pinh⟩ ?_
    rintro n t o ⟨l20, k18, v16, h30, rfl, hd21, q1, q2⟩
    refine pinned q1 q2 ?_
    cases l20 with
    | nil =>
      have hge23 := drop_ge hd21
      rw [gl_laws_szTagS_1] at h30
      refine go ?_; intros
      rw [hge23]
      refine go ?_; intros
      cases h30
      exact k_cn ⟨_, rfl, pin, pinh⟩
    | cons x19 l20 =>
      have hlt22 := drop_lt hd21
      have hx24 := drop_ix hd21
      have hw25 := drop_wr hd21 hf26
      rw [gl_laws_szTagS_1] at h30
      refine go ?_; intros
      rw [hlt22]
      refine go ?_; intros
      refine r_iro rfl rfl hx24 rfl ?_
      obtain ⟨x27, h28, h30⟩ := bnd h30
      refine go ?_; intros
      refine c_call (c := c_laws_szTag) (x19, v16) H_laws_szTag h28 fun ch => ?_
      refine go ?_; intros
      refine w_cond rfl (fun c => ?_) (fun c => ?_)
      · replace h30 := itt h30 c
        try rw [c]
        refine go ?_; intros
        cases h30
        replace h : some _ = some _ := h
        cases h
        exact r_end
      replace h30 := itf h30 c
      try rw [c]
      refine go ?_; intros
      rw [hw25]
      exact k_ln2 _ (Nat.lt_succ_self _) ⟨_, _, _, h30, rfl, drop_next hd21, pin, pinh⟩
  rintro t o ⟨q15, rfl, q1, q2⟩
  refine pinnedQ q1 q2 ?_
  refine go ?_; intros
  cases h
  exact r_end
theorem d_laws_szFeat {G : Gam} (H_laws_szShape : Has G c_laws_szShape) (H_laws_szTagS : Has G c_laws_szTagS) (a0 : Feat) (a1 : Int) (r : Int) (h : gf_laws_szFeat a0 a1 = some r) : Does G if_laws_szFeat ks_laws_szFeat (c_laws_szFeat.args (a0, a1)) [] (c_laws_szFeat.ans r) := by
  refine does_pn (L := [(0, .agg [.v (.string a0.id), .v (.int .i64 a0.shape.kind), .ro (List.map ePt a0.shape.pts), .ro (List.map eTag a0.tags)]), (1, .v (.int .i64 a1))]) (fun bs => pin) fun bs t o => ?_
  show vwp _ ib_laws_szFeat _ _
  unfold ib_laws_szFeat
  unfold gf_laws_szFeat at h
  refine go ?_; intros
  refine w_cond rfl (fun c => ?_) (fun c => ?_)
  · replace h := itt h c
    try rw [c]
    refine go ?_; intros
    cases h
    exact r_end
  replace h := itf h c
  try rw [c]
  obtain ⟨x2, h3, h⟩ := bnd h
  refine go ?_; intros
  refine c_call (c := c_laws_szShape) (a0.shape, (IntKind.i64.wrap (a1 - (a0.id.size : Int)))) H_laws_szShape h3 fun ch => ?_
  refine go ?_; intros
  refine w_cond rfl (fun c => ?_) (fun c => ?_)
  · replace h := itt h c
    try rw [c]
    refine go ?_; intros
    cases h
    exact r_end
  replace h := itf h c
  try rw [c]
  obtain ⟨x4, h5, h⟩ := bnd h
  refine go ?_; intros
  refine c_call (c := c_laws_szTagS) (a0.tags, x2) H_laws_szTagS h5 fun ch => ?_
  refine go ?_; intros
  refine w_cond rfl (fun c => ?_) (fun c => ?_)
  · replace h := itt h c
    try rw [c]
    refine go ?_; intros
    cases h
    exact r_end
  replace h := itf h c
  try rw [c]
  refine go ?_; intros
  cases h
  exact r_end
theorem d_laws_szIntS {G : Gam}  (a0 : (List Int)) (a1 : Int) (r : Int) (h : gf_laws_szIntS a0 a1 = some r) : Does G if_laws_szIntS ks_laws_szIntS (c_laws_szIntS.args (a0, a1)) [] (c_laws_szIntS.ans r) := by
  refine does_pn (L := [(0, .ro (List.map eInt a0)), (1, .v (.int .i64 a1))]) (fun bs => pin) fun bs t o => ?_
  show vwp _ ib_laws_szIntS _ _
  unfold ib_laws_szIntS
  unfold gf_laws_szIntS at h
  refine go ?_; intros
  refine w_cond rfl (fun c => ?_) (fun c => ?_)
  · replace h := itt h c
    try rw [c]
    refine go ?_; intros
    cases h
    exact r_end
  replace h := itf h c
  try rw [c]
  refine go ?_; intros
  cases h
  exact r_end
theorem d_laws_toPt {G : Gam}  (a0 : Pt) (r : Pt) (h : gf_laws_toPt a0 = some r) : Does G if_laws_toPt ks_laws_toPt (c_laws_toPt.args (a0)) [] (c_laws_toPt.ans r) := by
  refine does_pn (L := [(0, .agg [.v (.int .i64 a0.x), .v (.int .i64 a0.y)])]) (fun bs => pin) fun bs t o => ?_
  show vwp _ ib_laws_toPt _ _
  unfold ib_laws_toPt
  unfold gf_laws_toPt at h
  refine go ?_; intros
  cases h
  exact r_end
theorem d_laws_toPtS {G : Gam} (H_laws_toPt : Has G c_laws_toPt) (a0 : (List Pt)) (r : (List Pt)) (h : gf_laws_toPtS a0 = some r) : Does G if_laws_toPtS ks_laws_toPtS (c_laws_toPtS.args (a0)) [] (c_laws_toPtS.ans r) := by
  refine does_pn (L := [(0, .ro (List.map ePt a0))]) (fun bs => pin) fun bs t o => ?_
  show vwp _ ib_laws_toPtS _ _
  unfold ib_laws_toPtS
  unfold gf_laws_toPtS at h
  obtain ⟨h3, h⟩ := gd h
  refine go ?_; intros
  refine r_mks (f := ePt) (x := (⟨0, 0⟩ : Pt)) rfl rfl (band1 h3) (band2 h3) rfl fun b1 => ?_
  obtain ⟨hf41, h⟩ := gd h
  obtain ⟨q28, h49, h⟩ := bnd h
  refine go ?_; intros
  refine w_last (fun t o => ∃ b47 c48, Pin t (ovr [(3, .ref 56 b47 c48 0 q28.length 66)] t) ∧ PinH o (ovh [(56, ent b47 c48 66 (List.map ePt q28))] o)) ?_ ?_
  · refine w_loop2 (fun n t o => ∃ l35 k33 v30 b31 c32, gl_laws_toPtS_1 l35 k33 v30 = some q28 ∧ n = l35.length ∧ (a0).drop k33 = l35 ∧ Pin t (ovr [(0, .ro (List.map ePt a0)), (3, .ref 56 b31 c32 0 v30.length 66), (4, .v (.int .i64 (k33 : Int)))] t) ∧ PinH o (ovh [(56, ent b31 c32 66 (List.map ePt v30))] o)) _ ⟨_, _, _, _, _, h49, rfl, rfl, pin, pinh⟩ ?_
    rintro n t o ⟨l35, k33, v30, b31, c32, h49, rfl, hd36, q1, q2⟩
    refine pinned q1 q2 ?_
    cases l35 with
    | nil =>
      have hge38 := drop_ge hd36
      rw [gl_laws_toPtS_1] at h49
      refine go ?_; intros
      rw [hge38]
      refine go ?_; intros
      cases h49
      exact k_cn ⟨_, _, pin, pinh⟩
    | cons x34 l35 =>
      have hlt37 := drop_lt hd36
      have hx39 := drop_ix hd36
      have hw40 := drop_wr hd36 hf41
      rw [gl_laws_toPtS_1] at h49
      refine go ?_; intros
      rw [hlt37]
      refine go ?_; intros
      refine r_iro rfl rfl hx39 rfl ?_
      obtain ⟨x42, h43, h49⟩ := bnd h49
      refine go ?_; intros
      refine c_call (c := c_laws_toPt) (x34) H_laws_toPt h43 fun ch => ?_
      obtain ⟨x44, h45, h49⟩ := bnd h49
      refine go ?_; intros
      refine r_ire (xs := v30) rfl rfl h45 rfl ?_
      refine go ?_; intros
      refine c_ste (f := ePt) v30 x42 (idx_get h45).2 ?_
      refine go ?_; intros
      rw [hw40]
      exact k_ln2 _ (Nat.lt_succ_self _) ⟨_, _, _, _, _, h49, rfl, drop_next hd36, pin, pinh⟩
  rintro t o ⟨b47, c48, q1, q2⟩
  refine pinnedQ q1 q2 ?_
  refine go ?_; intros
  cases h
  exact r_end
theorem d_laws_toTag {G : Gam}  (a0 : Tag) (r : Tag) (h : gf_laws_toTag a0 = some r) : Does G if_laws_toTag ks_laws_toTag (c_laws_toTag.args (a0)) [] (c_laws_toTag.ans r) := by
  refine does_pn (L := [(0, .agg [.v (.string a0.key), .v (.string a0.val)])]) (fun bs => pin) fun bs t o => ?_
  show vwp _ ib_laws_toTag _ _
  unfold ib_laws_toTag
  unfold gf_laws_toTag at h
  refine go ?_; intros
  cases h
  exact r_end
theorem d_laws_toShape {G : Gam} (H_laws_toPtS : Has G c_laws_toPtS) (a0 : Shape) (r : Shape) (h : gf_laws_toShape a0 = some r) : Does G if_laws_toShape ks_laws_toShape (c_laws_toShape.args (a0)) [] (c_laws_toShape.ans r) := by
  refine does_pn (L := [(0, .agg [.v (.int .i64 a0.kind), .ro (List.map ePt a0.pts)])]) (fun bs => pin) fun bs t o => ?_
  show vwp _ ib_laws_toShape _ _
  unfold ib_laws_toShape
  unfold gf_laws_toShape at h
  obtain ⟨x4, h5, h⟩ := bnd h
  refine go ?_; intros
  refine c_call (c := c_laws_toPtS) (a0.pts) H_laws_toPtS h5 fun ch => ?_
  refine go ?_; intros
  cases h
  exact r_end
theorem d_laws_toTagS {G : Gam} (H_laws_toTag : Has G c_laws_toTag) (a0 : (List Tag)) (r : (List Tag)) (h : gf_laws_toTagS a0 = some r) : Does G if_laws_toTagS ks_laws_toTagS (c_laws_toTagS.args (a0)) [] (c_laws_toTagS.ans r) := by
  refine does_pn (L := [(0, .ro (List.map eTag a0))]) (fun bs => pin) fun bs t o => ?_
  show vwp _ ib_laws_toTagS _ _
  unfold ib_laws_toTagS
  unfold gf_laws_toTagS at h
  obtain ⟨h3, h⟩ := gd h
  refine go ?_; intros
  refine r_mks (f := eTag) (x := (⟨(⟨#[]⟩ : Str), (⟨#[]⟩ : Str)⟩ : Tag)) rfl rfl (band1 h3) (band2 h3) rfl fun b1 => ?_
  obtain ⟨hf41, h⟩ := gd h
  obtain ⟨q28, h49, h⟩ := bnd h
  refine go ?_; intros
  refine w_last (fun t o => ∃ b47 c48, Pin t (ovr [(3, .ref 56 b47 c48 0 q28.length 82)] t) ∧ PinH o (ovh [(56, ent b47 c48 82 (List.map eTag q28))] o)) ?_ ?_
  · refine w_loop2 (fun n t o => ∃ l35 k33 v30 b31 c32, gl_laws_toTagS_1 l35 k33 v30 = some q28 ∧ n = l35.length ∧ (a0).drop k33 = l35 ∧ Pin t (ovr [(0, .ro (List.map eTag a0)), (3, .ref 56 b31 c32 0 v30.length 82), (4, .v (.int .i64 (k33 : Int)))] t) ∧ PinH o (ovh [(56, ent b31 c32 82 (List.map eTag v30))] o)) _ ⟨_, _, _, _, _, h49, rfl, rfl, pin, pinh⟩ ?_
    rintro n t o ⟨l35, k33, v30, b31, c32, h49, rfl, hd36, q1, q2⟩
    refine pinned q1 q2 ?_
    cases l35 with
    | nil =>
      have hge38 := drop_ge hd36
      rw [gl_laws_toTagS_1] at h49
      refine go ?_; intros
      rw [hge38]
      refine go ?_; intros
      cases h49
      exact k_cn ⟨_, _, pin, pinh⟩
    | cons x34 l35 =>
      have hlt37 := drop_lt hd36
      have hx39 := drop_ix hd36
      have hw40 := drop_wr hd36 hf41
      rw [gl_laws_toTagS_1] at h49
      refine go ?_; intros
      rw [hlt37]
      refine go ?_; intros
      refine r_iro rfl rfl hx39 rfl ?_
      obtain ⟨x42, h43, h49⟩ := bnd h49
      refine go ?_; intros
      refine c_call (c := c_laws_toTag) (x34) H_laws_toTag h43 fun ch => ?_
      obtain ⟨x44, h45, h49⟩ := bnd h49
      refine go ?_; intros
      refine r_ire (xs := v30) rfl rfl h45 rfl ?_
      refine go ?_; intros
      refine c_ste (f := eTag) v30 x42 (idx_get h45).2 ?_
      refine go ?_; intros
      rw [hw40]
      exact k_ln2 _ (Nat.lt_succ_self _) ⟨_, _, _, _, _, h49, rfl, drop_next hd36, pin, pinh⟩
  rintro t o ⟨b47, c48, q1, q2⟩
  refine pinnedQ q1 q2 ?_
  refine go ?_; intros
  cases h
  exact r_end
theorem d_laws_toFeat {G : Gam} (H_laws_toShape : Has G c_laws_toShape) (H_laws_toTagS : Has G c_laws_toTagS) (a0 : Feat) (r : Feat) (h : gf_laws_toFeat a0 = some r) : Does G if_laws_toFeat ks_laws_toFeat (c_laws_toFeat.args (a0)) [] (c_laws_toFeat.ans r) := by
  refine does_pn (L := [(0, .agg [.v (.string a0.id), .v (.int .i64 a0.shape.kind), .ro (List.map ePt a0.shape.pts), .ro (List.map eTag a0.tags)])]) (fun bs => pin) fun bs t o => ?_
  show vwp _ ib_laws_toFeat _ _
  unfold ib_laws_toFeat
  unfold gf_laws_toFeat at h
  obtain ⟨q4, h26, h⟩ := bnd h
  refine go ?_; intros
  refine w_cut (fun t o => ∃ b9 b10 c11 b12 c13 b14 b16 c17 b18 c19 b21, Pin t (ovr [(1, .ptr 8 b9 372 0 0), (2, .ptr 16 b14 100 0 0), (3, .ptr 24 b21 100 0 0)] t) ∧ PinH o (ovh [(8, ⟨b9, 1, 372, true, [[.v (.string a0.id), .v (.int .i64 a0.shape.kind), .sl false 2 (List.map ePt a0.shape.pts), .sl false 2 (List.map eTag a0.tags)]]⟩), (1000258, ent b10 c11 66 (List.map ePt [])), (1000259, ent b12 c13 82 (List.map eTag [])), (16, ⟨b14, 1, 100, true, [[.v (.string (⟨#[]⟩ : Str)), .v (.int .i64 0), .al 1000258 b10 c11 0 ([] : List Pt).length 66, .al 1000259 b12 c13 0 ([] : List Tag).length 82]]⟩), (1000386, ent b16 c17 66 (List.map ePt q4.1)), (1000387, ent b18 c19 82 (List.map eTag [])), (24, ⟨b21, 1, 100, true, [[.v (.string a0.id), .v (.int .i64 q4.2), .al 1000386 b16 c17 0 q4.1.length 66, .al 1000387 b18 c19 0 ([] : List Tag).length 82]]⟩)] o)) ?_ ?_
  · obtain ⟨x5, h6, h26⟩ := bnd h26
    refine go ?_; intros
    refine c_call (c := c_laws_toShape) (a0.shape) H_laws_toShape h6 fun ch => ?_
    refine go ?_; intros
    cases h26
    exact k_cn ⟨_, _, _, _, _, _, _, _, _, _, _, pin, pinh⟩
  rintro t o ⟨b9, b10, c11, b12, c13, b14, b16, c17, b18, c19, b21, q1, q2⟩
  refine pinned q1 q2 ?_
  obtain ⟨x22, h23, h⟩ := bnd h
  refine go ?_; intros
  refine c_call (c := c_laws_toTagS) (a0.tags) H_laws_toTagS h23 fun ch => ?_
  refine go ?_; intros
  cases h
  exact r_end
end Go.Proofs.AM
