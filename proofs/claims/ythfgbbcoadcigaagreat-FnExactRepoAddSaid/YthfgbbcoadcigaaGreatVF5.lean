/- A part of the proofs of this seat's statements (VF5): lemmas on an abstract machine for the program's functions. Conditions: none. -/
import Derived.Test.YthfgbbcoadcigaaGreatVD
set_option linter.unusedVariables false
set_option maxRecDepth 100000
set_option maxHeartbeats 4000000
namespace Go.Proofs.AM
attribute [local irreducible] vwp vstps vstpLs vstp vdo vret kseq kblk kloop kend kcut kloop2 frzV renV shutK
theorem d_laws_toPt {G : Gam}  (a0 : Pt) (r : Pt) (h : gf_laws_toPt a0 = some r) : Does G if_laws_toPt ks_laws_toPt (c_laws_toPt.args (a0)) [] (c_laws_toPt.ans (a0) r) := by
  refine does_pn (L := [(0, .agg [.v (.int .i64 a0.x), .v (.int .i64 a0.y)])]) (fun bs => pin) fun bs t o => ?_
  show vwp _ ib_laws_toPt _ _
  unfold ib_laws_toPt
  unfold gf_laws_toPt at h
  refine go ?_; intros
  cases h
  exact r_end
theorem d_laws_toPtS {G : Gam} (H_laws_toPt : Has G c_laws_toPt) (a0 : (List Pt)) (r : (List Pt)) (h : gf_laws_toPtS a0 = some r) : Does G if_laws_toPtS ks_laws_toPtS (c_laws_toPtS.args (a0)) [] (c_laws_toPtS.ans (a0) r) := by
  refine does_pn (L := [(0, .ro (List.map ePt a0))]) (fun bs => pin) fun bs t o => ?_
  show vwp _ ib_laws_toPtS _ _
  unfold ib_laws_toPtS
  unfold gf_laws_toPtS at h
  obtain ⟨h3, h⟩ := gd h
  refine go ?_; intros
  refine r_mks (f := ePt) (x := (⟨0, 0⟩ : Pt)) rfl rfl (band1 h3) (band2 h3) rfl fun b1 => ?_
  obtain ⟨hf41, h⟩ := gd h
  obtain ⟨q28, h49, h⟩ := bnd h
  refine go ?_; intros
  refine w_last (fun t o => ∃ b47 c48, Pin t (ovr [(3, .ref 56 b47 c48 0 q28.length 66)] t) ∧ PinH o (ovh [(56, ent b47 c48 66 (List.map ePt q28))] o)) ?_ ?_
  · refine w_loop2 (fun n t o => ∃ l35 k33 v30 b31 c32, gl_laws_toPtS_1 l35 k33 v30 = some q28 ∧ n = l35.length ∧ (a0).drop k33 = l35 ∧ Pin t (ovr [(0, .ro (List.map ePt a0)), (3, .ref 56 b31 c32 0 v30.length 66), (4, .v (.int .i64 (k33 : Int)))] t) ∧ PinH o (ovh [(56, ent b31 c32 66 (List.map ePt v30))] o)) _ ⟨_, _, _, _, _, h49, rfl, rfl, pin, pinh⟩ ?_
    rintro n t o ⟨l35, k33, v30, b31, c32, h49, rfl, hd36, q1, q2⟩
    refine pinned q1 q2 ?_
    cases l35 with
    | nil =>
      have hge38 := drop_ge hd36
      rw [gl_laws_toPtS_1] at h49
      refine go ?_; intros
      rw [hge38]
      refine go ?_; intros
      cases h49
      exact k_cn ⟨_, _, pin, pinh⟩
    | cons x34 l35 =>
      have hlt37 := drop_lt hd36
      have hx39 := drop_ix hd36
      have hw40 := drop_wr hd36 hf41
      rw [gl_laws_toPtS_1] at h49
      refine go ?_; intros
      rw [hlt37]
      refine go ?_; intros
      refine r_iro rfl rfl hx39 rfl ?_
      obtain ⟨x42, h43, h49⟩ := bnd h49
      refine go ?_; intros
      refine c_call (c := c_laws_toPt) (x34) H_laws_toPt h43 fun ch => ?_
      obtain ⟨x44, h45, h49⟩ := bnd h49
      refine go ?_; intros
      refine r_ire (xs := v30) rfl rfl h45 rfl ?_
      refine go ?_; intros
      refine c_ste (f := ePt) v30 x42 (idx_get h45).2 ?_
      refine go ?_; intros
      rw [hw40]
      exact k_ln2 _ (Nat.lt_succ_self _) ⟨_, _, _, _, _, h49, rfl, drop_next hd36, pin, pinh⟩
  rintro t o ⟨b47, c48, q1, q2⟩
  refine pinnedQ q1 q2 ?_
  refine go ?_; intros
  cases h
  exact r_end
theorem d_laws_toTag {G : Gam}  (a0 : Tag) (r : Tag) (h : gf_laws_toTag a0 = some r) : Does G if_laws_toTag ks_laws_toTag (c_laws_toTag.args (a0)) [] (c_laws_toTag.ans (a0) r) := by
  refine does_pn (L := [(0, .agg [.v (.string a0.key), .v (.string a0.val)])]) (fun bs => pin) fun bs t o => ?_
  show vwp _ ib_laws_toTag _ _
  unfold ib_laws_toTag
  unfold gf_laws_toTag at h
  refine go ?_; intros
  cases h
  exact r_end
theorem d_laws_toShape {G : Gam} (H_laws_toPtS : Has G c_laws_toPtS) (a0 : Shape) (r : Shape) (h : gf_laws_toShape a0 = some r) : Does G if_laws_toShape ks_laws_toShape (c_laws_toShape.args (a0)) [] (c_laws_toShape.ans (a0) r) := by
  refine does_pn (L := [(0, .agg [.v (.int .i64 a0.kind), .ro (List.map ePt a0.pts)])]) (fun bs => pin) fun bs t o => ?_
  show vwp _ ib_laws_toShape _ _
  unfold ib_laws_toShape
  unfold gf_laws_toShape at h
  obtain ⟨x4, h5, h⟩ := bnd h
  refine go ?_; intros
  refine c_call (c := c_laws_toPtS) (a0.pts) H_laws_toPtS h5 fun ch => ?_
  refine go ?_; intros
  cases h
  exact r_end
theorem d_laws_toTagS {G : Gam} (H_laws_toTag : Has G c_laws_toTag) (a0 : (List Tag)) (r : (List Tag)) (h : gf_laws_toTagS a0 = some r) : Does G if_laws_toTagS ks_laws_toTagS (c_laws_toTagS.args (a0)) [] (c_laws_toTagS.ans (a0) r) := by
  refine does_pn (L := [(0, .ro (List.map eTag a0))]) (fun bs => pin) fun bs t o => ?_
  show vwp _ ib_laws_toTagS _ _
  unfold ib_laws_toTagS
  unfold gf_laws_toTagS at h
  obtain ⟨h3, h⟩ := gd h
  refine go ?_; intros
  refine r_mks (f := eTag) (x := (⟨(⟨#[]⟩ : Str), (⟨#[]⟩ : Str)⟩ : Tag)) rfl rfl (band1 h3) (band2 h3) rfl fun b1 => ?_
  obtain ⟨hf41, h⟩ := gd h
  obtain ⟨q28, h49, h⟩ := bnd h
  refine go ?_; intros
  refine w_last (fun t o => ∃ b47 c48, Pin t (ovr [(3, .ref 56 b47 c48 0 q28.length 82)] t) ∧ PinH o (ovh [(56, ent b47 c48 82 (List.map eTag q28))] o)) ?_ ?_
  · refine w_loop2 (fun n t o => ∃ l35 k33 v30 b31 c32, gl_laws_toTagS_1 l35 k33 v30 = some q28 ∧ n = l35.length ∧ (a0).drop k33 = l35 ∧ Pin t (ovr [(0, .ro (List.map eTag a0)), (3, .ref 56 b31 c32 0 v30.length 82), (4, .v (.int .i64 (k33 : Int)))] t) ∧ PinH o (ovh [(56, ent b31 c32 82 (List.map eTag v30))] o)) _ ⟨_, _, _, _, _, h49, rfl, rfl, pin, pinh⟩ ?_
    rintro n t o ⟨l35, k33, v30, b31, c32, h49, rfl, hd36, q1, q2⟩
    refine pinned q1 q2 ?_
    cases l35 with
    | nil =>
      have hge38 := drop_ge hd36
      rw [gl_laws_toTagS_1] at h49
      refine go ?_; intros
      rw [hge38]
      refine go ?_; intros
      cases h49
      exact k_cn ⟨_, _, pin, pinh⟩
    | cons x34 l35 =>
      have hlt37 := drop_lt hd36
      have hx39 := drop_ix hd36
      have hw40 := drop_wr hd36 hf41
      rw [gl_laws_toTagS_1] at h49
      refine go ?_; intros
      rw [hlt37]
      refine go ?_; intros
      refine r_iro rfl rfl hx39 rfl ?_
      obtain ⟨x42, h43, h49⟩ := bnd h49
      refine go ?_; intros
      refine c_call (c := c_laws_toTag) (x34) H_laws_toTag h43 fun ch => ?_
      obtain ⟨x44, h45, h49⟩ := bnd h49
      refine go ?_; intros
      refine r_ire (xs := v30) rfl rfl h45 rfl ?_
      refine go ?_; intros
      refine c_ste (f := eTag) v30 x42 (idx_get h45).2 ?_
      refine go ?_; intros
      rw [hw40]
      exact k_ln2 _ (Nat.lt_succ_self _) ⟨_, _, _, _, _, h49, rfl, drop_next hd36, pin, pinh⟩
  rintro t o ⟨b47, c48, q1, q2⟩
  refine pinnedQ q1 q2 ?_
  refine go ?_; intros
  cases h
  exact r_end
theorem d_laws_toFeat {G : Gam} (H_laws_toShape : Has G c_laws_toShape) (H_laws_toTagS : Has G c_laws_toTagS) (a0 : Feat) (r : Feat) (h : gf_laws_toFeat a0 = some r) : Does G if_laws_toFeat ks_laws_toFeat (c_laws_toFeat.args (a0)) [] (c_laws_toFeat.ans (a0) r) := by
  refine does_pn (L := [(0, .agg [.v (.string a0.id), .v (.int .i64 a0.shape.kind), .ro (List.map ePt a0.shape.pts), .ro (List.map eTag a0.tags)])]) (fun bs => pin) fun bs t o => ?_
  show vwp _ ib_laws_toFeat _ _
  unfold ib_laws_toFeat
  unfold gf_laws_toFeat at h
  obtain ⟨q4, h26, h⟩ := bnd h
  refine go ?_; intros
  refine w_cut (fun t o => ∃ b9 b10 c11 b12 c13 b14 b16 c17 b18 c19 b21, Pin t (ovr [(1, .ptr 8 b9 372 0 0), (2, .ptr 16 b14 100 0 0), (3, .ptr 24 b21 100 0 0)] t) ∧ PinH o (ovh [(8, ⟨b9, 1, 372, true, [[.v (.string a0.id), .v (.int .i64 a0.shape.kind), .sl false 2 (List.map ePt a0.shape.pts), .sl false 2 (List.map eTag a0.tags)]]⟩), (1000258, ent b10 c11 66 (List.map ePt [])), (1000259, ent b12 c13 82 (List.map eTag [])), (16, ⟨b14, 1, 100, true, [[.v (.string (⟨#[]⟩ : Str)), .v (.int .i64 0), .al 1000258 b10 c11 0 ([] : List Pt).length 66, .al 1000259 b12 c13 0 ([] : List Tag).length 82]]⟩), (1000386, ent b16 c17 66 (List.map ePt q4.1)), (1000387, ent b18 c19 82 (List.map eTag [])), (24, ⟨b21, 1, 100, true, [[.v (.string a0.id), .v (.int .i64 q4.2), .al 1000386 b16 c17 0 q4.1.length 66, .al 1000387 b18 c19 0 ([] : List Tag).length 82]]⟩)] o)) ?_ ?_
  · obtain ⟨x5, h6, h26⟩ := bnd h26
    refine go ?_; intros
    refine c_call (c := c_laws_toShape) (a0.shape) H_laws_toShape h6 fun ch => ?_
    refine go ?_; intros
    cases h26
    exact k_cn ⟨_, _, _, _, _, _, _, _, _, _, _, pin, pinh⟩
  rintro t o ⟨b9, b10, c11, b12, c13, b14, b16, c17, b18, c19, b21, q1, q2⟩
  refine pinned q1 q2 ?_
  obtain ⟨x22, h23, h⟩ := bnd h
  refine go ?_; intros
  refine c_call (c := c_laws_toTagS) (a0.tags) H_laws_toTagS h23 fun ch => ?_
  refine go ?_; intros
  cases h
  exact r_end
theorem d_laws_toIntS {G : Gam}  (a0 : (List Int)) (r : (List Int)) (h : gf_laws_toIntS a0 = some r) : Does G if_laws_toIntS ks_laws_toIntS (c_laws_toIntS.args (a0)) [] (c_laws_toIntS.ans (a0) r) := by
  refine does_pn (L := [(0, .ro (List.map eInt a0))]) (fun bs => pin) fun bs t o => ?_
  show vwp _ ib_laws_toIntS _ _
  unfold ib_laws_toIntS
  unfold gf_laws_toIntS at h
  obtain ⟨h3, h⟩ := gd h
  refine go ?_; intros
  refine r_mks (f := eInt) (x := 0) rfl rfl (band1 h3) (band2 h3) rfl fun b1 => ?_
  obtain ⟨hf35, h⟩ := gd h
  obtain ⟨q22, h41, h⟩ := bnd h
  refine go ?_; intros
  refine w_last (fun t o => ∃ b39 c40, Pin t (ovr [(3, .ref 56 b39 c40 0 q22.length 17)] t) ∧ PinH o (ovh [(56, ent b39 c40 17 (List.map eInt q22))] o)) ?_ ?_
  · refine w_loop2 (fun n t o => ∃ l29 k27 v24 b25 c26, gl_laws_toIntS_1 l29 k27 v24 = some q22 ∧ n = l29.length ∧ (a0).drop k27 = l29 ∧ Pin t (ovr [(0, .ro (List.map eInt a0)), (3, .ref 56 b25 c26 0 v24.length 17), (4, .v (.int .i64 (k27 : Int)))] t) ∧ PinH o (ovh [(56, ent b25 c26 17 (List.map eInt v24))] o)) _ ⟨_, _, _, _, _, h41, rfl, rfl, pin, pinh⟩ ?_
    rintro n t o ⟨l29, k27, v24, b25, c26, h41, rfl, hd30, q1, q2⟩
    refine pinned q1 q2 ?_
    cases l29 with
    | nil =>
      have hge32 := drop_ge hd30
      rw [gl_laws_toIntS_1] at h41
      refine go ?_; intros
      rw [hge32]
      refine go ?_; intros
      cases h41
      exact k_cn ⟨_, _, pin, pinh⟩
    | cons x28 l29 =>
      have hlt31 := drop_lt hd30
      have hx33 := drop_ix hd30
      have hw34 := drop_wr hd30 hf35
      rw [gl_laws_toIntS_1] at h41
      refine go ?_; intros
      rw [hlt31]
      refine go ?_; intros
      refine r_iro rfl rfl hx33 rfl ?_
      obtain ⟨x36, h37, h41⟩ := bnd h41
      refine go ?_; intros
      refine r_ire (xs := v24) rfl rfl h37 rfl ?_
      refine go ?_; intros
      refine c_ste (f := eInt) v24 x28 (idx_get h37).2 ?_
      refine go ?_; intros
      rw [hw34]
      exact k_ln2 _ (Nat.lt_succ_self _) ⟨_, _, _, _, _, h41, rfl, drop_next hd30, pin, pinh⟩
  rintro t o ⟨b39, c40, q1, q2⟩
  refine pinnedQ q1 q2 ?_
  refine go ?_; intros
  cases h
  exact r_end
theorem d_laws_toFeatS {G : Gam} (H_laws_toFeat : Has G c_laws_toFeat) (a0 : (List Feat)) (r : (List Feat)) (h : gf_laws_toFeatS a0 = some r) : Does G if_laws_toFeatS ks_laws_toFeatS (c_laws_toFeatS.args (a0)) [] (c_laws_toFeatS.ans (a0) r) := by
  refine does_pn (L := [(0, .ro (List.map (eFeat false) a0))]) (fun bs => pin) fun bs t o => ?_
  show vwp _ ib_laws_toFeatS _ _
  unfold ib_laws_toFeatS
  unfold gf_laws_toFeatS at h
  obtain ⟨h3, h⟩ := gd h
  refine go ?_; intros
  refine r_mks (f := (eFeat true)) (x := (⟨(⟨#[]⟩ : Str), ⟨0, []⟩, []⟩ : Feat)) rfl rfl (band1 h3) (band2 h3) rfl fun b1 => ?_
  obtain ⟨hf53, h⟩ := gd h
  obtain ⟨q40, h65, h⟩ := bnd h
  refine go ?_; intros
  refine w_last (fun t o => ∃ b63 c64, Pin t (ovr [(3, .ref 56 b63 c64 0 q40.length 100)] t) ∧ PinH o (ovh [(56, ent b63 c64 100 (List.map (eFeat true) q40))] o)) ?_ ?_
  · refine w_loop2 (fun n t o => ∃ l47 k45 v42 b43 c44, gl_laws_toFeatS_1 l47 k45 v42 = some q40 ∧ n = l47.length ∧ (a0).drop k45 = l47 ∧ Pin t (ovr [(0, .ro (List.map (eFeat false) a0)), (3, .ref 56 b43 c44 0 v42.length 100), (4, .v (.int .i64 (k45 : Int)))] t) ∧ PinH o (ovh [(56, ent b43 c44 100 (List.map (eFeat true) v42))] o)) _ ⟨_, _, _, _, _, h65, rfl, rfl, pin, pinh⟩ ?_
    rintro n t o ⟨l47, k45, v42, b43, c44, h65, rfl, hd48, q1, q2⟩
    refine pinned q1 q2 ?_
    cases l47 with
    | nil =>
      have hge50 := drop_ge hd48
      rw [gl_laws_toFeatS_1] at h65
      refine go ?_; intros
      rw [hge50]
      refine go ?_; intros
      cases h65
      exact k_cn ⟨_, _, pin, pinh⟩
    | cons x46 l47 =>
      have hlt49 := drop_lt hd48
      have hx51 := drop_ix hd48
      have hw52 := drop_wr hd48 hf53
      rw [gl_laws_toFeatS_1] at h65
      refine go ?_; intros
      rw [hlt49]
      refine go ?_; intros
      refine r_iro rfl rfl hx51 rfl ?_
      obtain ⟨x54, h55, h65⟩ := bnd h65
      refine go ?_; intros
      refine c_call (c := c_laws_toFeat) (x46) H_laws_toFeat h55 fun ch => ?_
      obtain ⟨x60, h61, h65⟩ := bnd h65
      refine go ?_; intros
      refine r_ire (xs := v42) rfl rfl h61 rfl ?_
      refine go ?_; intros
      refine c_ste (f := (eFeat true)) v42 x54 (idx_get h61).2 ?_
      refine go ?_; intros
      rw [hw52]
      exact k_ln2 _ (Nat.lt_succ_self _) ⟨_, _, _, _, _, h65, rfl, drop_next hd48, pin, pinh⟩
  rintro t o ⟨b63, c64, q1, q2⟩
  refine pinnedQ q1 q2 ?_
  refine go ?_; intros
  cases h
  exact r_end
theorem d_laws_toCommit {G : Gam} (H_laws_toIntS : Has G c_laws_toIntS) (H_laws_toFeatS : Has G c_laws_toFeatS) (a0 : Commit) (r : Commit) (h : gf_laws_toCommit a0 = some r) : Does G if_laws_toCommit ks_laws_toCommit (c_laws_toCommit.args (a0)) [] (c_laws_toCommit.ans (a0) r) := by
  refine does_pn (L := [(0, .agg [.ro (List.map eInt a0.up), .ro (List.map (eFeat false) a0.sheet), .v (.string a0.note)])]) (fun bs => pin) fun bs t o => ?_
  show vwp _ ib_laws_toCommit _ _
  unfold ib_laws_toCommit
  unfold gf_laws_toCommit at h
  obtain ⟨q4, h25, h⟩ := bnd h
  refine go ?_; intros
  refine w_cut (fun t o => ∃ b9 b10 c11 b12 c13 b14 b16 c17 b18 c19 b20, Pin t (ovr [(1, .ptr 8 b9 387 0 0), (2, .ptr 16 b14 115 0 0), (3, .ptr 24 b20 115 0 0)] t) ∧ PinH o (ovh [(8, ⟨b9, 1, 387, true, [[.sl false 1 (List.map eInt a0.up), .sl false 4 (List.map (eFeat false) a0.sheet), .v (.string a0.note)]]⟩), (1000256, ent b10 c11 17 (List.map eInt [])), (1000257, ent b12 c13 100 (List.map (eFeat true) [])), (16, ⟨b14, 1, 115, true, [[.al 1000256 b10 c11 0 ([] : List Int).length 17, .al 1000257 b12 c13 0 ([] : List Feat).length 100, .v (.string (⟨#[]⟩ : Str))]]⟩), (1000384, ent b16 c17 17 (List.map eInt q4)), (1000385, ent b18 c19 100 (List.map (eFeat true) [])), (24, ⟨b20, 1, 115, true, [[.al 1000384 b16 c17 0 q4.length 17, .al 1000385 b18 c19 0 ([] : List Feat).length 100, .v (.string (⟨#[]⟩ : Str))]]⟩)] o)) ?_ ?_
  · obtain ⟨x5, h6, h25⟩ := bnd h25
    refine go ?_; intros
    refine c_call (c := c_laws_toIntS) (a0.up) H_laws_toIntS h6 fun ch => ?_
    refine go ?_; intros
    cases h25
    exact k_cn ⟨_, _, _, _, _, _, _, _, _, _, _, pin, pinh⟩
  rintro t o ⟨b9, b10, c11, b12, c13, b14, b16, c17, b18, c19, b20, q1, q2⟩
  refine pinned q1 q2 ?_
  obtain ⟨x21, h22, h⟩ := bnd h
  refine go ?_; intros
  refine c_call (c := c_laws_toFeatS) (a0.sheet) H_laws_toFeatS h22 fun ch => ?_
  refine go ?_; intros
  cases h
  exact r_end
end Go.Proofs.AM
