/- Lemmas of the proof (KLF6), on an abstract machine. Conditions: none. -/
import Derived.Test.YtknajiljcemblabGreatKLD
set_option linter.unusedVariables false
set_option linter.unusedSimpArgs false
set_option maxRecDepth 100000
set_option maxHeartbeats 4000000
namespace Go.Proofs.AM
attribute [local irreducible] vwp vstps vstpLs vstp vdo vret kseq kblk kloop kend kcut kloop2 frzV renV shutK pfzV trnV unrV
theorem d_cu9 {G : Gam} (H_ct9 : Has G c_ct9) (a0 : (List Feat)) (r : (List Feat)) (h : gf_cu9 a0 = some r) : Does G if_cu9 ks_cu9 (c_cu9.args (a0)) [] (c_cu9.ans (a0) r) := by
 refine does_pn (L := [(0, .ro (List.map (eFeat false) a0))]) (fun bs => pin) fun bs t o => ?_
 show vwp _ ib_cu9 _ _
 unfold ib_cu9
 refine w_ir ?_
 unfold gf_cu9 at h
 obtain ⟨h3, h⟩ := gd h
 refine go ?_;intros
 refine r_mks (f := (eFeat true)) (x := (⟨(⟨#[]⟩ : Str), ⟨0, []⟩, []⟩ : Feat)) rfl rfl (band1 h3) (band2 h3) rfl fun b1 => ?_
 obtain ⟨hf53, h⟩ := gd h
 obtain ⟨q40, h65, h⟩ := bnd h
 refine go ?_;intros
 refine w_last (fun t o => ∃ b63 c64, Pin t (ovr [(3, .ref 56 b63 c64 0 q40.length 100)] t) ∧ PinH o (ovh [(56, ent b63 c64 100 (List.map (eFeat true) q40))] o)) ?_ ?_
 ·refine w_loop2 (fun n t o => ∃ l47 k45 v42 b43 c44, gl_cu9_1 l47 k45 v42 = some q40 ∧ n = l47.length ∧ (a0).drop k45 = l47 ∧ Pin t (ovr [(0, .ro (List.map (eFeat false) a0)), (3, .ref 56 b43 c44 0 v42.length 100), (4, .v (.int .i64 (k45 : Int)))] t) ∧ PinH o (ovh [(56, ent b43 c44 100 (List.map (eFeat true) v42))] o)) _ ⟨_, _, _, _, _, h65, rfl, rfl, pin, pinh⟩ ?_
  rintro n t o ⟨l47, k45, v42, b43, c44, h65, rfl, hd48, pq1, pq2⟩
  refine pinned pq1 pq2 ?_
  cases l47 with
  | nil =>
   have hge50 := drop_ge hd48
   rw [gl_cu9_1] at h65
   refine go ?_;intros
   rw [hge50]
   refine go ?_;intros
   cases h65
   exact k_cn ⟨_, _, pin, pinh⟩
  | cons x46 l47 =>
   have hlt49 := drop_lt hd48
   have hx51 := drop_ix hd48
   have hw52 := drop_wr hd48 hf53
   rw [gl_cu9_1] at h65
   refine go ?_;intros
   rw [hlt49]
   refine go ?_;intros
   refine r_iro rfl rfl hx51 rfl ?_
   obtain ⟨x54, h55, h65⟩ := bnd h65
   refine go ?_;intros
   refine c_call (c := c_ct9) (x46) H_ct9 h55 fun ch => ?_
   obtain ⟨x60, h61, h65⟩ := bnd h65
   refine go ?_;intros
   refine r_ire (xs := v42) rfl rfl h61 rfl ?_
   refine go ?_;intros
   refine c_ste (f := (eFeat true)) v42 x54 (idx_get h61).2 ?_
   refine go ?_;intros
   rw [hw52]
   exact k_ln2 _ (Nat.lt_succ_self _) ⟨_, _, _, _, _, h65, rfl, drop_next hd48, pin, pinh⟩
 rintro t o ⟨b63, c64, pq1, pq2⟩
 refine pinnedQ pq1 pq2 ?_
 refine go ?_;intros
 cases h
 exact r_end
theorem d_cr9 {G : Gam} (H_cx9 : Has G c_cx9) (H_cu9 : Has G c_cu9) (a0 : Commit) (r : Commit) (h : gf_cr9 a0 = some r) : Does G if_cr9 ks_cr9 (c_cr9.args (a0)) [] (c_cr9.ans (a0) r) := by
 refine does_pn (L := [(0, .agg [.ro (List.map eInt a0.up), .ro (List.map (eFeat false) a0.sheet), .v (.string a0.note)])]) (fun bs => pin) fun bs t o => ?_
 show vwp _ ib_cr9 _ _
 unfold ib_cr9
 refine w_ir ?_
 unfold gf_cr9 at h
 obtain ⟨q4, h25, h⟩ := bnd h
 refine go ?_;intros
 refine w_cut (fun t o => ∃ b9 b10 c11 b12 c13 b14 b16 c17 b18 c19 b20, Pin t (ovr [(1, .ptr 8 b9 387 0 0), (2, .ptr 16 b14 115 0 0), (3, .ptr 24 b20 115 0 0)] t) ∧ PinH o (ovh [(8, ⟨b9, 1, 387, true, [[.sl false 1 (List.map eInt a0.up), .sl false 4 (List.map (eFeat false) a0.sheet), .v (.string a0.note)]]⟩), (1000256, ent b10 c11 17 (List.map eInt [])), (1000257, ent b12 c13 100 (List.map (eFeat true) [])), (16, ⟨b14, 1, 115, true, [[.al 1000256 b10 c11 0 ([] : List Int).length 17, .al 1000257 b12 c13 0 ([] : List Feat).length 100, .v (.string (⟨#[]⟩ : Str))]]⟩), (1000384, ent b16 c17 17 (List.map eInt q4)), (1000385, ent b18 c19 100 (List.map (eFeat true) [])), (24, ⟨b20, 1, 115, true, [[.al 1000384 b16 c17 0 q4.length 17, .al 1000385 b18 c19 0 ([] : List Feat).length 100, .v (.string (⟨#[]⟩ : Str))]]⟩)] o)) ?_ ?_
 ·obtain ⟨x5, h6, h25⟩ := bnd h25
  refine go ?_;intros
  refine c_call (c := c_cx9) (a0.up) H_cx9 h6 fun ch => ?_
  refine go ?_;intros
  cases h25
  exact k_cn ⟨_, _, _, _, _, _, _, _, _, _, _, pin, pinh⟩
 rintro t o ⟨b9, b10, c11, b12, c13, b14, b16, c17, b18, c19, b20, pq1, pq2⟩
 refine pinned pq1 pq2 ?_
 obtain ⟨x21, h22, h⟩ := bnd h
 refine go ?_;intros
 refine c_call (c := c_cu9) (a0.sheet) H_cu9 h22 fun ch => ?_
 refine go ?_;intros
 cases h
 exact r_end
theorem d_cv9 {G : Gam}  (a0 : Head) (r : Head) (h : gf_cv9 a0 = some r) : Does G if_cv9 ks_cv9 (c_cv9.args (a0)) [] (c_cv9.ans (a0) r) := by
 refine does_pn (L := [(0, .agg [.v (.string a0.name), .v (.int .i64 a0.at_)])]) (fun bs => pin) fun bs t o => ?_
 show vwp _ ib_cv9 _ _
 unfold ib_cv9
 refine w_ir ?_
 unfold gf_cv9 at h
 refine go ?_;intros
 cases h
 exact r_end
theorem d_cs9 {G : Gam} (H_cr9 : Has G c_cr9) (a0 : (List Commit)) (r : (List Commit)) (h : gf_cs9 a0 = some r) : Does G if_cs9 ks_cs9 (c_cs9.args (a0)) [] (c_cs9.ans (a0) r) := by
 refine does_pn (L := [(0, .ro (List.map (eCommit false) a0))]) (fun bs => pin) fun bs t o => ?_
 show vwp _ ib_cs9 _ _
 unfold ib_cs9
 refine w_ir ?_
 unfold gf_cs9 at h
 obtain ⟨h3, h⟩ := gd h
 refine go ?_;intros
 refine r_mks (f := (eCommit true)) (x := (⟨[], [], (⟨#[]⟩ : Str)⟩ : Commit)) rfl rfl (band1 h3) (band2 h3) rfl fun b1 => ?_
 obtain ⟨hf53, h⟩ := gd h
 obtain ⟨q40, h65, h⟩ := bnd h
 refine go ?_;intros
 refine w_last (fun t o => ∃ b63 c64, Pin t (ovr [(3, .ref 56 b63 c64 0 q40.length 115)] t) ∧ PinH o (ovh [(56, ent b63 c64 115 (List.map (eCommit true) q40))] o)) ?_ ?_
 ·refine w_loop2 (fun n t o => ∃ l47 k45 v42 b43 c44, gl_cs9_1 l47 k45 v42 = some q40 ∧ n = l47.length ∧ (a0).drop k45 = l47 ∧ Pin t (ovr [(0, .ro (List.map (eCommit false) a0)), (3, .ref 56 b43 c44 0 v42.length 115), (4, .v (.int .i64 (k45 : Int)))] t) ∧ PinH o (ovh [(56, ent b43 c44 115 (List.map (eCommit true) v42))] o)) _ ⟨_, _, _, _, _, h65, rfl, rfl, pin, pinh⟩ ?_
  rintro n t o ⟨l47, k45, v42, b43, c44, h65, rfl, hd48, pq1, pq2⟩
  refine pinned pq1 pq2 ?_
  cases l47 with
  | nil =>
   have hge50 := drop_ge hd48
   rw [gl_cs9_1] at h65
   refine go ?_;intros
   rw [hge50]
   refine go ?_;intros
   cases h65
   exact k_cn ⟨_, _, pin, pinh⟩
  | cons x46 l47 =>
   have hlt49 := drop_lt hd48
   have hx51 := drop_ix hd48
   have hw52 := drop_wr hd48 hf53
   rw [gl_cs9_1] at h65
   refine go ?_;intros
   rw [hlt49]
   refine go ?_;intros
   refine r_iro rfl rfl hx51 rfl ?_
   obtain ⟨x54, h55, h65⟩ := bnd h65
   refine go ?_;intros
   refine c_call (c := c_cr9) (x46) H_cr9 h55 fun ch => ?_
   obtain ⟨x60, h61, h65⟩ := bnd h65
   refine go ?_;intros
   refine r_ire (xs := v42) rfl rfl h61 rfl ?_
   refine go ?_;intros
   refine c_ste (f := (eCommit true)) v42 x54 (idx_get h61).2 ?_
   refine go ?_;intros
   rw [hw52]
   exact k_ln2 _ (Nat.lt_succ_self _) ⟨_, _, _, _, _, h65, rfl, drop_next hd48, pin, pinh⟩
 rintro t o ⟨b63, c64, pq1, pq2⟩
 refine pinnedQ pq1 pq2 ?_
 refine go ?_;intros
 cases h
 exact r_end
theorem d_cw9 {G : Gam} (H_cv9 : Has G c_cv9) (a0 : (List Head)) (r : (List Head)) (h : gf_cw9 a0 = some r) : Does G if_cw9 ks_cw9 (c_cw9.args (a0)) [] (c_cw9.ans (a0) r) := by
 refine does_pn (L := [(0, .ro (List.map eHead a0))]) (fun bs => pin) fun bs t o => ?_
 show vwp _ ib_cw9 _ _
 unfold ib_cw9
 refine w_ir ?_
 unfold gf_cw9 at h
 obtain ⟨h3, h⟩ := gd h
 refine go ?_;intros
 refine r_mks (f := eHead) (x := (⟨(⟨#[]⟩ : Str), 0⟩ : Head)) rfl rfl (band1 h3) (band2 h3) rfl fun b1 => ?_
 obtain ⟨hf41, h⟩ := gd h
 obtain ⟨q28, h49, h⟩ := bnd h
 refine go ?_;intros
 refine w_last (fun t o => ∃ b47 c48, Pin t (ovr [(3, .ref 56 b47 c48 0 q28.length 130)] t) ∧ PinH o (ovh [(56, ent b47 c48 130 (List.map eHead q28))] o)) ?_ ?_
 ·refine w_loop2 (fun n t o => ∃ l35 k33 v30 b31 c32, gl_cw9_1 l35 k33 v30 = some q28 ∧ n = l35.length ∧ (a0).drop k33 = l35 ∧ Pin t (ovr [(0, .ro (List.map eHead a0)), (3, .ref 56 b31 c32 0 v30.length 130), (4, .v (.int .i64 (k33 : Int)))] t) ∧ PinH o (ovh [(56, ent b31 c32 130 (List.map eHead v30))] o)) _ ⟨_, _, _, _, _, h49, rfl, rfl, pin, pinh⟩ ?_
  rintro n t o ⟨l35, k33, v30, b31, c32, h49, rfl, hd36, pq1, pq2⟩
  refine pinned pq1 pq2 ?_
  cases l35 with
  | nil =>
   have hge38 := drop_ge hd36
   rw [gl_cw9_1] at h49
   refine go ?_;intros
   rw [hge38]
   refine go ?_;intros
   cases h49
   exact k_cn ⟨_, _, pin, pinh⟩
  | cons x34 l35 =>
   have hlt37 := drop_lt hd36
   have hx39 := drop_ix hd36
   have hw40 := drop_wr hd36 hf41
   rw [gl_cw9_1] at h49
   refine go ?_;intros
   rw [hlt37]
   refine go ?_;intros
   refine r_iro rfl rfl hx39 rfl ?_
   obtain ⟨x42, h43, h49⟩ := bnd h49
   refine go ?_;intros
   refine c_call (c := c_cv9) (x34) H_cv9 h43 fun ch => ?_
   obtain ⟨x44, h45, h49⟩ := bnd h49
   refine go ?_;intros
   refine r_ire (xs := v30) rfl rfl h45 rfl ?_
   refine go ?_;intros
   refine c_ste (f := eHead) v30 x42 (idx_get h45).2 ?_
   refine go ?_;intros
   rw [hw40]
   exact k_ln2 _ (Nat.lt_succ_self _) ⟨_, _, _, _, _, h49, rfl, drop_next hd36, pin, pinh⟩
 rintro t o ⟨b47, c48, pq1, pq2⟩
 refine pinnedQ pq1 pq2 ?_
 refine go ?_;intros
 cases h
 exact r_end
theorem d_bb9 {G : Gam}  (a0 : Int) (a1 : Int) (a2 : Int) (r : Bool) (h : gf_bb9 a0 a1 a2 = some r) : Does G if_bb9 ks_bb9 (c_bb9.args (a0, a1, a2)) [] (c_bb9.ans (a0, a1, a2) r) := by
 refine does_pn (L := [(0, .v (.int .i64 a0)), (1, .v (.int .i64 a1)), (2, .v (.int .i64 a2))]) (fun bs => pin) fun bs t o => ?_
 show vwp _ ib_bb9 _ _
 unfold ib_bb9
 refine w_ir ?_
 unfold gf_bb9 at h
 refine go ?_;intros
 refine s_split rfl (fun c => ?_) (fun c => ?_)
 ·replace h := itt h c
  rw [c]
  refine go ?_;intros
  cases h
  exact r_end
 replace h := itf h c
 rw [c]
 refine go ?_;intros
 cases h
 exact r_end
theorem d_az9 {G : Gam} (H_bb9 : Has G c_bb9) (a0 : Pt) (r : Bool) (h : gf_az9 a0 = some r) : Does G if_az9 ks_az9 (c_az9.args (a0)) [] (c_az9.ans (a0) r) := by
 refine does_pn (L := [(0, .agg [.v (.int .i64 a0.x), .v (.int .i64 a0.y)])]) (fun bs => pin) fun bs t o => ?_
 show vwp _ ib_az9 _ _
 unfold ib_az9
 refine w_ir ?_
 unfold gf_az9 at h
 obtain ⟨x2, h3, h⟩ := bnd h
 refine go ?_;intros
 refine c_call (c := c_bb9) (a0.x, (-1000), 1000) H_bb9 h3 fun ch => ?_
 refine go ?_;intros
 refine s_split rfl (fun c => ?_) (fun c => ?_)
 ·replace h := itt h c
  rw [c]
  obtain ⟨x4, h5, h⟩ := bnd h
  refine go ?_;intros
  refine c_call (c := c_bb9) (a0.y, (-1000), 1000) H_bb9 h5 fun ch => ?_
  refine go ?_;intros
  cases h
  exact r_end
 replace h := itf h c
 rw [c]
 refine go ?_;intros
 cases h
 exact r_end
theorem d_as9 {G : Gam} (H_bb9 : Has G c_bb9) (a0 : Str) (r : Bool) (h : gf_as9 a0 = some r) : Does G if_as9 ks_as9 (c_as9.args (a0)) [] (c_as9.ans (a0) r) := by
 refine does_pn (L := [(0, .v (.string a0))]) (fun bs => pin) fun bs t o => ?_
 show vwp _ ib_as9 _ _
 unfold ib_as9
 refine w_ir ?_
 unfold gf_as9 at h
 obtain ⟨hf18, h⟩ := gd h
 obtain ⟨q8, h21, h⟩ := bnd h
 refine go ?_;intros
 refine w_last (fun t o => ∃ q8_, q8 = .inr q8_ ∧ Pin t (ovr [(0, .v (.string a0))] t) ∧ PinH o (ovh [] o)) ?_ ?_
 ·refine w_loop2 (fun n t o => ∃ l12 k10  , gl_as9_1 l12 k10  = some q8 ∧ n = l12.length ∧ (a0.data.toList).drop k10 = l12 ∧ Pin t (ovr [(0, .v (.string a0)), (5, .v (.int .i64 (a0.size : Int))), (6, .v (.int .i64 (k10 : Int)))] t) ∧ PinH o (ovh [] o)) _ ⟨_, _, h21, rfl, rfl, pin, pinh⟩ ?_
  rintro n t o ⟨l12, k10, h21, rfl, hd13, pq1, pq2⟩
  refine pinned pq1 pq2 ?_
  cases l12 with
  | nil =>
   have hge15 := drop_geB hd13
   rw [gl_as9_1] at h21
   refine go ?_;intros
   rw [hge15]
   refine go ?_;intros
   cases h21
   exact k_cn ⟨_, rfl, pin, pinh⟩
  | cons x11 l12 =>
   have hlt14 := drop_ltB hd13
   have hx16 := drop_ixB hd13
   have hw17 := drop_wrB hd13 hf18
   rw [gl_as9_1] at h21
   refine go ?_;intros
   rw [hlt14]
   refine go ?_;intros
   refine r_sidx rfl rfl hx16 ?_
   refine go ?_;intros
   refine s_split rfl (fun c => ?_) (fun c => ?_)
   ·replace h21 := itt h21 c
    rw [c]
    refine go ?_;intros
    cases h21
    replace h : some _ = some _ := h
    cases h
    exact r_end
   replace h21 := itf h21 c
   rw [c]
   refine go ?_;intros
   refine r_sidx rfl rfl hx16 ?_
   refine go ?_;intros
   refine w_cond rfl (fun c => ?_) (fun c => ?_)
   ·replace h21 := itt h21 c
    try rw [c]
    refine go ?_;intros
    cases h21
    replace h : some _ = some _ := h
    cases h
    exact r_end
   replace h21 := itf h21 c
   try rw [c]
   refine go ?_;intros
   rw [hw17]
   exact k_ln2 _ (Nat.lt_succ_self _) ⟨_, _, h21, rfl, drop_next hd13, pin, pinh⟩
 rintro t o ⟨q8, rfl, pq1, pq2⟩
 refine pinnedQ pq1 pq2 ?_
 obtain ⟨x19, h20, h⟩ := bnd h
 refine go ?_;intros
 refine c_call (c := c_bb9) ((a0.size : Int), 1, 6) H_bb9 h20 fun ch => ?_
 refine go ?_;intros
 cases h
 exact r_end
theorem d_aj9 {G : Gam} (H_az9 : Has G c_az9) (H_bb9 : Has G c_bb9) (a0 : Shape) (r : Bool) (h : gf_aj9 a0 = some r) : Does G if_aj9 ks_aj9 (c_aj9.args (a0)) [] (c_aj9.ans (a0) r) := by
 refine does_pn (L := [(0, .agg [.v (.int .i64 a0.kind), .ro (List.map ePt a0.pts)])]) (fun bs => pin) fun bs t o => ?_
 show vwp _ ib_aj9 _ _
 unfold ib_aj9
 refine w_ir ?_
 unfold gf_aj9 at h
 obtain ⟨hf35, h⟩ := gd h
 obtain ⟨q24, h50, h⟩ := bnd h
 refine go ?_;intros
 refine w_last (fun t o => ∃ q24_, q24 = .inr q24_ ∧ ∃ b41, Pin t (ovr [(1, .ptr 8 b41 226 0 0)] t) ∧ PinH o (ovh [(8, ⟨b41, 1, 226, true, [[.v (.int .i64 a0.kind), .sl false 2 (List.map ePt a0.pts)]]⟩)] o)) ?_ ?_
 ·refine w_loop2 (fun n t o => ∃ l29 k27  b26, gl_aj9_1 a0 l29 k27  = some q24 ∧ n = l29.length ∧ (a0.pts).drop k27 = l29 ∧ Pin t (ovr [(1, .ptr 8 b26 226 0 0), (7, .ro (List.map ePt a0.pts)), (8, .v (.int .i64 (a0.pts.length : Int))), (9, .v (.int .i64 (k27 : Int)))] t) ∧ PinH o (ovh [(8, ⟨b26, 1, 226, true, [[.v (.int .i64 a0.kind), .sl false 2 (List.map ePt a0.pts)]]⟩)] o)) _ ⟨_, _, _, h50, rfl, rfl, pin, pinh⟩ ?_
  rintro n t o ⟨l29, k27, b26, h50, rfl, hd30, pq1, pq2⟩
  refine pinned pq1 pq2 ?_
  cases l29 with
  | nil =>
   have hge32 := drop_ge hd30
   rw [gl_aj9_1] at h50
   refine go ?_;intros
   rw [hge32]
   refine go ?_;intros
   cases h50
   exact k_cn ⟨_, rfl, _, pin, pinh⟩
  | cons x28 l29 =>
   have hlt31 := drop_lt hd30
   have hx33 := drop_ix hd30
   have hw34 := drop_wr hd30 hf35
   rw [gl_aj9_1] at h50
   refine go ?_;intros
   rw [hlt31]
   refine go ?_;intros
   refine r_iro rfl rfl hx33 rfl ?_
   obtain ⟨x37, h38, h50⟩ := bnd h50
   refine go ?_;intros
   refine c_call (c := c_az9) (x28) H_az9 h38 fun ch => ?_
   refine go ?_;intros
   refine s_split rfl (fun c => ?_) (fun c => ?_)
   ·replace h50 := itt h50 c
    rw [c]
    refine go ?_;intros
    cases h50
    replace h : some _ = some _ := h
    cases h
    exact r_end
   replace h50 := itf h50 c
   rw [c]
   refine go ?_;intros
   refine s_split rfl (fun c => ?_) (fun c => ?_)
   ·replace h50 := itt h50 c
    rw [c]
    obtain ⟨x39, h40, h50⟩ := bnd h50
    refine go ?_;intros
    refine r_iro rfl rfl h40 rfl ?_
    refine go ?_;intros
    refine w_cond rfl (fun c => ?_) (fun c => ?_)
    ·replace h50 := itt h50 c
     try rw [c]
     refine go ?_;intros
     cases h50
     replace h : some _ = some _ := h
     cases h
     exact r_end
    replace h50 := itf h50 c
    try rw [c]
    refine go ?_;intros
    rw [hw34]
    exact k_ln2 _ (Nat.lt_succ_self _) ⟨_, _, _, h50, rfl, drop_next hd30, pin, pinh⟩
   replace h50 := itf h50 c
   rw [c]
   refine go ?_;intros
   rw [hw34]
   exact k_ln2 _ (Nat.lt_succ_self _) ⟨_, _, _, h50, rfl, drop_next hd30, pin, pinh⟩
 rintro t o ⟨q24, rfl, b41, pq1, pq2⟩
 refine pinnedQ pq1 pq2 ?_
 refine go ?_;intros
 refine w_cond rfl (fun c => ?_) (fun c => ?_)
 ·replace h := itt h c
  try rw [c]
  refine go ?_;intros
  cases h
  exact r_end
 replace h := itf h c
 try rw [c]
 refine go ?_;intros
 refine w_cond rfl (fun c => ?_) (fun c => ?_)
 ·replace h := itt h c
  try rw [c]
  obtain ⟨x42, h43, h⟩ := bnd h
  refine go ?_;intros
  refine c_call (c := c_bb9) ((a0.pts.length : Int), 2, 6) H_bb9 h43 fun ch => ?_
  refine go ?_;intros
  cases h
  exact r_end
 replace h := itf h c
 try rw [c]
 refine go ?_;intros
 refine w_cond rfl (fun c => ?_) (fun c => ?_)
 ·replace h := itt h c
  try rw [c]
  obtain ⟨x44, h45, h⟩ := bnd h
  refine go ?_;intros
  refine c_call (c := c_bb9) ((a0.pts.length : Int), 3, 6) H_bb9 h45 fun ch => ?_
  refine go ?_;intros
  refine s_split rfl (fun c => ?_) (fun c => ?_)
  ·replace h := itt h c
   rw [c]
   obtain ⟨x46, h47, h⟩ := bnd h
   refine go ?_;intros
   refine r_iro rfl rfl h47 rfl ?_
   obtain ⟨x48, h49, h⟩ := bnd h
   refine go ?_;intros
   refine r_iro rfl rfl h49 rfl ?_
   refine go ?_;intros
   cases h
   exact r_end
  replace h := itf h c
  rw [c]
  refine go ?_;intros
  cases h
  exact r_end
 replace h := itf h c
 try rw [c]
 refine go ?_;intros
 cases h
 exact r_end
theorem d_aa9 {G : Gam} (H_as9 : Has G c_as9) (H_aj9 : Has G c_aj9) (a0 : Feat) (r : Bool) (h : gf_aa9 a0 = some r) : Does G if_aa9 ks_aa9 (c_aa9.args (a0)) [] (c_aa9.ans (a0) r) := by
 refine does_pn (L := [(0, .agg [.v (.string a0.id), .v (.int .i64 a0.shape.kind), .ro (List.map ePt a0.shape.pts), .ro (List.map eTag a0.tags)])]) (fun bs => pin) fun bs t o => ?_
 show vwp _ ib_aa9 _ _
 unfold ib_aa9
 refine w_ir ?_
 unfold gf_aa9 at h
 obtain ⟨hf41, h⟩ := gd h
 obtain ⟨q30, h54, h⟩ := bnd h
 refine go ?_;intros
 refine w_last (fun t o => ∃ q30_, q30 = .inr q30_ ∧ ∃ b49, Pin t (ovr [(1, .ptr 8 b49 100 0 0)] t) ∧ PinH o (ovh [(8, ⟨b49, 1, 100, true, [[.v (.string a0.id), .v (.int .i64 a0.shape.kind), .sl false 2 (List.map ePt a0.shape.pts), .sl false 2 (List.map eTag a0.tags)]]⟩)] o)) ?_ ?_
 ·refine w_loop2 (fun n t o => ∃ l35 k33  b32, gl_aa9_1 a0 l35 k33  = some q30 ∧ n = l35.length ∧ (a0.tags).drop k33 = l35 ∧ Pin t (ovr [(1, .ptr 8 b32 100 0 0), (6, .ro (List.map eTag a0.tags)), (7, .v (.int .i64 (a0.tags.length : Int))), (8, .v (.int .i64 (k33 : Int)))] t) ∧ PinH o (ovh [(8, ⟨b32, 1, 100, true, [[.v (.string a0.id), .v (.int .i64 a0.shape.kind), .sl false 2 (List.map ePt a0.shape.pts), .sl false 2 (List.map eTag a0.tags)]]⟩)] o)) _ ⟨_, _, _, h54, rfl, rfl, pin, pinh⟩ ?_
  rintro n t o ⟨l35, k33, b32, h54, rfl, hd36, pq1, pq2⟩
  refine pinned pq1 pq2 ?_
  cases l35 with
  | nil =>
   have hge38 := drop_ge hd36
   rw [gl_aa9_1] at h54
   refine go ?_;intros
   rw [hge38]
   refine go ?_;intros
   cases h54
   exact k_cn ⟨_, rfl, _, pin, pinh⟩
  | cons x34 l35 =>
   have hlt37 := drop_lt hd36
   have hx39 := drop_ix hd36
   have hw40 := drop_wr hd36 hf41
   rw [gl_aa9_1] at h54
   refine go ?_;intros
   rw [hlt37]
   refine go ?_;intros
   refine r_iro rfl rfl hx39 rfl ?_
   obtain ⟨x43, h44, h54⟩ := bnd h54
   refine go ?_;intros
   refine c_call (c := c_as9) (x34.key) H_as9 h44 fun ch => ?_
   refine go ?_;intros
   refine s_split rfl (fun c => ?_) (fun c => ?_)
   ·replace h54 := itt h54 c
    rw [c]
    refine go ?_;intros
    cases h54
    replace h : some _ = some _ := h
    cases h
    exact r_end
   replace h54 := itf h54 c
   rw [c]
   obtain ⟨x45, h46, h54⟩ := bnd h54
   refine go ?_;intros
   refine c_call (c := c_as9) (x34.val) H_as9 h46 fun ch => ?_
   refine go ?_;intros
   refine s_split rfl (fun c => ?_) (fun c => ?_)
   ·replace h54 := itt h54 c
    rw [c]
    refine go ?_;intros
    cases h54
    replace h : some _ = some _ := h
    cases h
    exact r_end
   replace h54 := itf h54 c
   rw [c]
   refine go ?_;intros
   refine s_split rfl (fun c => ?_) (fun c => ?_)
   ·replace h54 := itt h54 c
    rw [c]
    obtain ⟨x47, h48, h54⟩ := bnd h54
    refine go ?_;intros
    refine r_iro rfl rfl h48 rfl ?_
    refine go ?_;intros
    refine w_cond rfl (fun c => ?_) (fun c => ?_)
    ·replace h54 := itt h54 c
     try rw [c]
     refine go ?_;intros
     cases h54
     replace h : some _ = some _ := h
     cases h
     exact r_end
    replace h54 := itf h54 c
    try rw [c]
    refine go ?_;intros
    rw [hw40]
    exact k_ln2 _ (Nat.lt_succ_self _) ⟨_, _, _, h54, rfl, drop_next hd36, pin, pinh⟩
   replace h54 := itf h54 c
   rw [c]
   refine go ?_;intros
   rw [hw40]
   exact k_ln2 _ (Nat.lt_succ_self _) ⟨_, _, _, h54, rfl, drop_next hd36, pin, pinh⟩
 rintro t o ⟨q30, rfl, b49, pq1, pq2⟩
 refine pinnedQ pq1 pq2 ?_
 obtain ⟨x50, h51, h⟩ := bnd h
 refine go ?_;intros
 refine c_call (c := c_as9) (a0.id) H_as9 h51 fun ch => ?_
 refine go ?_;intros
 refine s_split rfl (fun c => ?_) (fun c => ?_)
 ·replace h := itt h c
  rw [c]
  obtain ⟨x52, h53, h⟩ := bnd h
  refine go ?_;intros
  refine c_call (c := c_aj9) (a0.shape) H_aj9 h53 fun ch => ?_
  refine go ?_;intros
  refine s_split rfl (fun c => ?_) (fun c => ?_)
  ·replace h := itt h c
   rw [c]
   refine go ?_;intros
   cases h
   exact r_end
  replace h := itf h c
  rw [c]
  refine go ?_;intros
  cases h
  exact r_end
 replace h := itf h c
 rw [c]
 refine go ?_;intros
 cases h
 exact r_end
theorem d_dh9 {G : Gam}  (a0 : (List Pt)) (a1 : (List Pt)) (r : Bool) (h : gf_dh9 a0 a1 = some r) : Does G if_dh9 ks_dh9 (c_dh9.args (a0, a1)) [] (c_dh9.ans (a0, a1) r) := by
 refine does_pn (L := [(0, .ro (List.map ePt a0)), (1, .ro (List.map ePt a1))]) (fun bs => pin) fun bs t o => ?_
 show vwp _ ib_dh9 _ _
 unfold ib_dh9
 refine w_ir ?_
 unfold gf_dh9 at h
 refine go ?_;intros
 refine w_cond rfl (fun c => ?_) (fun c => ?_)
 ·replace h := itt h (by first | exact c | (have c2 := c; simp only [List.length_map] at c2; exact c2))
  try rw [c]
  refine go ?_;intros
  cases h
  exact r_end
 replace h := itf h (by first | exact c | (have c2 := c; simp only [List.length_map] at c2; exact c2))
 try rw [c]
 obtain ⟨hf24, h⟩ := gd h
 obtain ⟨q14, h27, h⟩ := bnd h
 refine go ?_;intros
 refine w_last (fun t o => ∃ q14_, q14 = .inr q14_ ∧ Pin t (ovr [] t) ∧ PinH o (ovh [] o)) ?_ ?_
 ·refine w_loop2 (fun n t o => ∃ l18 k16  , gl_dh9_1 a1 l18 k16  = some q14 ∧ n = l18.length ∧ (a0).drop k16 = l18 ∧ Pin t (ovr [(0, .ro (List.map ePt a0)), (1, .ro (List.map ePt a1)), (12, .v (.int .i64 (a0.length : Int))), (13, .v (.int .i64 (k16 : Int)))] t) ∧ PinH o (ovh [] o)) _ ⟨_, _, h27, rfl, rfl, pin, pinh⟩ ?_
  rintro n t o ⟨l18, k16, h27, rfl, hd19, pq1, pq2⟩
  refine pinned pq1 pq2 ?_
  cases l18 with
  | nil =>
   have hge21 := drop_ge hd19
   rw [gl_dh9_1] at h27
   refine go ?_;intros
   rw [hge21]
   refine go ?_;intros
   cases h27
   exact k_cn ⟨_, rfl, pin, pinh⟩
  | cons x17 l18 =>
   have hlt20 := drop_lt hd19
   have hx22 := drop_ix hd19
   have hw23 := drop_wr hd19 hf24
   rw [gl_dh9_1] at h27
   refine go ?_;intros
   rw [hlt20]
   refine go ?_;intros
   refine r_iro rfl rfl hx22 rfl ?_
   obtain ⟨x25, h26, h27⟩ := bnd h27
   refine go ?_;intros
   refine r_iro rfl rfl h26 rfl ?_
   refine go ?_;intros
   refine w_cond rfl (fun c => ?_) (fun c => ?_)
   ·replace h27 := itt h27 c
    try rw [c]
    refine go ?_;intros
    cases h27
    replace h : some _ = some _ := h
    cases h
    exact r_end
   replace h27 := itf h27 c
   try rw [c]
   refine go ?_;intros
   rw [hw23]
   exact k_ln2 _ (Nat.lt_succ_self _) ⟨_, _, h27, rfl, drop_next hd19, pin, pinh⟩
 rintro t o ⟨q14, rfl, pq1, pq2⟩
 refine pinnedQ pq1 pq2 ?_
 refine go ?_;intros
 cases h
 exact r_end
theorem d_ak9 {G : Gam} (H_dh9 : Has G c_dh9) (a0 : Shape) (a1 : Shape) (r : Bool) (h : gf_ak9 a0 a1 = some r) : Does G if_ak9 ks_ak9 (c_ak9.args (a0, a1)) [] (c_ak9.ans (a0, a1) r) := by
 refine does_pn (L := [(0, .agg [.v (.int .i64 a0.kind), .ro (List.map ePt a0.pts)]), (1, .agg [.v (.int .i64 a1.kind), .ro (List.map ePt a1.pts)])]) (fun bs => pin) fun bs t o => ?_
 show vwp _ ib_ak9 _ _
 unfold ib_ak9
 refine w_ir ?_
 unfold gf_ak9 at h
 refine go ?_;intros
 refine s_split rfl (fun c => ?_) (fun c => ?_)
 ·replace h := itt h c
  rw [c]
  obtain ⟨x3, h4, h⟩ := bnd h
  refine go ?_;intros
  refine c_call (c := c_dh9) (a0.pts, a1.pts) H_dh9 h4 fun ch => ?_
  refine go ?_;intros
  cases h
  exact r_end
 replace h := itf h c
 rw [c]
 refine go ?_;intros
 cases h
 exact r_end
theorem d_di9 {G : Gam}  (a0 : (List Tag)) (a1 : (List Tag)) (r : Bool) (h : gf_di9 a0 a1 = some r) : Does G if_di9 ks_di9 (c_di9.args (a0, a1)) [] (c_di9.ans (a0, a1) r) := by
 refine does_pn (L := [(0, .ro (List.map eTag a0)), (1, .ro (List.map eTag a1))]) (fun bs => pin) fun bs t o => ?_
 show vwp _ ib_di9 _ _
 unfold ib_di9
 refine w_ir ?_
 unfold gf_di9 at h
 refine go ?_;intros
 refine w_cond rfl (fun c => ?_) (fun c => ?_)
 ·replace h := itt h (by first | exact c | (have c2 := c; simp only [List.length_map] at c2; exact c2))
  try rw [c]
  refine go ?_;intros
  cases h
  exact r_end
 replace h := itf h (by first | exact c | (have c2 := c; simp only [List.length_map] at c2; exact c2))
 try rw [c]
 obtain ⟨hf24, h⟩ := gd h
 obtain ⟨q14, h27, h⟩ := bnd h
 refine go ?_;intros
 refine w_last (fun t o => ∃ q14_, q14 = .inr q14_ ∧ Pin t (ovr [] t) ∧ PinH o (ovh [] o)) ?_ ?_
 ·refine w_loop2 (fun n t o => ∃ l18 k16  , gl_di9_1 a1 l18 k16  = some q14 ∧ n = l18.length ∧ (a0).drop k16 = l18 ∧ Pin t (ovr [(0, .ro (List.map eTag a0)), (1, .ro (List.map eTag a1)), (12, .v (.int .i64 (a0.length : Int))), (13, .v (.int .i64 (k16 : Int)))] t) ∧ PinH o (ovh [] o)) _ ⟨_, _, h27, rfl, rfl, pin, pinh⟩ ?_
  rintro n t o ⟨l18, k16, h27, rfl, hd19, pq1, pq2⟩
  refine pinned pq1 pq2 ?_
  cases l18 with
  | nil =>
   have hge21 := drop_ge hd19
   rw [gl_di9_1] at h27
   refine go ?_;intros
   rw [hge21]
   refine go ?_;intros
   cases h27
   exact k_cn ⟨_, rfl, pin, pinh⟩
  | cons x17 l18 =>
   have hlt20 := drop_lt hd19
   have hx22 := drop_ix hd19
   have hw23 := drop_wr hd19 hf24
   rw [gl_di9_1] at h27
   refine go ?_;intros
   rw [hlt20]
   refine go ?_;intros
   refine r_iro rfl rfl hx22 rfl ?_
   obtain ⟨x25, h26, h27⟩ := bnd h27
   refine go ?_;intros
   refine r_iro rfl rfl h26 rfl ?_
   refine go ?_;intros
   refine w_cond rfl (fun c => ?_) (fun c => ?_)
   ·replace h27 := itt h27 c
    try rw [c]
    refine go ?_;intros
    cases h27
    replace h : some _ = some _ := h
    cases h
    exact r_end
   replace h27 := itf h27 c
   try rw [c]
   refine go ?_;intros
   rw [hw23]
   exact k_ln2 _ (Nat.lt_succ_self _) ⟨_, _, h27, rfl, drop_next hd19, pin, pinh⟩
 rintro t o ⟨q14, rfl, pq1, pq2⟩
 refine pinnedQ pq1 pq2 ?_
 refine go ?_;intros
 cases h
 exact r_end
theorem d_ab9 {G : Gam} (H_ak9 : Has G c_ak9) (H_di9 : Has G c_di9) (a0 : Feat) (a1 : Feat) (r : Bool) (h : gf_ab9 a0 a1 = some r) : Does G if_ab9 ks_ab9 (c_ab9.args (a0, a1)) [] (c_ab9.ans (a0, a1) r) := by
 refine does_pn (L := [(0, .agg [.v (.string a0.id), .v (.int .i64 a0.shape.kind), .ro (List.map ePt a0.shape.pts), .ro (List.map eTag a0.tags)]), (1, .agg [.v (.string a1.id), .v (.int .i64 a1.shape.kind), .ro (List.map ePt a1.shape.pts), .ro (List.map eTag a1.tags)])]) (fun bs => pin) fun bs t o => ?_
 show vwp _ ib_ab9 _ _
 unfold ib_ab9
 refine w_ir ?_
 unfold gf_ab9 at h
 refine go ?_;intros
 refine s_split rfl (fun c => ?_) (fun c => ?_)
 ·replace h := itt h c
  rw [c]
  obtain ⟨x3, h4, h⟩ := bnd h
  refine go ?_;intros
  refine c_call (c := c_ak9) (a0.shape, a1.shape) H_ak9 h4 fun ch => ?_
  refine go ?_;intros
  refine s_split rfl (fun c => ?_) (fun c => ?_)
  ·replace h := itt h c
   rw [c]
   obtain ⟨x5, h6, h⟩ := bnd h
   refine go ?_;intros
   refine c_call (c := c_di9) (a0.tags, a1.tags) H_di9 h6 fun ch => ?_
   refine go ?_;intros
   cases h
   exact r_end
  replace h := itf h c
  rw [c]
  refine go ?_;intros
  cases h
  exact r_end
 replace h := itf h c
 rw [c]
 refine go ?_;intros
 cases h
 exact r_end
theorem d_dg9 {G : Gam} (H_ab9 : Has G c_ab9) (a0 : (List Feat)) (a1 : (List Feat)) (r : Bool) (h : gf_dg9 a0 a1 = some r) : Does G if_df9 ks_df9 (c_dg9.args (a0, a1)) [] (c_dg9.ans (a0, a1) r) := by
 refine does_pn (L := [(0, .ro (List.map (eFeat false) a0)), (1, .ro (List.map (eFeat false) a1)), (2, .fn 130 [])]) (fun bs => pin) fun bs t o => ?_
 show vwp _ ib_df9 _ _
 unfold ib_df9
 refine w_ir ?_
 unfold gf_dg9 at h
 refine go ?_;intros
 refine w_cond rfl (fun c => ?_) (fun c => ?_)
 ·replace h := itt h (by first | exact c | (have c2 := c; simp only [List.length_map] at c2; exact c2))
  try rw [c]
  refine go ?_;intros
  cases h
  exact r_end
 replace h := itf h (by first | exact c | (have c2 := c; simp only [List.length_map] at c2; exact c2))
 try rw [c]
 obtain ⟨hf36, h⟩ := gd h
 obtain ⟨q26, h43, h⟩ := bnd h
 refine go ?_;intros
 refine w_last (fun t o => ∃ q26_, q26 = .inr q26_ ∧ Pin t (ovr [] t) ∧ PinH o (ovh [] o)) ?_ ?_
 ·refine w_loop2 (fun n t o => ∃ l30 k28  , gl_dg9_1 a1 l30 k28  = some q26 ∧ n = l30.length ∧ (a0).drop k28 = l30 ∧ Pin t (ovr [(1, .ro (List.map (eFeat false) a1)), (2, .fn 130 []), (15, .ro (List.map (eFeat false) a0)), (16, .v (.int .i64 (a0.length : Int))), (17, .v (.int .i64 (k28 : Int)))] t) ∧ PinH o (ovh [] o)) _ ⟨_, _, h43, rfl, rfl, pin, pinh⟩ ?_
  rintro n t o ⟨l30, k28, h43, rfl, hd31, pq1, pq2⟩
  refine pinned pq1 pq2 ?_
  cases l30 with
  | nil =>
   have hge33 := drop_ge hd31
   rw [gl_dg9_1] at h43
   refine go ?_;intros
   rw [hge33]
   refine go ?_;intros
   cases h43
   exact k_cn ⟨_, rfl, pin, pinh⟩
  | cons x29 l30 =>
   have hlt32 := drop_lt hd31
   have hx34 := drop_ix hd31
   have hw35 := drop_wr hd31 hf36
   rw [gl_dg9_1] at h43
   refine go ?_;intros
   rw [hlt32]
   refine go ?_;intros
   refine r_iro rfl rfl hx34 rfl ?_
   obtain ⟨x38, h39, h43⟩ := bnd h43
   refine go ?_;intros
   refine r_iro rfl rfl h39 rfl ?_
   obtain ⟨x41, h42, h43⟩ := bnd h43
   refine go ?_;intros
   refine c_calld (c := c_ab9) (x29, x38) H_ab9 h42 fun ch => ?_
   refine go ?_;intros
   refine w_cond rfl (fun c => ?_) (fun c => ?_)
   ·replace h43 := itt h43 c
    try rw [c]
    refine go ?_;intros
    cases h43
    replace h : some _ = some _ := h
    cases h
    exact r_end
   replace h43 := itf h43 c
   try rw [c]
   refine go ?_;intros
   rw [hw35]
   exact k_ln2 _ (Nat.lt_succ_self _) ⟨_, _, h43, rfl, drop_next hd31, pin, pinh⟩
 rintro t o ⟨q26, rfl, pq1, pq2⟩
 refine pinnedQ pq1 pq2 ?_
 refine go ?_;intros
 cases h
 exact r_end
end Go.Proofs.AM
