/- Lemmas of the proof (KHF4), on an abstract machine. Conditions: none. -/
import Derived.Test.YtknajiljcemblaaGreatKHD
set_option linter.unusedVariables false
set_option linter.unusedSimpArgs false
set_option maxRecDepth 100000
set_option maxHeartbeats 4000000
namespace Go.Proofs.AM
attribute [local irreducible] vwp vstps vstpLs vstp vdo vret kseq kblk kloop kend kcut kloop2 frzV renV shutK pfzV trnV unrV
theorem d_da9 {G : Gam}  (a0 : (List Tag)) (a1 : Str) (a2 : Str) (r : (List Tag)) (h : gf_da9 a0 a1 a2 = some r) : Does G if_da9 ks_da9 (c_da9.args (a0, a1, a2)) [] (c_da9.ans (a0, a1, a2) r) := by
 refine does_pn (L := [(0, .ro (List.map eTag a0)), (1, .v (.string a1)), (2, .v (.string a2))]) (fun bs => pin) fun bs t o => ?_
 show vwp _ ib_da9 _ _
 unfold ib_da9
 refine w_ir ?_
 unfold gf_da9 at h
 obtain ⟨hf94, h⟩ := gd h
 obtain ⟨q80, h120, h⟩ := bnd h
 refine go ?_;intros
 refine w_last (fun t o => ∃ b114 c115, Pin t (ovr [(1, .v (.string a1)), (2, .v (.string a2)), (7, .ref 80 b114 c115 0 q80.2.length 82), (8, .v (.bool q80.1))] t) ∧ PinH o (ovh [(80, ent b114 c115 82 (List.map eTag q80.2))] o)) ?_ ?_
 ·refine w_loop2 (fun n t o => ∃ l88 k86 v81 v83 b84 c85, gl_da9_1 a1 a2 l88 k86 v81 v83 = some q80 ∧ n = l88.length ∧ (a0).drop k86 = l88 ∧ Pin t (ovr [(0, .ro (List.map eTag a0)), (1, .v (.string a1)), (2, .v (.string a2)), (7, .ref 80 b84 c85 0 v83.length 82), (8, .v (.bool v81)), (9, .v (.int .i64 (k86 : Int)))] t) ∧ PinH o (ovh [(80, ent b84 c85 82 (List.map eTag v83))] o)) _ ⟨_, _, _, _, _, _, h120, rfl, rfl, pin, pinh⟩ ?_
  rintro n t o ⟨l88, k86, v81, v83, b84, c85, h120, rfl, hd89, pq1, pq2⟩
  refine pinned pq1 pq2 ?_
  cases l88 with
  | nil =>
   have hge91 := drop_ge hd89
   rw [gl_da9_1] at h120
   refine go ?_;intros
   rw [hge91]
   refine go ?_;intros
   cases h120
   exact k_cn ⟨_, _, pin, pinh⟩
  | cons x87 l88 =>
   have hlt90 := drop_lt hd89
   have hx92 := drop_ix hd89
   have hw93 := drop_wr hd89 hf94
   rw [gl_da9_1] at h120
   refine go ?_;intros
   rw [hlt90]
   obtain ⟨q99, h121, h120⟩ := bnd h120
   refine go ?_;intros
   refine w_cut (fun t o => ∃ b106 c107, Pin t (ovr [(0, .ro (List.map eTag a0)), (1, .v (.string a1)), (2, .v (.string a2)), (7, .ref 80 b106 c107 0 q99.2.length 82), (8, .v (.bool q99.1)), (9, .v (.int .i64 (k86 : Int)))] t) ∧ PinH o (ovh [(80, ent b106 c107 82 (List.map eTag q99.2))] o)) ?_ ?_
   ·refine go ?_;intros
    refine s_split rfl (fun c => ?_) (fun c => ?_)
    ·replace h121 := itt h121 c
     rw [c]
     refine go ?_;intros
     refine r_iro rfl rfl hx92 rfl ?_
     refine go ?_;intros
     refine w_cond rfl (fun c => ?_) (fun c => ?_)
     ·replace h121 := itt h121 c
      try rw [c]
      obtain ⟨h103, h121⟩ := gd h121
      refine go ?_;intros
      refine r_app (f := eTag) (xs := v83) (ys := ([(⟨a1, a2⟩ : Tag)] : (List Tag))) rfl (src_mv rfl rfl (by first | rfl | simp)) rfl rfl (by first | rfl | simp) h103 fun b101 c102 => ?_
      refine go ?_;intros
      cases h121
      exact k_cn ⟨_, _, pin, pinh⟩
     replace h121 := itf h121 c
     try rw [c]
     refine go ?_;intros
     cases h121
     exact k_cn ⟨_, _, pin, pinh⟩
    replace h121 := itf h121 c
    rw [c]
    refine go ?_;intros
    cases h121
    exact k_cn ⟨_, _, pin, pinh⟩
   rintro t o ⟨b106, c107, pq1, pq2⟩
   refine pinned pq1 pq2 ?_
   refine go ?_;intros
   refine r_iro rfl rfl hx92 rfl ?_
   refine go ?_;intros
   refine w_cond rfl (fun c => ?_) (fun c => ?_)
   ·replace h120 := itt h120 c
    try rw [c]
    refine go ?_;intros
    refine r_iro rfl rfl hx92 rfl ?_
    obtain ⟨h111, h120⟩ := gd h120
    refine go ?_;intros
    refine r_app (f := eTag) (xs := q99.2) (ys := ([x87] : (List Tag))) rfl (src_mv rfl rfl (by first | rfl | simp)) rfl rfl (by first | rfl | simp) h111 fun b109 c110 => ?_
    refine go ?_;intros
    rw [hw93]
    exact k_ln2 _ (Nat.lt_succ_self _) ⟨_, _, _, _, _, _, h120, rfl, drop_next hd89, pin, pinh⟩
   replace h120 := itf h120 c
   try rw [c]
   refine go ?_;intros
   rw [hw93]
   exact k_ln2 _ (Nat.lt_succ_self _) ⟨_, _, _, _, _, _, h120, rfl, drop_next hd89, pin, pinh⟩
 rintro t o ⟨b114, c115, pq1, pq2⟩
 refine pinnedQ pq1 pq2 ?_
 refine go ?_;intros
 refine w_cond rfl (fun c => ?_) (fun c => ?_)
 ·replace h := itt h c
  try rw [c]
  obtain ⟨h119, h⟩ := gd h
  refine go ?_;intros
  refine r_app (f := eTag) (xs := q80.2) (ys := ([(⟨a1, a2⟩ : Tag)] : (List Tag))) rfl (src_mv rfl rfl (by first | rfl | simp)) rfl rfl (by first | rfl | simp) h119 fun b117 c118 => ?_
  refine go ?_;intros
  cases h
  exact r_end
 replace h := itf h c
 try rw [c]
 refine go ?_;intros
 cases h
 exact r_end
theorem d_dn9 {G : Gam} (H_dq9 : Has G c_dq9) (H_dx9 : Has G c_dx9) (a0 : Repo) (a1 : Int) (a2 : Commit) (r : Repo) (h : gf_dn9 a0 a1 a2 = some r) : Does G if_dn9 ks_dn9 (c_dn9.args (a0, a1, a2)) (c_dn9.ins (a0, a1, a2)) (c_dn9.ans (a0, a1, a2) r) := by
 refine does_pg (L := fun bs => [(0, .agg [.ref 0 (bs 0).1 (bs 0).2 0 a0.commits.length 115, .ref 8 (bs 1).1 (bs 1).2 0 a0.heads.length 130]), (1, .v (.int .i64 a1)), (2, .agg [.ro (List.map eInt a2.up), .ro (List.map (eFeat false) a2.sheet), .v (.string a2.note)])]) (H := fun bs => [(0, ent (bs 0).1 (bs 0).2 115 (List.map (eCommit true) a0.commits)), (8, ent (bs 1).1 (bs 1).2 130 (List.map eHead a0.heads))]) (fun bs => pin) (fun bs => pinh) fun bs t o => ?_
 show vwp _ ib_dn9 _ _
 unfold ib_dn9
 refine w_ir ?_
 unfold gf_dn9 at h
 obtain ⟨x4, h5, h⟩ := bnd h
 refine go ?_;intros
 refine c_call (c := c_dq9) (a0, a2) H_dq9 h5 fun ch => ?_
 refine go ?_;intros
 refine w_cond rfl (fun c => ?_) (fun c => ?_)
 ·replace h := itt h c
  try rw [c]
  obtain ⟨x6, h7, h⟩ := bnd h
  refine go ?_;intros
  refine c_call (c := c_dx9) (a2) H_dx9 h7 fun ch => ?_
  refine go ?_;intros
  try simp only [take_map_len, take_ent]
  obtain ⟨h15, h⟩ := gd h
  refine go ?_;intros
  refine r_app (f := (eCommit true)) (xs := a0.commits) (ys := ([x6] : (List Commit))) rfl (src_mv rfl rfl (by first | rfl | simp)) rfl rfl (by first | rfl | simp) h15 fun b13 c14 => ?_
  obtain ⟨x16, h17, h⟩ := bnd h
  refine go ?_;intros
  refine r_ire (xs := a0.heads) rfl rfl h17 rfl ?_
  refine go ?_;intros
  refine c_ste (f := eHead) a0.heads (⟨x16.name, (a0.commits.length : Int)⟩ : Head) (idx_get h17).2 ?_
  refine go ?_;intros
  cases h
  exact r_endg
 replace h := itf h c
 try rw [c]
 obtain ⟨x18, h19, h⟩ := bnd h
 refine go ?_;intros
 refine r_ire (xs := a0.heads) rfl rfl h19 rfl ?_
 refine go ?_;intros
 refine c_ste (f := eHead) a0.heads (⟨x18.name, x4⟩ : Head) (idx_get h19).2 ?_
 refine go ?_;intros
 cases h
 exact r_endg
theorem d_dp9 {G : Gam} (H_dx9 : Has G c_dx9) (a0 : Repo) (r : Repo) (h : gf_dp9 a0 = some r) : Does G if_dp9 ks_dp9 (c_dp9.args (a0)) [] (c_dp9.ans (a0) r) := by
 refine does_pn (L := [(0, .agg [.ro (List.map (eCommit false) a0.commits), .ro (List.map eHead a0.heads)])]) (fun bs => pin) fun bs t o => ?_
 show vwp _ ib_dp9 _ _
 unfold ib_dp9
 refine w_ir ?_
 unfold gf_dp9 at h
 obtain ⟨h6, h⟩ := gd h
 refine go ?_;intros
 refine r_app (f := eHead) (xs := ([] : (List Head))) (ys := a0.heads) rfl (src_ro (fun _ => rfl) (fun _ => rfl)) rfl rfl (by first | rfl | simp) h6 fun b4 c5 => ?_
 obtain ⟨hf90, h⟩ := gd h
 obtain ⟨q68, h112, h⟩ := bnd h
 refine go ?_;intros
 refine w_last (fun t o => ∃ b101 c102 b103 c104 b105 b107 c108 b109 c110 b111, Pin t (ovr [(2, .ptr 16 b105 210 0 0), (3, .ptr 24 b111 210 0 0)] t) ∧ PinH o (ovh [(1000256, ent b101 c102 115 (List.map (eCommit true) [])), (1000257, ent b103 c104 130 (List.map eHead [])), (16, ⟨b105, 1, 210, true, [[.al 1000256 b101 c102 0 ([] : List Commit).length 115, .al 1000257 b103 c104 0 ([] : List Head).length 130]]⟩), (1000384, ent b107 c108 115 (List.map (eCommit true) q68)), (1000385, ent b109 c110 130 (List.map eHead ([] ++ a0.heads))), (24, ⟨b111, 1, 210, true, [[.al 1000384 b107 c108 0 q68.length 115, .al 1000385 b109 c110 0 ([] ++ a0.heads).length 130]]⟩)] o)) ?_ ?_
 ·refine w_loop2 (fun n t o => ∃ l84 k82 v76 b70 b71 c72 b73 c74 b75 b77 c78 b79 c80 b81, gl_dp9_1 l84 k82 v76 = some q68 ∧ n = l84.length ∧ (a0.commits).drop k82 = l84 ∧ Pin t (ovr [(1, .ptr 8 b70 210 0 0), (2, .ptr 16 b75 210 0 0), (3, .ptr 24 b81 210 0 0), (4, .v (.int .i64 (k82 : Int)))] t) ∧ PinH o (ovh [(8, ⟨b70, 1, 210, true, [[.sl false 3 (List.map (eCommit false) a0.commits), .sl false 2 (List.map eHead a0.heads)]]⟩), (1000256, ent b71 c72 115 (List.map (eCommit true) [])), (1000257, ent b73 c74 130 (List.map eHead [])), (16, ⟨b75, 1, 210, true, [[.al 1000256 b71 c72 0 ([] : List Commit).length 115, .al 1000257 b73 c74 0 ([] : List Head).length 130]]⟩), (1000384, ent b77 c78 115 (List.map (eCommit true) v76)), (1000385, ent b79 c80 130 (List.map eHead ([] ++ a0.heads))), (24, ⟨b81, 1, 210, true, [[.al 1000384 b77 c78 0 v76.length 115, .al 1000385 b79 c80 0 ([] ++ a0.heads).length 130]]⟩)] o)) _ ⟨_, _, _, _, _, _, _, _, _, _, _, _, _, _, h112, rfl, rfl, pin, pinh⟩ ?_
  rintro n t o ⟨l84, k82, v76, b70, b71, c72, b73, c74, b75, b77, c78, b79, c80, b81, h112, rfl, hd85, pq1, pq2⟩
  refine pinned pq1 pq2 ?_
  cases l84 with
  | nil =>
   have hge87 := drop_ge hd85
   rw [gl_dp9_1] at h112
   refine go ?_;intros
   rw [hge87]
   refine go ?_;intros
   cases h112
   exact k_cn ⟨_, _, _, _, _, _, _, _, _, _, pin, pinh⟩
  | cons x83 l84 =>
   have hlt86 := drop_lt hd85
   have hx88 := drop_ix hd85
   have hw89 := drop_wr hd85 hf90
   rw [gl_dp9_1] at h112
   refine go ?_;intros
   rw [hlt86]
   refine go ?_;intros
   refine r_iro rfl rfl hx88 rfl ?_
   obtain ⟨x91, h92, h112⟩ := bnd h112
   refine go ?_;intros
   refine c_call (c := c_dx9) (x83) H_dx9 h92 fun ch => ?_
   refine go ?_;intros
   try simp only [take_map_len, take_ent]
   obtain ⟨h100, h112⟩ := gd h112
   refine go ?_;intros
   refine r_app (f := (eCommit true)) (xs := v76) (ys := ([x91] : (List Commit))) rfl (src_mv rfl rfl (by first | rfl | simp)) rfl rfl (by first | rfl | simp) h100 fun b98 c99 => ?_
   refine go ?_;intros
   rw [hw89]
   exact k_ln2 _ (Nat.lt_succ_self _) ⟨_, _, _, _, _, _, _, _, _, _, _, _, _, _, h112, rfl, drop_next hd85, pin, pinh⟩
 rintro t o ⟨b101, c102, b103, c104, b105, b107, c108, b109, c110, b111, pq1, pq2⟩
 refine pinnedQ pq1 pq2 ?_
 refine go ?_;intros
 cases h
 exact r_end
theorem d_be9 {G : Gam}  (a0 : Int) (a1 : Int) (a2 : Int) (r : Bool) (h : gf_be9 a0 a1 a2 = some r) : Does G if_be9 ks_be9 (c_be9.args (a0, a1, a2)) [] (c_be9.ans (a0, a1, a2) r) := by
 refine does_pn (L := [(0, .v (.int .i64 a0)), (1, .v (.int .i64 a1)), (2, .v (.int .i64 a2))]) (fun bs => pin) fun bs t o => ?_
 show vwp _ ib_be9 _ _
 unfold ib_be9
 refine w_ir ?_
 unfold gf_be9 at h
 refine go ?_;intros
 refine s_split rfl (fun c => ?_) (fun c => ?_)
 ·replace h := itt h c
  rw [c]
  refine go ?_;intros
  cases h
  exact r_end
 replace h := itf h c
 rw [c]
 refine go ?_;intros
 cases h
 exact r_end
theorem d_bc9 {G : Gam} (H_be9 : Has G c_be9) (a0 : Pt) (r : Bool) (h : gf_bc9 a0 = some r) : Does G if_bc9 ks_bc9 (c_bc9.args (a0)) [] (c_bc9.ans (a0) r) := by
 refine does_pn (L := [(0, .agg [.v (.int .i64 a0.x), .v (.int .i64 a0.y)])]) (fun bs => pin) fun bs t o => ?_
 show vwp _ ib_bc9 _ _
 unfold ib_bc9
 refine w_ir ?_
 unfold gf_bc9 at h
 obtain ⟨x2, h3, h⟩ := bnd h
 refine go ?_;intros
 refine c_call (c := c_be9) (a0.x, (-1000), 1000) H_be9 h3 fun ch => ?_
 refine go ?_;intros
 refine s_split rfl (fun c => ?_) (fun c => ?_)
 ·replace h := itt h c
  rw [c]
  obtain ⟨x4, h5, h⟩ := bnd h
  refine go ?_;intros
  refine c_call (c := c_be9) (a0.y, (-1000), 1000) H_be9 h5 fun ch => ?_
  refine go ?_;intros
  cases h
  exact r_end
 replace h := itf h c
 rw [c]
 refine go ?_;intros
 cases h
 exact r_end
theorem d_au9 {G : Gam} (H_be9 : Has G c_be9) (a0 : Str) (r : Bool) (h : gf_au9 a0 = some r) : Does G if_au9 ks_au9 (c_au9.args (a0)) [] (c_au9.ans (a0) r) := by
 refine does_pn (L := [(0, .v (.string a0))]) (fun bs => pin) fun bs t o => ?_
 show vwp _ ib_au9 _ _
 unfold ib_au9
 refine w_ir ?_
 unfold gf_au9 at h
 obtain ⟨hf18, h⟩ := gd h
 obtain ⟨q8, h21, h⟩ := bnd h
 refine go ?_;intros
 refine w_last (fun t o => ∃ q8_, q8 = .inr q8_ ∧ Pin t (ovr [(0, .v (.string a0))] t) ∧ PinH o (ovh [] o)) ?_ ?_
 ·refine w_loop2 (fun n t o => ∃ l12 k10  , gl_au9_1 l12 k10  = some q8 ∧ n = l12.length ∧ (a0.data.toList).drop k10 = l12 ∧ Pin t (ovr [(0, .v (.string a0)), (5, .v (.int .i64 (a0.size : Int))), (6, .v (.int .i64 (k10 : Int)))] t) ∧ PinH o (ovh [] o)) _ ⟨_, _, h21, rfl, rfl, pin, pinh⟩ ?_
  rintro n t o ⟨l12, k10, h21, rfl, hd13, pq1, pq2⟩
  refine pinned pq1 pq2 ?_
  cases l12 with
  | nil =>
   have hge15 := drop_geB hd13
   rw [gl_au9_1] at h21
   refine go ?_;intros
   rw [hge15]
   refine go ?_;intros
   cases h21
   exact k_cn ⟨_, rfl, pin, pinh⟩
  | cons x11 l12 =>
   have hlt14 := drop_ltB hd13
   have hx16 := drop_ixB hd13
   have hw17 := drop_wrB hd13 hf18
   rw [gl_au9_1] at h21
   refine go ?_;intros
   rw [hlt14]
   refine go ?_;intros
   refine r_sidx rfl rfl hx16 ?_
   refine go ?_;intros
   refine s_split rfl (fun c => ?_) (fun c => ?_)
   ·replace h21 := itt h21 c
    rw [c]
    refine go ?_;intros
    cases h21
    replace h : some _ = some _ := h
    cases h
    exact r_end
   replace h21 := itf h21 c
   rw [c]
   refine go ?_;intros
   refine r_sidx rfl rfl hx16 ?_
   refine go ?_;intros
   refine w_cond rfl (fun c => ?_) (fun c => ?_)
   ·replace h21 := itt h21 c
    try rw [c]
    refine go ?_;intros
    cases h21
    replace h : some _ = some _ := h
    cases h
    exact r_end
   replace h21 := itf h21 c
   try rw [c]
   refine go ?_;intros
   rw [hw17]
   exact k_ln2 _ (Nat.lt_succ_self _) ⟨_, _, h21, rfl, drop_next hd13, pin, pinh⟩
 rintro t o ⟨q8, rfl, pq1, pq2⟩
 refine pinnedQ pq1 pq2 ?_
 obtain ⟨x19, h20, h⟩ := bnd h
 refine go ?_;intros
 refine c_call (c := c_be9) ((a0.size : Int), 1, 6) H_be9 h20 fun ch => ?_
 refine go ?_;intros
 cases h
 exact r_end
theorem d_al9 {G : Gam} (H_bc9 : Has G c_bc9) (H_be9 : Has G c_be9) (a0 : Shape) (r : Bool) (h : gf_al9 a0 = some r) : Does G if_al9 ks_al9 (c_al9.args (a0)) [] (c_al9.ans (a0) r) := by
 refine does_pn (L := [(0, .agg [.v (.int .i64 a0.kind), .ro (List.map ePt a0.pts)])]) (fun bs => pin) fun bs t o => ?_
 show vwp _ ib_al9 _ _
 unfold ib_al9
 refine w_ir ?_
 unfold gf_al9 at h
 obtain ⟨hf35, h⟩ := gd h
 obtain ⟨q24, h50, h⟩ := bnd h
 refine go ?_;intros
 refine w_last (fun t o => ∃ q24_, q24 = .inr q24_ ∧ ∃ b41, Pin t (ovr [(1, .ptr 8 b41 226 0 0)] t) ∧ PinH o (ovh [(8, ⟨b41, 1, 226, true, [[.v (.int .i64 a0.kind), .sl false 2 (List.map ePt a0.pts)]]⟩)] o)) ?_ ?_
 ·refine w_loop2 (fun n t o => ∃ l29 k27  b26, gl_al9_1 a0 l29 k27  = some q24 ∧ n = l29.length ∧ (a0.pts).drop k27 = l29 ∧ Pin t (ovr [(1, .ptr 8 b26 226 0 0), (7, .ro (List.map ePt a0.pts)), (8, .v (.int .i64 (a0.pts.length : Int))), (9, .v (.int .i64 (k27 : Int)))] t) ∧ PinH o (ovh [(8, ⟨b26, 1, 226, true, [[.v (.int .i64 a0.kind), .sl false 2 (List.map ePt a0.pts)]]⟩)] o)) _ ⟨_, _, _, h50, rfl, rfl, pin, pinh⟩ ?_
  rintro n t o ⟨l29, k27, b26, h50, rfl, hd30, pq1, pq2⟩
  refine pinned pq1 pq2 ?_
  cases l29 with
  | nil =>
   have hge32 := drop_ge hd30
   rw [gl_al9_1] at h50
   refine go ?_;intros
   rw [hge32]
   refine go ?_;intros
   cases h50
   exact k_cn ⟨_, rfl, _, pin, pinh⟩
  | cons x28 l29 =>
   have hlt31 := drop_lt hd30
   have hx33 := drop_ix hd30
   have hw34 := drop_wr hd30 hf35
   rw [gl_al9_1] at h50
   refine go ?_;intros
   rw [hlt31]
   refine go ?_;intros
   refine r_iro rfl rfl hx33 rfl ?_
   obtain ⟨x37, h38, h50⟩ := bnd h50
   refine go ?_;intros
   refine c_call (c := c_bc9) (x28) H_bc9 h38 fun ch => ?_
   refine go ?_;intros
   refine s_split rfl (fun c => ?_) (fun c => ?_)
   ·replace h50 := itt h50 c
    rw [c]
    refine go ?_;intros
    cases h50
    replace h : some _ = some _ := h
    cases h
    exact r_end
   replace h50 := itf h50 c
   rw [c]
   refine go ?_;intros
   refine s_split rfl (fun c => ?_) (fun c => ?_)
   ·replace h50 := itt h50 c
    rw [c]
    obtain ⟨x39, h40, h50⟩ := bnd h50
    refine go ?_;intros
    refine r_iro rfl rfl h40 rfl ?_
    refine go ?_;intros
    refine w_cond rfl (fun c => ?_) (fun c => ?_)
    ·replace h50 := itt h50 c
     try rw [c]
     refine go ?_;intros
     cases h50
     replace h : some _ = some _ := h
     cases h
     exact r_end
    replace h50 := itf h50 c
    try rw [c]
    refine go ?_;intros
    rw [hw34]
    exact k_ln2 _ (Nat.lt_succ_self _) ⟨_, _, _, h50, rfl, drop_next hd30, pin, pinh⟩
   replace h50 := itf h50 c
   rw [c]
   refine go ?_;intros
   rw [hw34]
   exact k_ln2 _ (Nat.lt_succ_self _) ⟨_, _, _, h50, rfl, drop_next hd30, pin, pinh⟩
 rintro t o ⟨q24, rfl, b41, pq1, pq2⟩
 refine pinnedQ pq1 pq2 ?_
 refine go ?_;intros
 refine w_cond rfl (fun c => ?_) (fun c => ?_)
 ·replace h := itt h c
  try rw [c]
  refine go ?_;intros
  cases h
  exact r_end
 replace h := itf h c
 try rw [c]
 refine go ?_;intros
 refine w_cond rfl (fun c => ?_) (fun c => ?_)
 ·replace h := itt h c
  try rw [c]
  obtain ⟨x42, h43, h⟩ := bnd h
  refine go ?_;intros
  refine c_call (c := c_be9) ((a0.pts.length : Int), 2, 6) H_be9 h43 fun ch => ?_
  refine go ?_;intros
  cases h
  exact r_end
 replace h := itf h c
 try rw [c]
 refine go ?_;intros
 refine w_cond rfl (fun c => ?_) (fun c => ?_)
 ·replace h := itt h c
  try rw [c]
  obtain ⟨x44, h45, h⟩ := bnd h
  refine go ?_;intros
  refine c_call (c := c_be9) ((a0.pts.length : Int), 3, 6) H_be9 h45 fun ch => ?_
  refine go ?_;intros
  refine s_split rfl (fun c => ?_) (fun c => ?_)
  ·replace h := itt h c
   rw [c]
   obtain ⟨x46, h47, h⟩ := bnd h
   refine go ?_;intros
   refine r_iro rfl rfl h47 rfl ?_
   obtain ⟨x48, h49, h⟩ := bnd h
   refine go ?_;intros
   refine r_iro rfl rfl h49 rfl ?_
   refine go ?_;intros
   cases h
   exact r_end
  replace h := itf h c
  rw [c]
  refine go ?_;intros
  cases h
  exact r_end
 replace h := itf h c
 try rw [c]
 refine go ?_;intros
 cases h
 exact r_end
theorem d_aa9 {G : Gam} (H_au9 : Has G c_au9) (H_al9 : Has G c_al9) (a0 : Feat) (r : Bool) (h : gf_aa9 a0 = some r) : Does G if_aa9 ks_aa9 (c_aa9.args (a0)) [] (c_aa9.ans (a0) r) := by
 refine does_pn (L := [(0, .agg [.v (.string a0.id), .v (.int .i64 a0.shape.kind), .ro (List.map ePt a0.shape.pts), .ro (List.map eTag a0.tags)])]) (fun bs => pin) fun bs t o => ?_
 show vwp _ ib_aa9 _ _
 unfold ib_aa9
 refine w_ir ?_
 unfold gf_aa9 at h
 obtain ⟨hf41, h⟩ := gd h
 obtain ⟨q30, h54, h⟩ := bnd h
 refine go ?_;intros
 refine w_last (fun t o => ∃ q30_, q30 = .inr q30_ ∧ ∃ b49, Pin t (ovr [(1, .ptr 8 b49 100 0 0)] t) ∧ PinH o (ovh [(8, ⟨b49, 1, 100, true, [[.v (.string a0.id), .v (.int .i64 a0.shape.kind), .sl false 2 (List.map ePt a0.shape.pts), .sl false 2 (List.map eTag a0.tags)]]⟩)] o)) ?_ ?_
 ·refine w_loop2 (fun n t o => ∃ l35 k33  b32, gl_aa9_1 a0 l35 k33  = some q30 ∧ n = l35.length ∧ (a0.tags).drop k33 = l35 ∧ Pin t (ovr [(1, .ptr 8 b32 100 0 0), (6, .ro (List.map eTag a0.tags)), (7, .v (.int .i64 (a0.tags.length : Int))), (8, .v (.int .i64 (k33 : Int)))] t) ∧ PinH o (ovh [(8, ⟨b32, 1, 100, true, [[.v (.string a0.id), .v (.int .i64 a0.shape.kind), .sl false 2 (List.map ePt a0.shape.pts), .sl false 2 (List.map eTag a0.tags)]]⟩)] o)) _ ⟨_, _, _, h54, rfl, rfl, pin, pinh⟩ ?_
  rintro n t o ⟨l35, k33, b32, h54, rfl, hd36, pq1, pq2⟩
  refine pinned pq1 pq2 ?_
  cases l35 with
  | nil =>
   have hge38 := drop_ge hd36
   rw [gl_aa9_1] at h54
   refine go ?_;intros
   rw [hge38]
   refine go ?_;intros
   cases h54
   exact k_cn ⟨_, rfl, _, pin, pinh⟩
  | cons x34 l35 =>
   have hlt37 := drop_lt hd36
   have hx39 := drop_ix hd36
   have hw40 := drop_wr hd36 hf41
   rw [gl_aa9_1] at h54
   refine go ?_;intros
   rw [hlt37]
   refine go ?_;intros
   refine r_iro rfl rfl hx39 rfl ?_
   obtain ⟨x43, h44, h54⟩ := bnd h54
   refine go ?_;intros
   refine c_call (c := c_au9) (x34.key) H_au9 h44 fun ch => ?_
   refine go ?_;intros
   refine s_split rfl (fun c => ?_) (fun c => ?_)
   ·replace h54 := itt h54 c
    rw [c]
    refine go ?_;intros
    cases h54
    replace h : some _ = some _ := h
    cases h
    exact r_end
   replace h54 := itf h54 c
   rw [c]
   obtain ⟨x45, h46, h54⟩ := bnd h54
   refine go ?_;intros
   refine c_call (c := c_au9) (x34.val) H_au9 h46 fun ch => ?_
   refine go ?_;intros
   refine s_split rfl (fun c => ?_) (fun c => ?_)
   ·replace h54 := itt h54 c
    rw [c]
    refine go ?_;intros
    cases h54
    replace h : some _ = some _ := h
    cases h
    exact r_end
   replace h54 := itf h54 c
   rw [c]
   refine go ?_;intros
   refine s_split rfl (fun c => ?_) (fun c => ?_)
   ·replace h54 := itt h54 c
    rw [c]
    obtain ⟨x47, h48, h54⟩ := bnd h54
    refine go ?_;intros
    refine r_iro rfl rfl h48 rfl ?_
    refine go ?_;intros
    refine w_cond rfl (fun c => ?_) (fun c => ?_)
    ·replace h54 := itt h54 c
     try rw [c]
     refine go ?_;intros
     cases h54
     replace h : some _ = some _ := h
     cases h
     exact r_end
    replace h54 := itf h54 c
    try rw [c]
    refine go ?_;intros
    rw [hw40]
    exact k_ln2 _ (Nat.lt_succ_self _) ⟨_, _, _, h54, rfl, drop_next hd36, pin, pinh⟩
   replace h54 := itf h54 c
   rw [c]
   refine go ?_;intros
   rw [hw40]
   exact k_ln2 _ (Nat.lt_succ_self _) ⟨_, _, _, h54, rfl, drop_next hd36, pin, pinh⟩
 rintro t o ⟨q30, rfl, b49, pq1, pq2⟩
 refine pinnedQ pq1 pq2 ?_
 obtain ⟨x50, h51, h⟩ := bnd h
 refine go ?_;intros
 refine c_call (c := c_au9) (a0.id) H_au9 h51 fun ch => ?_
 refine go ?_;intros
 refine s_split rfl (fun c => ?_) (fun c => ?_)
 ·replace h := itt h c
  rw [c]
  obtain ⟨x52, h53, h⟩ := bnd h
  refine go ?_;intros
  refine c_call (c := c_al9) (a0.shape) H_al9 h53 fun ch => ?_
  refine go ?_;intros
  refine s_split rfl (fun c => ?_) (fun c => ?_)
  ·replace h := itt h c
   rw [c]
   refine go ?_;intros
   cases h
   exact r_end
  replace h := itf h c
  rw [c]
  refine go ?_;intros
  cases h
  exact r_end
 replace h := itf h c
 rw [c]
 refine go ?_;intros
 cases h
 exact r_end
theorem d_bj9 {G : Gam}  (a0 : (List Pt)) (a1 : (List Pt)) (r : Bool) (h : gf_bj9 a0 a1 = some r) : Does G if_bj9 ks_bj9 (c_bj9.args (a0, a1)) [] (c_bj9.ans (a0, a1) r) := by
 refine does_pn (L := [(0, .ro (List.map ePt a0)), (1, .ro (List.map ePt a1))]) (fun bs => pin) fun bs t o => ?_
 show vwp _ ib_bj9 _ _
 unfold ib_bj9
 refine w_ir ?_
 unfold gf_bj9 at h
 refine go ?_;intros
 refine w_cond rfl (fun c => ?_) (fun c => ?_)
 ·replace h := itt h (by first | exact c | (have c2 := c; simp only [List.length_map] at c2; exact c2))
  try rw [c]
  refine go ?_;intros
  cases h
  exact r_end
 replace h := itf h (by first | exact c | (have c2 := c; simp only [List.length_map] at c2; exact c2))
 try rw [c]
 obtain ⟨hf24, h⟩ := gd h
 obtain ⟨q14, h27, h⟩ := bnd h
 refine go ?_;intros
 refine w_last (fun t o => ∃ q14_, q14 = .inr q14_ ∧ Pin t (ovr [] t) ∧ PinH o (ovh [] o)) ?_ ?_
 ·refine w_loop2 (fun n t o => ∃ l18 k16  , gl_bj9_1 a1 l18 k16  = some q14 ∧ n = l18.length ∧ (a0).drop k16 = l18 ∧ Pin t (ovr [(0, .ro (List.map ePt a0)), (1, .ro (List.map ePt a1)), (12, .v (.int .i64 (a0.length : Int))), (13, .v (.int .i64 (k16 : Int)))] t) ∧ PinH o (ovh [] o)) _ ⟨_, _, h27, rfl, rfl, pin, pinh⟩ ?_
  rintro n t o ⟨l18, k16, h27, rfl, hd19, pq1, pq2⟩
  refine pinned pq1 pq2 ?_
  cases l18 with
  | nil =>
   have hge21 := drop_ge hd19
   rw [gl_bj9_1] at h27
   refine go ?_;intros
   rw [hge21]
   refine go ?_;intros
   cases h27
   exact k_cn ⟨_, rfl, pin, pinh⟩
  | cons x17 l18 =>
   have hlt20 := drop_lt hd19
   have hx22 := drop_ix hd19
   have hw23 := drop_wr hd19 hf24
   rw [gl_bj9_1] at h27
   refine go ?_;intros
   rw [hlt20]
   refine go ?_;intros
   refine r_iro rfl rfl hx22 rfl ?_
   obtain ⟨x25, h26, h27⟩ := bnd h27
   refine go ?_;intros
   refine r_iro rfl rfl h26 rfl ?_
   refine go ?_;intros
   refine w_cond rfl (fun c => ?_) (fun c => ?_)
   ·replace h27 := itt h27 c
    try rw [c]
    refine go ?_;intros
    cases h27
    replace h : some _ = some _ := h
    cases h
    exact r_end
   replace h27 := itf h27 c
   try rw [c]
   refine go ?_;intros
   rw [hw23]
   exact k_ln2 _ (Nat.lt_succ_self _) ⟨_, _, h27, rfl, drop_next hd19, pin, pinh⟩
 rintro t o ⟨q14, rfl, pq1, pq2⟩
 refine pinnedQ pq1 pq2 ?_
 refine go ?_;intros
 cases h
 exact r_end
theorem d_am9 {G : Gam} (H_bj9 : Has G c_bj9) (a0 : Shape) (a1 : Shape) (r : Bool) (h : gf_am9 a0 a1 = some r) : Does G if_am9 ks_am9 (c_am9.args (a0, a1)) [] (c_am9.ans (a0, a1) r) := by
 refine does_pn (L := [(0, .agg [.v (.int .i64 a0.kind), .ro (List.map ePt a0.pts)]), (1, .agg [.v (.int .i64 a1.kind), .ro (List.map ePt a1.pts)])]) (fun bs => pin) fun bs t o => ?_
 show vwp _ ib_am9 _ _
 unfold ib_am9
 refine w_ir ?_
 unfold gf_am9 at h
 refine go ?_;intros
 refine s_split rfl (fun c => ?_) (fun c => ?_)
 ·replace h := itt h c
  rw [c]
  obtain ⟨x3, h4, h⟩ := bnd h
  refine go ?_;intros
  refine c_call (c := c_bj9) (a0.pts, a1.pts) H_bj9 h4 fun ch => ?_
  refine go ?_;intros
  cases h
  exact r_end
 replace h := itf h c
 rw [c]
 refine go ?_;intros
 cases h
 exact r_end
theorem d_bk9 {G : Gam}  (a0 : (List Tag)) (a1 : (List Tag)) (r : Bool) (h : gf_bk9 a0 a1 = some r) : Does G if_bk9 ks_bk9 (c_bk9.args (a0, a1)) [] (c_bk9.ans (a0, a1) r) := by
 refine does_pn (L := [(0, .ro (List.map eTag a0)), (1, .ro (List.map eTag a1))]) (fun bs => pin) fun bs t o => ?_
 show vwp _ ib_bk9 _ _
 unfold ib_bk9
 refine w_ir ?_
 unfold gf_bk9 at h
 refine go ?_;intros
 refine w_cond rfl (fun c => ?_) (fun c => ?_)
 ·replace h := itt h (by first | exact c | (have c2 := c; simp only [List.length_map] at c2; exact c2))
  try rw [c]
  refine go ?_;intros
  cases h
  exact r_end
 replace h := itf h (by first | exact c | (have c2 := c; simp only [List.length_map] at c2; exact c2))
 try rw [c]
 obtain ⟨hf24, h⟩ := gd h
 obtain ⟨q14, h27, h⟩ := bnd h
 refine go ?_;intros
 refine w_last (fun t o => ∃ q14_, q14 = .inr q14_ ∧ Pin t (ovr [] t) ∧ PinH o (ovh [] o)) ?_ ?_
 ·refine w_loop2 (fun n t o => ∃ l18 k16  , gl_bk9_1 a1 l18 k16  = some q14 ∧ n = l18.length ∧ (a0).drop k16 = l18 ∧ Pin t (ovr [(0, .ro (List.map eTag a0)), (1, .ro (List.map eTag a1)), (12, .v (.int .i64 (a0.length : Int))), (13, .v (.int .i64 (k16 : Int)))] t) ∧ PinH o (ovh [] o)) _ ⟨_, _, h27, rfl, rfl, pin, pinh⟩ ?_
  rintro n t o ⟨l18, k16, h27, rfl, hd19, pq1, pq2⟩
  refine pinned pq1 pq2 ?_
  cases l18 with
  | nil =>
   have hge21 := drop_ge hd19
   rw [gl_bk9_1] at h27
   refine go ?_;intros
   rw [hge21]
   refine go ?_;intros
   cases h27
   exact k_cn ⟨_, rfl, pin, pinh⟩
  | cons x17 l18 =>
   have hlt20 := drop_lt hd19
   have hx22 := drop_ix hd19
   have hw23 := drop_wr hd19 hf24
   rw [gl_bk9_1] at h27
   refine go ?_;intros
   rw [hlt20]
   refine go ?_;intros
   refine r_iro rfl rfl hx22 rfl ?_
   obtain ⟨x25, h26, h27⟩ := bnd h27
   refine go ?_;intros
   refine r_iro rfl rfl h26 rfl ?_
   refine go ?_;intros
   refine w_cond rfl (fun c => ?_) (fun c => ?_)
   ·replace h27 := itt h27 c
    try rw [c]
    refine go ?_;intros
    cases h27
    replace h : some _ = some _ := h
    cases h
    exact r_end
   replace h27 := itf h27 c
   try rw [c]
   refine go ?_;intros
   rw [hw23]
   exact k_ln2 _ (Nat.lt_succ_self _) ⟨_, _, h27, rfl, drop_next hd19, pin, pinh⟩
 rintro t o ⟨q14, rfl, pq1, pq2⟩
 refine pinnedQ pq1 pq2 ?_
 refine go ?_;intros
 cases h
 exact r_end
end Go.Proofs.AM
