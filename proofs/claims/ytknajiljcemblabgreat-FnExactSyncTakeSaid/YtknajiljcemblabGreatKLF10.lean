/- Lemmas of the proof (KLF10), on an abstract machine. Conditions: none. -/
import Derived.Test.YtknajiljcemblabGreatKLD
set_option linter.unusedVariables false
set_option linter.unusedSimpArgs false
set_option maxRecDepth 100000
set_option maxHeartbeats 4000000
namespace Go.Proofs.AM
attribute [local irreducible] vwp vstps vstpLs vstp vdo vret kseq kblk kloop kend kcut kloop2 frzV renV shutK pfzV trnV unrV
theorem d_ah9 {G : Gam}  (a0 : Repo) (a1 : Int) (r : (List Bool)) (h : gf_ah9 a0 a1 = some r) : Does G if_ah9 ks_ah9 (c_ah9.args (a0, a1)) [] (c_ah9.ans (a0, a1) r) := by
 refine does_pn (L := [(0, .agg [.ro (List.map (eCommit false) a0.commits), .ro (List.map eHead a0.heads)]), (1, .v (.int .i64 a1))]) (fun bs => pin) fun bs t o => ?_
 show vwp _ ib_ah9 _ _
 unfold ib_ah9
 refine w_ir ?_
 unfold gf_ah9 at h
 obtain ⟨h4, h⟩ := gd h
 refine go ?_;intros
 refine r_mks (f := eBool) (x := false) rfl rfl (band1 h4) (band2 h4) rfl fun b2 => ?_
 obtain ⟨x5, h6, h⟩ := bnd h
 refine go ?_;intros
 refine r_ire (xs := (List.replicate ((a0.commits.length : Int)).toNat false)) rfl rfl h6 rfl ?_
 refine go ?_;intros
 refine c_ste (f := eBool) (List.replicate ((a0.commits.length : Int)).toNat false) true (idx_get h6).2 ?_
 obtain ⟨q150, h205, h⟩ := bnd h
 refine go ?_;intros
 refine w_last (fun t o => ∃ b203 c204, Pin t (ovr [(5, .ref 96 b203 c204 0 q150.length 33)] t) ∧ PinH o (ovh [(96, ent b203 c204 33 (List.map eBool q150))] o)) ?_ ?_
 ·refine w_loop2 (fun n t o => ∃ n156 v151 v153 b152 b154 c155, gl_ah9_4 a0 n156 v151 v153 = some q150 ∧ n156 = n ∧ Pin t (ovr [(2, .ptr 16 b152 210 0 0), (5, .ref 96 b154 c155 0 v153.length 33), (6, .v (.int .i64 v151))] t) ∧ PinH o (ovh [(16, ⟨b152, 1, 210, true, [[.sl false 3 (List.map (eCommit false) a0.commits), .sl false 2 (List.map eHead a0.heads)]]⟩), (96, ent b154 c155 33 (List.map eBool v153))] o)) _ ⟨_, _, _, _, _, _, h205, rfl, pin, pinh⟩ ?_
  rintro n t o ⟨n156, v151, v153, b152, b154, c155, h205, rfl, pq1, pq2⟩
  refine pinned pq1 pq2 ?_
  cases n156 with
  | zero => rw [gl_ah9_4] at h205; cases h205
  | succ n156 =>
   rw [gl_ah9_4] at h205
   refine go ?_;intros
   refine w_cond rfl (fun c => ?_) (fun c => ?_)
   ·replace h205 := itt h205 c
    try rw [c]
    obtain ⟨x157, h158, h205⟩ := bnd h205
    refine go ?_;intros
    refine r_ire (xs := v153) rfl rfl h158 rfl ?_
    refine go ?_;intros
    refine r_lde (f := eBool) (xs := v153) (x := x157) rfl rfl (idx_get h158).2 rfl rfl rfl ?_
    refine go ?_;intros
    refine w_cond rfl (fun c => ?_) (fun c => ?_)
    ·replace h205 := itt h205 c
     try rw [c]
     obtain ⟨x159, h160, h205⟩ := bnd h205
     refine go ?_;intros
     refine r_iro rfl rfl h160 rfl ?_
     obtain ⟨hf195, h205⟩ := gd h205
     obtain ⟨q181, h206, h205⟩ := bnd h205
     refine go ?_;intros
     refine w_last (fun t o => ∃ b198 b200 c201, Pin t (ovr [(2, .ptr 16 b198 210 0 0), (5, .ref 96 b200 c201 0 q181.length 33), (6, .v (.int .i64 v151))] t) ∧ PinH o (ovh [(16, ⟨b198, 1, 210, true, [[.sl false 3 (List.map (eCommit false) a0.commits), .sl false 2 (List.map eHead a0.heads)]]⟩), (96, ent b200 c201 33 (List.map eBool q181))] o)) ?_ ?_
     ·refine w_loop2 (fun n t o => ∃ l189 k187 v184 b183 b185 c186, gl_ah9_5 l189 k187 v184 = some q181 ∧ n = l189.length ∧ (x159.up).drop k187 = l189 ∧ Pin t (ovr [(2, .ptr 16 b183 210 0 0), (5, .ref 96 b185 c186 0 v184.length 33), (6, .v (.int .i64 v151)), (30, .ro (List.map eInt x159.up)), (31, .v (.int .i64 (x159.up.length : Int))), (32, .v (.int .i64 (k187 : Int)))] t) ∧ PinH o (ovh [(16, ⟨b183, 1, 210, true, [[.sl false 3 (List.map (eCommit false) a0.commits), .sl false 2 (List.map eHead a0.heads)]]⟩), (96, ent b185 c186 33 (List.map eBool v184))] o)) _ ⟨_, _, _, _, _, _, h206, rfl, rfl, pin, pinh⟩ ?_
      rintro n t o ⟨l189, k187, v184, b183, b185, c186, h206, rfl, hd190, pq1, pq2⟩
      refine pinned pq1 pq2 ?_
      cases l189 with
      | nil =>
       have hge192 := drop_ge hd190
       rw [gl_ah9_5] at h206
       refine go ?_;intros
       rw [hge192]
       refine go ?_;intros
       cases h206
       exact k_cn ⟨_, _, _, pin, pinh⟩
      | cons x188 l189 =>
       have hlt191 := drop_lt hd190
       have hx193 := drop_ix hd190
       have hw194 := drop_wr hd190 hf195
       rw [gl_ah9_5] at h206
       refine go ?_;intros
       rw [hlt191]
       refine go ?_;intros
       refine r_iro rfl rfl hx193 rfl ?_
       obtain ⟨x196, h197, h206⟩ := bnd h206
       refine go ?_;intros
       refine r_ire (xs := v184) rfl rfl h197 rfl ?_
       refine go ?_;intros
       refine c_ste (f := eBool) v184 true (idx_get h197).2 ?_
       refine go ?_;intros
       rw [hw194]
       exact k_ln2 _ (Nat.lt_succ_self _) ⟨_, _, _, _, _, _, h206, rfl, drop_next hd190, pin, pinh⟩
     rintro t o ⟨b198, b200, c201, pq1, pq2⟩
     refine pinnedQ pq1 pq2 ?_
     refine go ?_;intros
     exact k_ln2 _ (Nat.lt_succ_self _) ⟨_, _, _, _, _, _, h205, rfl, pin, pinh⟩
    replace h205 := itf h205 c
    try rw [c]
    refine go ?_;intros
    exact k_ln2 _ (Nat.lt_succ_self _) ⟨_, _, _, _, _, _, h205, rfl, pin, pinh⟩
   replace h205 := itf h205 c
   try rw [c]
   refine go ?_;intros
   cases h205
   exact k_cn ⟨_, _, pin, pinh⟩
 rintro t o ⟨b203, c204, pq1, pq2⟩
 refine pinnedQ pq1 pq2 ?_
 refine go ?_;intros
 cases h
 exact r_end
theorem d_aw9 {G : Gam} (H_au9 : Has G c_au9) (a0 : Repo) (r : Repo) (h : gf_aw9 a0 = some r) : Does G if_aw9 ks_aw9 (c_aw9.args (a0)) [] (c_aw9.ans (a0) r) := by
 refine does_pn (L := [(0, .agg [.ro (List.map (eCommit false) a0.commits), .ro (List.map eHead a0.heads)])]) (fun bs => pin) fun bs t o => ?_
 show vwp _ ib_aw9 _ _
 unfold ib_aw9
 refine w_ir ?_
 unfold gf_aw9 at h
 obtain ⟨h7, h⟩ := gd h
 refine go ?_;intros
 refine r_app (f := eHead) (xs := ([] : (List Head))) (ys := a0.heads) rfl (src_ro (fun _ => rfl) (fun _ => rfl)) rfl rfl (by first | rfl | simp) h7 fun b5 c6 => ?_
 obtain ⟨hf91, h⟩ := gd h
 obtain ⟨q70, h114, h⟩ := bnd h
 refine go ?_;intros
 refine w_last (fun t o => ∃ b103 c104 b105 c106 b107 b109 c110 b111 c112 b113, Pin t (ovr [(2, .ptr 16 b107 210 0 0), (3, .ptr 24 b113 210 0 0)] t) ∧ PinH o (ovh [(1000256, ent b103 c104 115 (List.map (eCommit true) [])), (1000257, ent b105 c106 130 (List.map eHead [])), (16, ⟨b107, 1, 210, true, [[.al 1000256 b103 c104 0 ([] : List Commit).length 115, .al 1000257 b105 c106 0 ([] : List Head).length 130]]⟩), (1000384, ent b109 c110 115 (List.map (eCommit true) q70)), (1000385, ent b111 c112 130 (List.map eHead ([] ++ a0.heads))), (24, ⟨b113, 1, 210, true, [[.al 1000384 b109 c110 0 q70.length 115, .al 1000385 b111 c112 0 ([] ++ a0.heads).length 130]]⟩)] o)) ?_ ?_
 ·refine w_loop2 (fun n t o => ∃ l85 k83 v77 b72 c73 b74 c75 b76 b78 c79 b80 c81 b82, gl_aw9_1 l85 k83 v77 = some q70 ∧ n = l85.length ∧ (a0.commits).drop k83 = l85 ∧ Pin t (ovr [(2, .ptr 16 b76 210 0 0), (3, .ptr 24 b82 210 0 0), (13, .ro (List.map (eCommit false) a0.commits)), (14, .v (.int .i64 (a0.commits.length : Int))), (15, .v (.int .i64 (k83 : Int)))] t) ∧ PinH o (ovh [(1000256, ent b72 c73 115 (List.map (eCommit true) [])), (1000257, ent b74 c75 130 (List.map eHead [])), (16, ⟨b76, 1, 210, true, [[.al 1000256 b72 c73 0 ([] : List Commit).length 115, .al 1000257 b74 c75 0 ([] : List Head).length 130]]⟩), (1000384, ent b78 c79 115 (List.map (eCommit true) v77)), (1000385, ent b80 c81 130 (List.map eHead ([] ++ a0.heads))), (24, ⟨b82, 1, 210, true, [[.al 1000384 b78 c79 0 v77.length 115, .al 1000385 b80 c81 0 ([] ++ a0.heads).length 130]]⟩)] o)) _ ⟨_, _, _, _, _, _, _, _, _, _, _, _, _, h114, rfl, rfl, pin, pinh⟩ ?_
  rintro n t o ⟨l85, k83, v77, b72, c73, b74, c75, b76, b78, c79, b80, c81, b82, h114, rfl, hd86, pq1, pq2⟩
  refine pinned pq1 pq2 ?_
  cases l85 with
  | nil =>
   have hge88 := drop_ge hd86
   rw [gl_aw9_1] at h114
   refine go ?_;intros
   rw [hge88]
   refine go ?_;intros
   cases h114
   exact k_cn ⟨_, _, _, _, _, _, _, _, _, _, pin, pinh⟩
  | cons x84 l85 =>
   have hlt87 := drop_lt hd86
   have hx89 := drop_ix hd86
   have hw90 := drop_wr hd86 hf91
   rw [gl_aw9_1] at h114
   refine go ?_;intros
   rw [hlt87]
   refine go ?_;intros
   refine r_iro rfl rfl hx89 rfl ?_
   obtain ⟨x93, h94, h114⟩ := bnd h114
   refine go ?_;intros
   refine c_call (c := c_au9) (x84) H_au9 h94 fun ch => ?_
   refine go ?_;intros
   try simp only [take_map_len, take_ent]
   obtain ⟨h102, h114⟩ := gd h114
   refine go ?_;intros
   refine r_app (f := (eCommit true)) (xs := v77) (ys := ([x93] : (List Commit))) rfl (src_mv rfl rfl (by first | rfl | simp)) rfl rfl (by first | rfl | simp) h102 fun b100 c101 => ?_
   refine go ?_;intros
   rw [hw90]
   exact k_ln2 _ (Nat.lt_succ_self _) ⟨_, _, _, _, _, _, _, _, _, _, _, _, _, h114, rfl, drop_next hd86, pin, pinh⟩
 rintro t o ⟨b103, c104, b105, c106, b107, b109, c110, b111, c112, b113, pq1, pq2⟩
 refine pinnedQ pq1 pq2 ?_
 refine go ?_;intros
 cases h
 exact r_end
theorem d_bk9 {G : Gam}  (a0 : Pt) (a1 : Pt) (r : Bool) (h : gf_bk9 a0 a1 = some r) : Does G if_bk9 ks_bk9 (c_bk9.args (a0, a1)) [] (c_bk9.ans (a0, a1) r) := by
 refine does_pn (L := [(0, .agg [.v (.int .i64 a0.x), .v (.int .i64 a0.y)]), (1, .agg [.v (.int .i64 a1.x), .v (.int .i64 a1.y)])]) (fun bs => pin) fun bs t o => ?_
 show vwp _ ib_bk9 _ _
 unfold ib_bk9
 refine w_ir ?_
 unfold gf_bk9 at h
 refine go ?_;intros
 refine w_cond rfl (fun c => ?_) (fun c => ?_)
 ·replace h := itt h c
  try rw [c]
  refine go ?_;intros
  cases h
  exact r_end
 replace h := itf h c
 try rw [c]
 refine go ?_;intros
 refine w_cond rfl (fun c => ?_) (fun c => ?_)
 ·replace h := itt h c
  try rw [c]
  refine go ?_;intros
  cases h
  exact r_end
 replace h := itf h c
 try rw [c]
 refine go ?_;intros
 cases h
 exact r_end
theorem d_bl9 {G : Gam} (H_bk9 : Has G c_bk9) (a0 : (List Pt)) (a1 : (List Pt)) (r : Bool) (h : gf_bl9 a0 a1 = some r) : Does G if_bl9 ks_bl9 (c_bl9.args (a0, a1)) [] (c_bl9.ans (a0, a1) r) := by
 refine does_pn (L := [(0, .ro (List.map ePt a0)), (1, .ro (List.map ePt a1))]) (fun bs => pin) fun bs t o => ?_
 show vwp _ ib_bl9 _ _
 unfold ib_bl9
 refine w_ir ?_
 unfold gf_bl9 at h
 refine go ?_;intros
 refine w_cond rfl (fun c => ?_) (fun c => ?_)
 ·replace h := itt h (by first | exact c | (have c2 := c; simp only [List.length_map] at c2; exact c2))
  try rw [c]
  refine go ?_;intros
  cases h
  exact r_end
 replace h := itf h (by first | exact c | (have c2 := c; simp only [List.length_map] at c2; exact c2))
 try rw [c]
 obtain ⟨hf30, h⟩ := gd h
 obtain ⟨q20, h35, h⟩ := bnd h
 refine go ?_;intros
 refine w_last (fun t o => ∃ q20_, q20 = .inr q20_ ∧ Pin t (ovr [] t) ∧ PinH o (ovh [] o)) ?_ ?_
 ·refine w_loop2 (fun n t o => ∃ l24 k22  , gl_bl9_1 a1 l24 k22  = some q20 ∧ n = l24.length ∧ (a0).drop k22 = l24 ∧ Pin t (ovr [(0, .ro (List.map ePt a0)), (1, .ro (List.map ePt a1)), (5, .v (.int .i64 (k22 : Int)))] t) ∧ PinH o (ovh [] o)) _ ⟨_, _, h35, rfl, rfl, pin, pinh⟩ ?_
  rintro n t o ⟨l24, k22, h35, rfl, hd25, pq1, pq2⟩
  refine pinned pq1 pq2 ?_
  cases l24 with
  | nil =>
   have hge27 := drop_ge hd25
   rw [gl_bl9_1] at h35
   refine go ?_;intros
   rw [hge27]
   refine go ?_;intros
   cases h35
   exact k_cn ⟨_, rfl, pin, pinh⟩
  | cons x23 l24 =>
   have hlt26 := drop_lt hd25
   have hx28 := drop_ix hd25
   have hw29 := drop_wr hd25 hf30
   rw [gl_bl9_1] at h35
   refine go ?_;intros
   rw [hlt26]
   refine go ?_;intros
   refine r_iro rfl rfl hx28 rfl ?_
   obtain ⟨x31, h32, h35⟩ := bnd h35
   refine go ?_;intros
   refine r_iro rfl rfl h32 rfl ?_
   obtain ⟨x33, h34, h35⟩ := bnd h35
   refine go ?_;intros
   refine c_call (c := c_bk9) (x23, x31) H_bk9 h34 fun ch => ?_
   refine go ?_;intros
   refine w_cond rfl (fun c => ?_) (fun c => ?_)
   ·replace h35 := itt h35 c
    try rw [c]
    refine go ?_;intros
    cases h35
    replace h : some _ = some _ := h
    cases h
    exact r_end
   replace h35 := itf h35 c
   try rw [c]
   refine go ?_;intros
   rw [hw29]
   exact k_ln2 _ (Nat.lt_succ_self _) ⟨_, _, h35, rfl, drop_next hd25, pin, pinh⟩
 rintro t o ⟨q20, rfl, pq1, pq2⟩
 refine pinnedQ pq1 pq2 ?_
 refine go ?_;intros
 cases h
 exact r_end
theorem d_bo9 {G : Gam}  (a0 : Tag) (a1 : Tag) (r : Bool) (h : gf_bo9 a0 a1 = some r) : Does G if_bo9 ks_bo9 (c_bo9.args (a0, a1)) [] (c_bo9.ans (a0, a1) r) := by
 refine does_pn (L := [(0, .agg [.v (.string a0.key), .v (.string a0.val)]), (1, .agg [.v (.string a1.key), .v (.string a1.val)])]) (fun bs => pin) fun bs t o => ?_
 show vwp _ ib_bo9 _ _
 unfold ib_bo9
 refine w_ir ?_
 unfold gf_bo9 at h
 refine go ?_;intros
 refine w_cond rfl (fun c => ?_) (fun c => ?_)
 ·replace h := itt h c
  try rw [c]
  refine go ?_;intros
  cases h
  exact r_end
 replace h := itf h c
 try rw [c]
 refine go ?_;intros
 refine w_cond rfl (fun c => ?_) (fun c => ?_)
 ·replace h := itt h c
  try rw [c]
  refine go ?_;intros
  cases h
  exact r_end
 replace h := itf h c
 try rw [c]
 refine go ?_;intros
 cases h
 exact r_end
theorem d_bn9 {G : Gam} (H_bl9 : Has G c_bl9) (a0 : Shape) (a1 : Shape) (r : Bool) (h : gf_bn9 a0 a1 = some r) : Does G if_bn9 ks_bn9 (c_bn9.args (a0, a1)) [] (c_bn9.ans (a0, a1) r) := by
 refine does_pn (L := [(0, .agg [.v (.int .i64 a0.kind), .ro (List.map ePt a0.pts)]), (1, .agg [.v (.int .i64 a1.kind), .ro (List.map ePt a1.pts)])]) (fun bs => pin) fun bs t o => ?_
 show vwp _ ib_bn9 _ _
 unfold ib_bn9
 refine w_ir ?_
 unfold gf_bn9 at h
 refine go ?_;intros
 refine w_cond rfl (fun c => ?_) (fun c => ?_)
 ·replace h := itt h c
  try rw [c]
  refine go ?_;intros
  cases h
  exact r_end
 replace h := itf h c
 try rw [c]
 obtain ⟨x3, h4, h⟩ := bnd h
 refine go ?_;intros
 refine c_call (c := c_bl9) (a0.pts, a1.pts) H_bl9 h4 fun ch => ?_
 refine go ?_;intros
 refine w_cond rfl (fun c => ?_) (fun c => ?_)
 ·replace h := itt h c
  try rw [c]
  refine go ?_;intros
  cases h
  exact r_end
 replace h := itf h c
 try rw [c]
 refine go ?_;intros
 cases h
 exact r_end
theorem d_bp9 {G : Gam} (H_bo9 : Has G c_bo9) (a0 : (List Tag)) (a1 : (List Tag)) (r : Bool) (h : gf_bp9 a0 a1 = some r) : Does G if_bp9 ks_bp9 (c_bp9.args (a0, a1)) [] (c_bp9.ans (a0, a1) r) := by
 refine does_pn (L := [(0, .ro (List.map eTag a0)), (1, .ro (List.map eTag a1))]) (fun bs => pin) fun bs t o => ?_
 show vwp _ ib_bp9 _ _
 unfold ib_bp9
 refine w_ir ?_
 unfold gf_bp9 at h
 refine go ?_;intros
 refine w_cond rfl (fun c => ?_) (fun c => ?_)
 ·replace h := itt h (by first | exact c | (have c2 := c; simp only [List.length_map] at c2; exact c2))
  try rw [c]
  refine go ?_;intros
  cases h
  exact r_end
 replace h := itf h (by first | exact c | (have c2 := c; simp only [List.length_map] at c2; exact c2))
 try rw [c]
 obtain ⟨hf30, h⟩ := gd h
 obtain ⟨q20, h35, h⟩ := bnd h
 refine go ?_;intros
 refine w_last (fun t o => ∃ q20_, q20 = .inr q20_ ∧ Pin t (ovr [] t) ∧ PinH o (ovh [] o)) ?_ ?_
 ·refine w_loop2 (fun n t o => ∃ l24 k22  , gl_bp9_1 a1 l24 k22  = some q20 ∧ n = l24.length ∧ (a0).drop k22 = l24 ∧ Pin t (ovr [(0, .ro (List.map eTag a0)), (1, .ro (List.map eTag a1)), (5, .v (.int .i64 (k22 : Int)))] t) ∧ PinH o (ovh [] o)) _ ⟨_, _, h35, rfl, rfl, pin, pinh⟩ ?_
  rintro n t o ⟨l24, k22, h35, rfl, hd25, pq1, pq2⟩
  refine pinned pq1 pq2 ?_
  cases l24 with
  | nil =>
   have hge27 := drop_ge hd25
   rw [gl_bp9_1] at h35
   refine go ?_;intros
   rw [hge27]
   refine go ?_;intros
   cases h35
   exact k_cn ⟨_, rfl, pin, pinh⟩
  | cons x23 l24 =>
   have hlt26 := drop_lt hd25
   have hx28 := drop_ix hd25
   have hw29 := drop_wr hd25 hf30
   rw [gl_bp9_1] at h35
   refine go ?_;intros
   rw [hlt26]
   refine go ?_;intros
   refine r_iro rfl rfl hx28 rfl ?_
   obtain ⟨x31, h32, h35⟩ := bnd h35
   refine go ?_;intros
   refine r_iro rfl rfl h32 rfl ?_
   obtain ⟨x33, h34, h35⟩ := bnd h35
   refine go ?_;intros
   refine c_call (c := c_bo9) (x23, x31) H_bo9 h34 fun ch => ?_
   refine go ?_;intros
   refine w_cond rfl (fun c => ?_) (fun c => ?_)
   ·replace h35 := itt h35 c
    try rw [c]
    refine go ?_;intros
    cases h35
    replace h : some _ = some _ := h
    cases h
    exact r_end
   replace h35 := itf h35 c
   try rw [c]
   refine go ?_;intros
   rw [hw29]
   exact k_ln2 _ (Nat.lt_succ_self _) ⟨_, _, h35, rfl, drop_next hd25, pin, pinh⟩
 rintro t o ⟨q20, rfl, pq1, pq2⟩
 refine pinnedQ pq1 pq2 ?_
 refine go ?_;intros
 cases h
 exact r_end
theorem d_bf9 {G : Gam} (H_bn9 : Has G c_bn9) (H_bp9 : Has G c_bp9) (a0 : Feat) (a1 : Feat) (r : Bool) (h : gf_bf9 a0 a1 = some r) : Does G if_bf9 ks_bf9 (c_bf9.args (a0, a1)) [] (c_bf9.ans (a0, a1) r) := by
 refine does_pn (L := [(0, .agg [.v (.string a0.id), .v (.int .i64 a0.shape.kind), .ro (List.map ePt a0.shape.pts), .ro (List.map eTag a0.tags)]), (1, .agg [.v (.string a1.id), .v (.int .i64 a1.shape.kind), .ro (List.map ePt a1.shape.pts), .ro (List.map eTag a1.tags)])]) (fun bs => pin) fun bs t o => ?_
 show vwp _ ib_bf9 _ _
 unfold ib_bf9
 refine w_ir ?_
 unfold gf_bf9 at h
 refine go ?_;intros
 refine w_cond rfl (fun c => ?_) (fun c => ?_)
 ·replace h := itt h c
  try rw [c]
  refine go ?_;intros
  cases h
  exact r_end
 replace h := itf h c
 try rw [c]
 obtain ⟨x3, h4, h⟩ := bnd h
 refine go ?_;intros
 refine c_call (c := c_bn9) (a0.shape, a1.shape) H_bn9 h4 fun ch => ?_
 refine go ?_;intros
 refine w_cond rfl (fun c => ?_) (fun c => ?_)
 ·replace h := itt h c
  try rw [c]
  refine go ?_;intros
  cases h
  exact r_end
 replace h := itf h c
 try rw [c]
 obtain ⟨x5, h6, h⟩ := bnd h
 refine go ?_;intros
 refine c_call (c := c_bp9) (a0.tags, a1.tags) H_bp9 h6 fun ch => ?_
 refine go ?_;intros
 refine w_cond rfl (fun c => ?_) (fun c => ?_)
 ·replace h := itt h c
  try rw [c]
  refine go ?_;intros
  cases h
  exact r_end
 replace h := itf h c
 try rw [c]
 refine go ?_;intros
 cases h
 exact r_end
theorem d_bj9 {G : Gam}  (a0 : (List Int)) (a1 : (List Int)) (r : Bool) (h : gf_bj9 a0 a1 = some r) : Does G if_bj9 ks_bj9 (c_bj9.args (a0, a1)) [] (c_bj9.ans (a0, a1) r) := by
 refine does_pn (L := [(0, .ro (List.map eInt a0)), (1, .ro (List.map eInt a1))]) (fun bs => pin) fun bs t o => ?_
 show vwp _ ib_bj9 _ _
 unfold ib_bj9
 refine w_ir ?_
 unfold gf_bj9 at h
 refine go ?_;intros
 refine w_cond rfl (fun c => ?_) (fun c => ?_)
 ·replace h := itt h (by first | exact c | (have c2 := c; simp only [List.length_map] at c2; exact c2))
  try rw [c]
  refine go ?_;intros
  cases h
  exact r_end
 replace h := itf h (by first | exact c | (have c2 := c; simp only [List.length_map] at c2; exact c2))
 try rw [c]
 obtain ⟨hf24, h⟩ := gd h
 obtain ⟨q14, h27, h⟩ := bnd h
 refine go ?_;intros
 refine w_last (fun t o => ∃ q14_, q14 = .inr q14_ ∧ Pin t (ovr [] t) ∧ PinH o (ovh [] o)) ?_ ?_
 ·refine w_loop2 (fun n t o => ∃ l18 k16  , gl_bj9_1 a1 l18 k16  = some q14 ∧ n = l18.length ∧ (a0).drop k16 = l18 ∧ Pin t (ovr [(0, .ro (List.map eInt a0)), (1, .ro (List.map eInt a1)), (5, .v (.int .i64 (k16 : Int)))] t) ∧ PinH o (ovh [] o)) _ ⟨_, _, h27, rfl, rfl, pin, pinh⟩ ?_
  rintro n t o ⟨l18, k16, h27, rfl, hd19, pq1, pq2⟩
  refine pinned pq1 pq2 ?_
  cases l18 with
  | nil =>
   have hge21 := drop_ge hd19
   rw [gl_bj9_1] at h27
   refine go ?_;intros
   rw [hge21]
   refine go ?_;intros
   cases h27
   exact k_cn ⟨_, rfl, pin, pinh⟩
  | cons x17 l18 =>
   have hlt20 := drop_lt hd19
   have hx22 := drop_ix hd19
   have hw23 := drop_wr hd19 hf24
   rw [gl_bj9_1] at h27
   refine go ?_;intros
   rw [hlt20]
   refine go ?_;intros
   refine r_iro rfl rfl hx22 rfl ?_
   obtain ⟨x25, h26, h27⟩ := bnd h27
   refine go ?_;intros
   refine r_iro rfl rfl h26 rfl ?_
   refine go ?_;intros
   refine w_cond rfl (fun c => ?_) (fun c => ?_)
   ·replace h27 := itt h27 c
    try rw [c]
    refine go ?_;intros
    cases h27
    replace h : some _ = some _ := h
    cases h
    exact r_end
   replace h27 := itf h27 c
   try rw [c]
   refine go ?_;intros
   rw [hw23]
   exact k_ln2 _ (Nat.lt_succ_self _) ⟨_, _, h27, rfl, drop_next hd19, pin, pinh⟩
 rintro t o ⟨q14, rfl, pq1, pq2⟩
 refine pinnedQ pq1 pq2 ?_
 refine go ?_;intros
 cases h
 exact r_end
theorem d_bg9 {G : Gam} (H_bf9 : Has G c_bf9) (a0 : (List Feat)) (a1 : (List Feat)) (r : Bool) (h : gf_bg9 a0 a1 = some r) : Does G if_bg9 ks_bg9 (c_bg9.args (a0, a1)) [] (c_bg9.ans (a0, a1) r) := by
 refine does_pn (L := [(0, .ro (List.map (eFeat false) a0)), (1, .ro (List.map (eFeat false) a1))]) (fun bs => pin) fun bs t o => ?_
 show vwp _ ib_bg9 _ _
 unfold ib_bg9
 refine w_ir ?_
 unfold gf_bg9 at h
 refine go ?_;intros
 refine w_cond rfl (fun c => ?_) (fun c => ?_)
 ·replace h := itt h (by first | exact c | (have c2 := c; simp only [List.length_map] at c2; exact c2))
  try rw [c]
  refine go ?_;intros
  cases h
  exact r_end
 replace h := itf h (by first | exact c | (have c2 := c; simp only [List.length_map] at c2; exact c2))
 try rw [c]
 obtain ⟨hf30, h⟩ := gd h
 obtain ⟨q20, h35, h⟩ := bnd h
 refine go ?_;intros
 refine w_last (fun t o => ∃ q20_, q20 = .inr q20_ ∧ Pin t (ovr [] t) ∧ PinH o (ovh [] o)) ?_ ?_
 ·refine w_loop2 (fun n t o => ∃ l24 k22  , gl_bg9_1 a1 l24 k22  = some q20 ∧ n = l24.length ∧ (a0).drop k22 = l24 ∧ Pin t (ovr [(0, .ro (List.map (eFeat false) a0)), (1, .ro (List.map (eFeat false) a1)), (5, .v (.int .i64 (k22 : Int)))] t) ∧ PinH o (ovh [] o)) _ ⟨_, _, h35, rfl, rfl, pin, pinh⟩ ?_
  rintro n t o ⟨l24, k22, h35, rfl, hd25, pq1, pq2⟩
  refine pinned pq1 pq2 ?_
  cases l24 with
  | nil =>
   have hge27 := drop_ge hd25
   rw [gl_bg9_1] at h35
   refine go ?_;intros
   rw [hge27]
   refine go ?_;intros
   cases h35
   exact k_cn ⟨_, rfl, pin, pinh⟩
  | cons x23 l24 =>
   have hlt26 := drop_lt hd25
   have hx28 := drop_ix hd25
   have hw29 := drop_wr hd25 hf30
   rw [gl_bg9_1] at h35
   refine go ?_;intros
   rw [hlt26]
   refine go ?_;intros
   refine r_iro rfl rfl hx28 rfl ?_
   obtain ⟨x31, h32, h35⟩ := bnd h35
   refine go ?_;intros
   refine r_iro rfl rfl h32 rfl ?_
   obtain ⟨x33, h34, h35⟩ := bnd h35
   refine go ?_;intros
   refine c_call (c := c_bf9) (x23, x31) H_bf9 h34 fun ch => ?_
   refine go ?_;intros
   refine w_cond rfl (fun c => ?_) (fun c => ?_)
   ·replace h35 := itt h35 c
    try rw [c]
    refine go ?_;intros
    cases h35
    replace h : some _ = some _ := h
    cases h
    exact r_end
   replace h35 := itf h35 c
   try rw [c]
   refine go ?_;intros
   rw [hw29]
   exact k_ln2 _ (Nat.lt_succ_self _) ⟨_, _, h35, rfl, drop_next hd25, pin, pinh⟩
 rintro t o ⟨q20, rfl, pq1, pq2⟩
 refine pinnedQ pq1 pq2 ?_
 refine go ?_;intros
 cases h
 exact r_end
theorem d_bd9 {G : Gam} (H_bj9 : Has G c_bj9) (H_bg9 : Has G c_bg9) (a0 : Commit) (a1 : Commit) (r : Bool) (h : gf_bd9 a0 a1 = some r) : Does G if_bd9 ks_bd9 (c_bd9.args (a0, a1)) [] (c_bd9.ans (a0, a1) r) := by
 refine does_pn (L := [(0, .agg [.ro (List.map eInt a0.up), .ro (List.map (eFeat false) a0.sheet), .v (.string a0.note)]), (1, .agg [.ro (List.map eInt a1.up), .ro (List.map (eFeat false) a1.sheet), .v (.string a1.note)])]) (fun bs => pin) fun bs t o => ?_
 show vwp _ ib_bd9 _ _
 unfold ib_bd9
 refine w_ir ?_
 unfold gf_bd9 at h
 obtain ⟨x3, h4, h⟩ := bnd h
 refine go ?_;intros
 refine c_call (c := c_bj9) (a0.up, a1.up) H_bj9 h4 fun ch => ?_
 refine go ?_;intros
 refine w_cond rfl (fun c => ?_) (fun c => ?_)
 ·replace h := itt h c
  try rw [c]
  refine go ?_;intros
  cases h
  exact r_end
 replace h := itf h c
 try rw [c]
 obtain ⟨x5, h6, h⟩ := bnd h
 refine go ?_;intros
 refine c_call (c := c_bg9) (a0.sheet, a1.sheet) H_bg9 h6 fun ch => ?_
 refine go ?_;intros
 refine w_cond rfl (fun c => ?_) (fun c => ?_)
 ·replace h := itt h c
  try rw [c]
  refine go ?_;intros
  cases h
  exact r_end
 replace h := itf h c
 try rw [c]
 refine go ?_;intros
 refine w_cond rfl (fun c => ?_) (fun c => ?_)
 ·replace h := itt h c
  try rw [c]
  refine go ?_;intros
  cases h
  exact r_end
 replace h := itf h c
 try rw [c]
 refine go ?_;intros
 cases h
 exact r_end
theorem d_bh9 {G : Gam}  (a0 : Head) (a1 : Head) (r : Bool) (h : gf_bh9 a0 a1 = some r) : Does G if_bh9 ks_bh9 (c_bh9.args (a0, a1)) [] (c_bh9.ans (a0, a1) r) := by
 refine does_pn (L := [(0, .agg [.v (.string a0.name), .v (.int .i64 a0.at_)]), (1, .agg [.v (.string a1.name), .v (.int .i64 a1.at_)])]) (fun bs => pin) fun bs t o => ?_
 show vwp _ ib_bh9 _ _
 unfold ib_bh9
 refine w_ir ?_
 unfold gf_bh9 at h
 refine go ?_;intros
 refine w_cond rfl (fun c => ?_) (fun c => ?_)
 ·replace h := itt h c
  try rw [c]
  refine go ?_;intros
  cases h
  exact r_end
 replace h := itf h c
 try rw [c]
 refine go ?_;intros
 refine w_cond rfl (fun c => ?_) (fun c => ?_)
 ·replace h := itt h c
  try rw [c]
  refine go ?_;intros
  cases h
  exact r_end
 replace h := itf h c
 try rw [c]
 refine go ?_;intros
 cases h
 exact r_end
theorem d_be9 {G : Gam} (H_bd9 : Has G c_bd9) (a0 : (List Commit)) (a1 : (List Commit)) (r : Bool) (h : gf_be9 a0 a1 = some r) : Does G if_be9 ks_be9 (c_be9.args (a0, a1)) [] (c_be9.ans (a0, a1) r) := by
 refine does_pn (L := [(0, .ro (List.map (eCommit false) a0)), (1, .ro (List.map (eCommit false) a1))]) (fun bs => pin) fun bs t o => ?_
 show vwp _ ib_be9 _ _
 unfold ib_be9
 refine w_ir ?_
 unfold gf_be9 at h
 refine go ?_;intros
 refine w_cond rfl (fun c => ?_) (fun c => ?_)
 ·replace h := itt h (by first | exact c | (have c2 := c; simp only [List.length_map] at c2; exact c2))
  try rw [c]
  refine go ?_;intros
  cases h
  exact r_end
 replace h := itf h (by first | exact c | (have c2 := c; simp only [List.length_map] at c2; exact c2))
 try rw [c]
 obtain ⟨hf30, h⟩ := gd h
 obtain ⟨q20, h35, h⟩ := bnd h
 refine go ?_;intros
 refine w_last (fun t o => ∃ q20_, q20 = .inr q20_ ∧ Pin t (ovr [] t) ∧ PinH o (ovh [] o)) ?_ ?_
 ·refine w_loop2 (fun n t o => ∃ l24 k22  , gl_be9_1 a1 l24 k22  = some q20 ∧ n = l24.length ∧ (a0).drop k22 = l24 ∧ Pin t (ovr [(0, .ro (List.map (eCommit false) a0)), (1, .ro (List.map (eCommit false) a1)), (5, .v (.int .i64 (k22 : Int)))] t) ∧ PinH o (ovh [] o)) _ ⟨_, _, h35, rfl, rfl, pin, pinh⟩ ?_
  rintro n t o ⟨l24, k22, h35, rfl, hd25, pq1, pq2⟩
  refine pinned pq1 pq2 ?_
  cases l24 with
  | nil =>
   have hge27 := drop_ge hd25
   rw [gl_be9_1] at h35
   refine go ?_;intros
   rw [hge27]
   refine go ?_;intros
   cases h35
   exact k_cn ⟨_, rfl, pin, pinh⟩
  | cons x23 l24 =>
   have hlt26 := drop_lt hd25
   have hx28 := drop_ix hd25
   have hw29 := drop_wr hd25 hf30
   rw [gl_be9_1] at h35
   refine go ?_;intros
   rw [hlt26]
   refine go ?_;intros
   refine r_iro rfl rfl hx28 rfl ?_
   obtain ⟨x31, h32, h35⟩ := bnd h35
   refine go ?_;intros
   refine r_iro rfl rfl h32 rfl ?_
   obtain ⟨x33, h34, h35⟩ := bnd h35
   refine go ?_;intros
   refine c_call (c := c_bd9) (x23, x31) H_bd9 h34 fun ch => ?_
   refine go ?_;intros
   refine w_cond rfl (fun c => ?_) (fun c => ?_)
   ·replace h35 := itt h35 c
    try rw [c]
    refine go ?_;intros
    cases h35
    replace h : some _ = some _ := h
    cases h
    exact r_end
   replace h35 := itf h35 c
   try rw [c]
   refine go ?_;intros
   rw [hw29]
   exact k_ln2 _ (Nat.lt_succ_self _) ⟨_, _, h35, rfl, drop_next hd25, pin, pinh⟩
 rintro t o ⟨q20, rfl, pq1, pq2⟩
 refine pinnedQ pq1 pq2 ?_
 refine go ?_;intros
 cases h
 exact r_end
end Go.Proofs.AM
