/- Lemmas of the proof (KOF6), on an abstract machine. Conditions: none. -/
import Derived.Test.YtbildbphkmdemaaKOD
set_option linter.unusedVariables false
set_option linter.unusedSimpArgs false
set_option maxRecDepth 100000
set_option maxHeartbeats 4000000
namespace Go.Proofs.AM
attribute [local irreducible] vwp vstps vstpLs vstp vdo vret kseq kblk kloop kend kcut kloop2 frzV renV shutK pfzV trnV unrV
theorem d_ab9 {G : Gam}  (a0 : Str) (r : Bool) (h : gf_ab9 a0 = some r) : Does G if_ab9 ks_ab9 (c_ab9.args (a0)) [] (c_ab9.ans (a0) r) := by
 refine does_pn (L := [(0, .v (.string a0))]) (fun bs => pin) fun bs t o => ?_
 show vwp _ ib_ab9 _ _
 unfold ib_ab9
 refine w_ir ?_
 unfold gf_ab9 at h
 refine go ?_;intros
 cases h
 exact r_end
theorem d_bn9 {G : Gam}  (a0 : Int) (r : Int) (h : gf_bn9 a0 = some r) : Does G if_bn9 ks_bn9 (c_bn9.args (a0)) [] (c_bn9.ans (a0) r) := by
 refine does_pn (L := [(0, .v (.int .u32 a0))]) (fun bs => pin) fun bs t o => ?_
 show vwp _ ib_bn9 _ _
 unfold ib_bn9
 refine w_ir ?_
 unfold gf_bn9 at h
 obtain ⟨q1, h8, h⟩ := bnd h
 refine go ?_;intros
 refine w_cut (fun t o => Pin t (ovr [(0, .v (.int .u32 q1.1)), (2, .v (.int .i64 q1.2))] t) ∧ PinH o (ovh [] o)) ?_ ?_
 ·refine go ?_;intros
  refine w_cond rfl (fun c => ?_) (fun c => ?_)
  ·replace h8 := itt h8 c
   try rw [c]
   refine go ?_;intros
   cases h8
   exact k_cn ⟨pin, pinh⟩
  replace h8 := itf h8 c
  try rw [c]
  refine go ?_;intros
  cases h8
  exact k_cn ⟨pin, pinh⟩
 rintro t o ⟨pq1, pq2⟩
 refine pinned pq1 pq2 ?_
 refine go ?_;intros
 refine w_cond rfl (fun c => ?_) (fun c => ?_)
 ·replace h := itt h c
  try rw [c]
  obtain ⟨x4, h5, h⟩ := bnd h
  refine go ?_;intros
  refine r_sidx rfl rfl h5 ?_
  refine go ?_;intros
  cases h
  exact r_end
 replace h := itf h c
 try rw [c]
 obtain ⟨x6, h7, h⟩ := bnd h
 refine go ?_;intros
 refine r_sidx rfl rfl h7 ?_
 refine go ?_;intros
 cases h
 exact r_end
theorem d_bo9 {G : Gam}  (a0 : Int) (r : Int) (h : gf_bo9 a0 = some r) : Does G if_bo9 ks_bo9 (c_bo9.args (a0)) [] (c_bo9.ans (a0) r) := by
 refine does_pn (L := [(0, .v (.int .u64 a0))]) (fun bs => pin) fun bs t o => ?_
 show vwp _ ib_bo9 _ _
 unfold ib_bo9
 refine w_ir ?_
 unfold gf_bo9 at h
 obtain ⟨q1, h11, h⟩ := bnd h
 refine go ?_;intros
 refine w_cut (fun t o => Pin t (ovr [(0, .v (.int .u64 q1.1)), (2, .v (.int .i64 q1.2))] t) ∧ PinH o (ovh [] o)) ?_ ?_
 ·refine go ?_;intros
  refine w_cond rfl (fun c => ?_) (fun c => ?_)
  ·replace h11 := itt h11 c
   try rw [c]
   refine go ?_;intros
   cases h11
   exact k_cn ⟨pin, pinh⟩
  replace h11 := itf h11 c
  try rw [c]
  refine go ?_;intros
  cases h11
  exact k_cn ⟨pin, pinh⟩
 rintro t o ⟨pq1, pq2⟩
 refine pinned pq1 pq2 ?_
 obtain ⟨q4, h12, h⟩ := bnd h
 refine go ?_;intros
 refine w_cut (fun t o => Pin t (ovr [(0, .v (.int .u64 q4.1)), (2, .v (.int .i64 q4.2))] t) ∧ PinH o (ovh [] o)) ?_ ?_
 ·refine go ?_;intros
  refine w_cond rfl (fun c => ?_) (fun c => ?_)
  ·replace h12 := itt h12 c
   try rw [c]
   refine go ?_;intros
   cases h12
   exact k_cn ⟨pin, pinh⟩
  replace h12 := itf h12 c
  try rw [c]
  refine go ?_;intros
  cases h12
  exact k_cn ⟨pin, pinh⟩
 rintro t o ⟨pq1, pq2⟩
 refine pinned pq1 pq2 ?_
 refine go ?_;intros
 refine w_cond rfl (fun c => ?_) (fun c => ?_)
 ·replace h := itt h c
  try rw [c]
  obtain ⟨x7, h8, h⟩ := bnd h
  refine go ?_;intros
  refine r_sidx rfl rfl h8 ?_
  refine go ?_;intros
  cases h
  exact r_end
 replace h := itf h c
 try rw [c]
 obtain ⟨x9, h10, h⟩ := bnd h
 refine go ?_;intros
 refine r_sidx rfl rfl h10 ?_
 refine go ?_;intros
 cases h
 exact r_end
theorem d_bm9 {G : Gam} (H_bo9 : Has G c_bo9) (a0 : Int) (r : Int) (h : gf_bm9 a0 = some r) : Does G if_bm9 ks_bm9 (c_bm9.args (a0)) [] (c_bm9.ans (a0) r) := by
 refine does_pn (L := [(0, .v (.int .u64 a0))]) (fun bs => pin) fun bs t o => ?_
 show vwp _ ib_bm9 _ _
 unfold ib_bm9
 refine w_ir ?_
 unfold gf_bm9 at h
 obtain ⟨x1, h2, h⟩ := bnd h
 refine go ?_;intros
 refine c_call (c := c_bo9) (a0) H_bo9 h2 fun ch => ?_
 refine go ?_;intros
 cases h
 exact r_end
theorem d_bg9 {G : Gam}  (a0 : Feat) (a1 : Str) (r : Bool) (h : gf_bg9 a0 a1 = some r) : Does G if_bg9 ks_bg9 (c_bg9.args (a0, a1)) [] (c_bg9.ans (a0, a1) r) := by
 refine does_pn (L := [(0, .agg [.v (.string a0.id), .v (.int .i64 a0.shape.kind), .ro (List.map ePt a0.shape.pts), .ro (List.map eTag a0.tags)]), (1, .rptr [.v (.string a1)])]) (fun bs => pin) fun bs t o => ?_
 show vwp _ ib_bg9 _ _
 unfold ib_bg9
 refine w_ir ?_
 unfold gf_bg9 at h
 refine go ?_;intros
 cases h
 exact r_end
theorem d_cd9 {G : Gam} (H_bg9 : Has G c_bg9) (a0 : (List Feat)) (a1 : Str) (r : Int) (h : gf_cd9 a0 a1 = some r) : Does G if_cc9 ks_cc9 (c_cd9.args (a0, a1)) [] (c_cd9.ans (a0, a1) r) := by
 refine does_pn (L := [(0, .ro (List.map (eFeat false) a0)), (1, .fn 123 [.rptr [.v (.string a1)]])]) (fun bs => pin) fun bs t o => ?_
 show vwp _ ib_cc9 _ _
 unfold ib_cc9
 refine w_ir ?_
 unfold gf_cd9 at h
 obtain ⟨hf24, h⟩ := gd h
 obtain ⟨q14, h27, h⟩ := bnd h
 refine go ?_;intros
 refine w_last (fun t o => ∃ q14_, q14 = .inr q14_ ∧ Pin t (ovr [] t) ∧ PinH o (ovh [] o)) ?_ ?_
 ·refine w_loop2 (fun n t o => ∃ l18 k16  , gl_cd9_1 a1 l18 k16  = some q14 ∧ n = l18.length ∧ (a0).drop k16 = l18 ∧ Pin t (ovr [(0, .ro (List.map (eFeat false) a0)), (1, .fn 123 [.rptr [.v (.string a1)]]), (7, .v (.int .i64 (a0.length : Int))), (8, .v (.int .i64 (k16 : Int)))] t) ∧ PinH o (ovh [] o)) _ ⟨_, _, h27, rfl, rfl, pin, pinh⟩ ?_
  rintro n t o ⟨l18, k16, h27, rfl, hd19, pq1, pq2⟩
  refine pinned pq1 pq2 ?_
  cases l18 with
  | nil =>
   have hge21 := drop_ge hd19
   rw [gl_cd9_1] at h27
   refine go ?_;intros
   rw [hge21]
   refine go ?_;intros
   cases h27
   exact k_cn ⟨_, rfl, pin, pinh⟩
  | cons x17 l18 =>
   have hlt20 := drop_lt hd19
   have hx22 := drop_ix hd19
   have hw23 := drop_wr hd19 hf24
   rw [gl_cd9_1] at h27
   refine go ?_;intros
   rw [hlt20]
   refine go ?_;intros
   refine r_iro rfl rfl hx22 rfl ?_
   obtain ⟨x25, h26, h27⟩ := bnd h27
   refine go ?_;intros
   refine c_calld (c := c_bg9) (x17, a1) H_bg9 h26 fun ch => ?_
   refine go ?_;intros
   refine w_cond rfl (fun c => ?_) (fun c => ?_)
   ·replace h27 := itt h27 c
    try rw [c]
    refine go ?_;intros
    cases h27
    replace h : some _ = some _ := h
    cases h
    exact r_end
   replace h27 := itf h27 c
   try rw [c]
   refine go ?_;intros
   rw [hw23]
   exact k_ln2 _ (Nat.lt_succ_self _) ⟨_, _, h27, rfl, drop_next hd19, pin, pinh⟩
 rintro t o ⟨q14, rfl, pq1, pq2⟩
 refine pinnedQ pq1 pq2 ?_
 refine go ?_;intros
 cases h
 exact r_end
theorem d_bf9 {G : Gam} (H_cd9 : Has G c_cd9) (a0 : (List Feat)) (a1 : Str) (r : Int) (h : gf_bf9 a0 a1 = some r) : Does G if_bf9 ks_bf9 (c_bf9.args (a0, a1)) [] (c_bf9.ans (a0, a1) r) := by
 refine does_pn (L := [(0, .ro (List.map (eFeat false) a0)), (1, .v (.string a1))]) (fun bs => pin) fun bs t o => ?_
 show vwp _ ib_bf9 _ _
 unfold ib_bf9
 refine w_ir ?_
 unfold gf_bf9 at h
 obtain ⟨x2, h3, h⟩ := bnd h
 refine go ?_;intros
 refine c_call (c := c_cd9) (a0, a1) H_cd9 h3 fun ch => ?_
 refine go ?_;intros
 cases h
 exact r_end
theorem d_bc9 {G : Gam} (H_ba9 : Has G c_ba9) (a0 : Repo) (r : Repo) (h : gf_bc9 a0 = some r) : Does G if_bc9 ks_bc9 (c_bc9.args (a0)) [] (c_bc9.ans (a0) r) := by
 refine does_pn (L := [(0, .agg [.ro (List.map (eCommit false) a0.commits), .ro (List.map eHead a0.heads)])]) (fun bs => pin) fun bs t o => ?_
 show vwp _ ib_bc9 _ _
 unfold ib_bc9
 refine w_ir ?_
 unfold gf_bc9 at h
 obtain ⟨h7, h⟩ := gd h
 refine go ?_;intros
 refine r_app (f := eHead) (xs := ([] : (List Head))) (ys := a0.heads) rfl (src_ro (fun _ => rfl) (fun _ => rfl)) rfl rfl (by first | rfl | simp) h7 fun b5 c6 => ?_
 obtain ⟨hf91, h⟩ := gd h
 obtain ⟨q70, h114, h⟩ := bnd h
 refine go ?_;intros
 refine w_last (fun t o => ∃ b103 c104 b105 c106 b107 b109 c110 b111 c112 b113, Pin t (ovr [(2, .ptr 16 b107 210 0 0), (3, .ptr 24 b113 210 0 0)] t) ∧ PinH o (ovh [(1000256, ent b103 c104 115 (List.map (eCommit true) [])), (1000257, ent b105 c106 130 (List.map eHead [])), (16, ⟨b107, 1, 210, true, [[.al 1000256 b103 c104 0 ([] : List Commit).length 115, .al 1000257 b105 c106 0 ([] : List Head).length 130]]⟩), (1000384, ent b109 c110 115 (List.map (eCommit true) q70)), (1000385, ent b111 c112 130 (List.map eHead ([] ++ a0.heads))), (24, ⟨b113, 1, 210, true, [[.al 1000384 b109 c110 0 q70.length 115, .al 1000385 b111 c112 0 ([] ++ a0.heads).length 130]]⟩)] o)) ?_ ?_
 ·refine w_loop2 (fun n t o => ∃ l85 k83 v77 b72 c73 b74 c75 b76 b78 c79 b80 c81 b82, gl_bc9_1 l85 k83 v77 = some q70 ∧ n = l85.length ∧ (a0.commits).drop k83 = l85 ∧ Pin t (ovr [(2, .ptr 16 b76 210 0 0), (3, .ptr 24 b82 210 0 0), (13, .ro (List.map (eCommit false) a0.commits)), (14, .v (.int .i64 (a0.commits.length : Int))), (15, .v (.int .i64 (k83 : Int)))] t) ∧ PinH o (ovh [(1000256, ent b72 c73 115 (List.map (eCommit true) [])), (1000257, ent b74 c75 130 (List.map eHead [])), (16, ⟨b76, 1, 210, true, [[.al 1000256 b72 c73 0 ([] : List Commit).length 115, .al 1000257 b74 c75 0 ([] : List Head).length 130]]⟩), (1000384, ent b78 c79 115 (List.map (eCommit true) v77)), (1000385, ent b80 c81 130 (List.map eHead ([] ++ a0.heads))), (24, ⟨b82, 1, 210, true, [[.al 1000384 b78 c79 0 v77.length 115, .al 1000385 b80 c81 0 ([] ++ a0.heads).length 130]]⟩)] o)) _ ⟨_, _, _, _, _, _, _, _, _, _, _, _, _, h114, rfl, rfl, pin, pinh⟩ ?_
  rintro n t o ⟨l85, k83, v77, b72, c73, b74, c75, b76, b78, c79, b80, c81, b82, h114, rfl, hd86, pq1, pq2⟩
  refine pinned pq1 pq2 ?_
  cases l85 with
  | nil =>
   have hge88 := drop_ge hd86
   rw [gl_bc9_1] at h114
   refine go ?_;intros
   rw [hge88]
   refine go ?_;intros
   cases h114
   exact k_cn ⟨_, _, _, _, _, _, _, _, _, _, pin, pinh⟩
  | cons x84 l85 =>
   have hlt87 := drop_lt hd86
   have hx89 := drop_ix hd86
   have hw90 := drop_wr hd86 hf91
   rw [gl_bc9_1] at h114
   refine go ?_;intros
   rw [hlt87]
   refine go ?_;intros
   refine r_iro rfl rfl hx89 rfl ?_
   obtain ⟨x93, h94, h114⟩ := bnd h114
   refine go ?_;intros
   refine c_call (c := c_ba9) (x84) H_ba9 h94 fun ch => ?_
   refine go ?_;intros
   try simp only [take_map_len, take_ent]
   obtain ⟨h102, h114⟩ := gd h114
   refine go ?_;intros
   refine r_app (f := (eCommit true)) (xs := v77) (ys := ([x93] : (List Commit))) rfl (src_mv rfl rfl (by first | rfl | simp)) rfl rfl (by first | rfl | simp) h102 fun b100 c101 => ?_
   refine go ?_;intros
   rw [hw90]
   exact k_ln2 _ (Nat.lt_succ_self _) ⟨_, _, _, _, _, _, _, _, _, _, _, _, _, h114, rfl, drop_next hd86, pin, pinh⟩
 rintro t o ⟨b103, c104, b105, c106, b107, b109, c110, b111, c112, b113, pq1, pq2⟩
 refine pinnedQ pq1 pq2 ?_
 refine go ?_;intros
 cases h
 exact r_end
theorem d_ar9 {G : Gam} (H_am9 : Has G c_am9) (H_ba9 : Has G c_ba9) (a0 : Repo) (a1 : Int) (a2 : Commit) (r : (Bool × Repo)) (h : gf_ar9 a0 a1 a2 = some r) : Does G if_ar9 ks_ar9 (c_ar9.args (a0, a1, a2)) (c_ar9.ins (a0, a1, a2)) (c_ar9.ans (a0, a1, a2) r) := by
 refine does_pg (L := fun bs => [(0, .ptr 0 (bs 0).1 210 0 0), (1, .v (.int .i64 a1)), (2, .agg [.ro (List.map eInt a2.up), .ro (List.map (eFeat false) a2.sheet), .v (.string a2.note)])]) (H := fun bs => [(0, ⟨(bs 0).1, (bs 0).2, 210, true, [[.sl true 115 (List.map (eCommit true) a0.commits), .sl true 130 (List.map eHead a0.heads)]]⟩)]) (fun bs => pin) (fun bs => pinh) fun bs t o => ?_
 show vwp _ ib_ar9 _ _
 unfold ib_ar9
 refine w_ir ?_
 unfold gf_ar9 at h
 refine go ?_;intros
 simp only [List.length_map]
 obtain ⟨x6, h7, h⟩ := bnd h
 refine go ?_;intros
 refine c_call (c := c_am9) (a0, a2) H_am9 h7 fun ch => ?_
 refine go ?_;intros
 refine w_cond rfl (fun c => ?_) (fun c => ?_)
 ·replace h := itt h c
  try rw [c]
  refine go ?_;intros
  refine w_cond rfl (fun c => ?_) (fun c => ?_)
  ·replace h := itt h (by first | exact c | (have c2 := c; simp only [List.length_map] at c2; exact c2))
   try rw [c]
   refine go ?_;intros
   cases h
   exact r_endg
  replace h := itf h (by first | exact c | (have c2 := c; simp only [List.length_map] at c2; exact c2))
  try rw [c]
  obtain ⟨x8, h9, h⟩ := bnd h
  refine go ?_;intros
  refine c_call (c := c_ba9) (a2) H_ba9 h9 fun ch => ?_
  refine go ?_;intros
  try simp only [take_map_len, take_ent]
  obtain ⟨h17, h⟩ := gd h
  refine go ?_;intros
  refine r_app (f := (eCommit true)) (xs := a0.commits) (ys := ([x8] : (List Commit))) rfl (src_mv rfl rfl (by first | rfl | simp)) rfl rfl (by first | rfl | simp) h17 fun b15 c16 => ?_
  obtain ⟨x18, h19, h⟩ := bnd h
  refine go ?_;intros
  refine r_ire (xs := a0.heads) rfl rfl h19 rfl ?_
  refine go ?_;intros
  refine c_ste (f := eHead) a0.heads (⟨x18.name, (a0.commits.length : Int)⟩ : Head) (idx_get h19).2 ?_
  refine go ?_;intros
  cases h
  exact r_endg
 replace h := itf h c
 try rw [c]
 obtain ⟨x20, h21, h⟩ := bnd h
 refine go ?_;intros
 refine r_ire (xs := a0.heads) rfl rfl h21 rfl ?_
 refine go ?_;intros
 refine c_ste (f := eHead) a0.heads (⟨x20.name, x6⟩ : Head) (idx_get h21).2 ?_
 refine go ?_;intros
 cases h
 exact r_endg
theorem d_ct9 {G : Gam}  (a0 : (List UInt8)) (g0 : Option Addr) (g1 : Nat) (r : Rd) (h : gf_ct9 a0 = some r) : Does G if_ct9 ks_ct9 (c_ct9.args (a0, g0, g1)) [] (c_ct9.ans (a0, g0, g1) r) := by
 refine does_pn (L := [(0, .raw g0 g1 (List.map eU8 a0))]) (fun bs => pin) fun bs t o => ?_
 show vwp _ ib_ct9 _ _
 unfold ib_ct9
 refine w_ir ?_
 unfold gf_ct9 at h
 refine go ?_;intros
 refine w_cond rfl (fun c => ?_) (fun c => ?_)
 ·replace h := itt h (by first | exact c | (have c2 := c; simp only [List.length_map] at c2; exact c2))
  try rw [c]
  obtain ⟨x1, h2, h⟩ := bnd h
  refine go ?_;intros
  refine r_slsraw (f := eU8) rfl rfl rfl h2 ?_
  refine go ?_;intros
  cases h
  exact r_end
 replace h := itf h (by first | exact c | (have c2 := c; simp only [List.length_map] at c2; exact c2))
 try rw [c]
 refine go ?_;intros
 cases h
 exact r_end
theorem d_cw9 {G : Gam}  (a0 : Rd) (a1 : Int) (g0 : Option Addr) (g1 : Nat) (r : (Int × Int)) (h : gf_cw9 a0 a1 = some r) : Does G if_cw9 ks_cw9 (c_cw9.args (a0, a1, g0, g1)) (c_cw9.ins (a0, a1, g0, g1)) (c_cw9.ans (a0, a1, g0, g1) r) := by
 refine does_pg (L := fun bs => [(0, .ptr 0 (bs 0).1 290 0 0), (1, .v (.int .i64 a1))]) (H := fun bs => [(0, ⟨(bs 0).1, (bs 0).2, 290, true, [[.rw g0 g1 (List.map eU8 a0.b), .v (.int .i64 a0.p)]]⟩)]) (fun bs => pin) (fun bs => pinh) fun bs t o => ?_
 show vwp _ ib_cw9 _ _
 unfold ib_cw9
 refine w_ir ?_
 unfold gf_cw9 at h
 refine go ?_;intros
 refine s_split rfl (fun c => ?_) (fun c => ?_)
 ·replace h := itt h c
  rw [c]
  refine go ?_;intros
  cases h
  exact r_endg
 replace h := itf h c
 rw [c]
 refine go ?_;intros
 refine w_cond rfl (fun c => ?_) (fun c => ?_)
 ·replace h := itt h (by first | exact c | (have c2 := c; simp only [List.length_map] at c2; exact c2))
  try rw [c]
  refine go ?_;intros
  cases h
  exact r_endg
 replace h := itf h (by first | exact c | (have c2 := c; simp only [List.length_map] at c2; exact c2))
 try rw [c]
 refine go ?_;intros
 refine w_cond rfl (fun c => ?_) (fun c => ?_)
 ·replace h := itt h (by first | exact c | (have c2 := c; simp only [List.length_map] at c2; exact c2))
  try rw [c]
  obtain ⟨x1, h2, h⟩ := bnd h
  refine go ?_;intros
  refine r_iro rfl rfl h2 rfl ?_
  obtain ⟨x3, h4, h⟩ := bnd h
  refine go ?_;intros
  refine r_imod rfl rfl h4 ?_
  refine go ?_;intros
  cases h
  exact r_endg
 replace h := itf h (by first | exact c | (have c2 := c; simp only [List.length_map] at c2; exact c2))
 try rw [c]
 obtain ⟨x5, h6, h⟩ := bnd h
 refine go ?_;intros
 refine r_imod rfl rfl h6 ?_
 obtain ⟨x7, h8, h⟩ := bnd h
 refine go ?_;intros
 refine r_iro rfl rfl h8 rfl ?_
 obtain ⟨x9, h10, h⟩ := bnd h
 refine go ?_;intros
 refine r_imod rfl rfl h10 ?_
 obtain ⟨x11, h12, h⟩ := bnd h
 refine go ?_;intros
 refine r_iro rfl rfl h12 rfl ?_
 obtain ⟨x13, h14, h⟩ := bnd h
 refine go ?_;intros
 refine r_idiv rfl rfl h14 ?_
 refine go ?_;intros
 refine r_ixor rfl rfl ?_
 obtain ⟨x15, h16, h⟩ := bnd h
 refine go ?_;intros
 refine r_imod rfl rfl h16 ?_
 refine go ?_;intros
 cases h
 exact r_endg
theorem d_cv9 {G : Gam} (H_cw9 : Has G c_cw9) (a0 : Rd) (a1 : (List Str)) (g0 : Option Addr) (g1 : Nat) (r : (Str × Int)) (h : gf_cv9 a0 a1 = some r) : Does G if_cv9 ks_cv9 (c_cv9.args (a0, a1, g0, g1)) (c_cv9.ins (a0, a1, g0, g1)) (c_cv9.ans (a0, a1, g0, g1) r) := by
 refine does_pg (L := fun bs => [(0, .ptr 0 (bs 0).1 290 0 0), (1, .ro (List.map eStr a1))]) (H := fun bs => [(0, ⟨(bs 0).1, (bs 0).2, 290, true, [[.rw g0 g1 (List.map eU8 a0.b), .v (.int .i64 a0.p)]]⟩)]) (fun bs => pin) (fun bs => pinh) fun bs t o => ?_
 show vwp _ ib_cv9 _ _
 unfold ib_cv9
 refine w_ir ?_
 unfold gf_cv9 at h
 obtain ⟨x1, h2, h⟩ := bnd h
 refine go ?_;intros
 refine c_callg (c := c_cw9) (a0, (a1.length : Int), g0, g1) H_cw9 h2 fun ch => ?_
 obtain ⟨x3, h4, h⟩ := bnd h
 refine go ?_;intros
 refine r_iro rfl rfl h4 rfl ?_
 refine go ?_;intros
 cases h
 exact r_endg
theorem d_df9 {G : Gam} (H_cv9 : Has G c_cv9) (a0 : Rd) (g0 : Option Addr) (g1 : Nat) (r : (Str × Int)) (h : gf_df9 a0 = some r) : Does G if_df9 ks_df9 (c_df9.args (a0, g0, g1)) (c_df9.ins (a0, g0, g1)) (c_df9.ans (a0, g0, g1) r) := by
 refine does_pg (L := fun bs => [(0, .ptr 0 (bs 0).1 290 0 0)]) (H := fun bs => [(0, ⟨(bs 0).1, (bs 0).2, 290, true, [[.rw g0 g1 (List.map eU8 a0.b), .v (.int .i64 a0.p)]]⟩)]) (fun bs => pin) (fun bs => pinh) fun bs t o => ?_
 show vwp _ ib_df9 _ _
 unfold ib_df9
 refine w_ir ?_
 unfold gf_df9 at h
 obtain ⟨x2, h3, h⟩ := bnd h
 refine go ?_;intros
 refine c_callg (c := c_cv9) (a0, ([(⟨#[97]⟩ : Str), (⟨#[98]⟩ : Str), (⟨#[99]⟩ : Str), (⟨#[100]⟩ : Str), (⟨#[101]⟩ : Str)] : (List Str)), g0, g1) H_cv9 h3 fun ch => ?_
 refine go ?_;intros
 cases h
 exact r_endg
theorem d_dg9 {G : Gam} (H_cv9 : Has G c_cv9) (a0 : Rd) (g0 : Option Addr) (g1 : Nat) (r : (Str × Int)) (h : gf_dg9 a0 = some r) : Does G if_dg9 ks_dg9 (c_dg9.args (a0, g0, g1)) (c_dg9.ins (a0, g0, g1)) (c_dg9.ans (a0, g0, g1) r) := by
 refine does_pg (L := fun bs => [(0, .ptr 0 (bs 0).1 290 0 0)]) (H := fun bs => [(0, ⟨(bs 0).1, (bs 0).2, 290, true, [[.rw g0 g1 (List.map eU8 a0.b), .v (.int .i64 a0.p)]]⟩)]) (fun bs => pin) (fun bs => pinh) fun bs t o => ?_
 show vwp _ ib_dg9 _ _
 unfold ib_dg9
 refine w_ir ?_
 unfold gf_dg9 at h
 obtain ⟨x2, h3, h⟩ := bnd h
 refine go ?_;intros
 refine c_callg (c := c_cv9) (a0, ([(⟨#[110, 97, 109, 101]⟩ : Str), (⟨#[107, 105, 110, 100]⟩ : Str), (⟨#[117, 115, 101]⟩ : Str), (⟨#[116, 111, 110, 101]⟩ : Str)] : (List Str)), g0, g1) H_cv9 h3 fun ch => ?_
 refine go ?_;intros
 cases h
 exact r_endg
theorem d_di9 {G : Gam} (H_cv9 : Has G c_cv9) (a0 : Rd) (g0 : Option Addr) (g1 : Nat) (r : (Str × Int)) (h : gf_di9 a0 = some r) : Does G if_di9 ks_di9 (c_di9.args (a0, g0, g1)) (c_di9.ins (a0, g0, g1)) (c_di9.ans (a0, g0, g1) r) := by
 refine does_pg (L := fun bs => [(0, .ptr 0 (bs 0).1 290 0 0)]) (H := fun bs => [(0, ⟨(bs 0).1, (bs 0).2, 290, true, [[.rw g0 g1 (List.map eU8 a0.b), .v (.int .i64 a0.p)]]⟩)]) (fun bs => pin) (fun bs => pinh) fun bs t o => ?_
 show vwp _ ib_di9 _ _
 unfold ib_di9
 refine w_ir ?_
 unfold gf_di9 at h
 obtain ⟨x2, h3, h⟩ := bnd h
 refine go ?_;intros
 refine c_callg (c := c_cv9) (a0, ([(⟨#[97]⟩ : Str), (⟨#[98]⟩ : Str), (⟨#[111, 97, 107]⟩ : Str), (⟨#[97, 115, 104]⟩ : Str), (⟨#[114, 111, 97, 100]⟩ : Str)] : (List Str)), g0, g1) H_cv9 h3 fun ch => ?_
 refine go ?_;intros
 cases h
 exact r_endg
theorem d_cu9 {G : Gam} (H_cw9 : Has G c_cw9) (a0 : Rd) (a1 : (List Int)) (g0 : Option Addr) (g1 : Nat) (r : (Int × Int)) (h : gf_cu9 a0 a1 = some r) : Does G if_cu9 ks_cu9 (c_cu9.args (a0, a1, g0, g1)) (c_cu9.ins (a0, a1, g0, g1)) (c_cu9.ans (a0, a1, g0, g1) r) := by
 refine does_pg (L := fun bs => [(0, .ptr 0 (bs 0).1 290 0 0), (1, .ro (List.map eInt a1))]) (H := fun bs => [(0, ⟨(bs 0).1, (bs 0).2, 290, true, [[.rw g0 g1 (List.map eU8 a0.b), .v (.int .i64 a0.p)]]⟩)]) (fun bs => pin) (fun bs => pinh) fun bs t o => ?_
 show vwp _ ib_cu9 _ _
 unfold ib_cu9
 refine w_ir ?_
 unfold gf_cu9 at h
 obtain ⟨x1, h2, h⟩ := bnd h
 refine go ?_;intros
 refine c_callg (c := c_cw9) (a0, (a1.length : Int), g0, g1) H_cw9 h2 fun ch => ?_
 obtain ⟨x3, h4, h⟩ := bnd h
 refine go ?_;intros
 refine r_iro rfl rfl h4 rfl ?_
 refine go ?_;intros
 cases h
 exact r_endg
theorem d_da9 {G : Gam} (H_cw9 : Has G c_cw9) (H_cu9 : Has G c_cu9) (a0 : Rd) (g0 : Option Addr) (g1 : Nat) (r : (Pt × Int)) (h : gf_da9 a0 = some r) : Does G if_da9 ks_da9 (c_da9.args (a0, g0, g1)) (c_da9.ins (a0, g0, g1)) (c_da9.ans (a0, g0, g1) r) := by
 refine does_pg (L := fun bs => [(0, .ptr 0 (bs 0).1 290 0 0)]) (H := fun bs => [(0, ⟨(bs 0).1, (bs 0).2, 290, true, [[.rw g0 g1 (List.map eU8 a0.b), .v (.int .i64 a0.p)]]⟩)]) (fun bs => pin) (fun bs => pinh) fun bs t o => ?_
 show vwp _ ib_da9 _ _
 unfold ib_da9
 refine w_ir ?_
 unfold gf_da9 at h
 obtain ⟨x2, h3, h⟩ := bnd h
 refine go ?_;intros
 refine c_callg (c := c_cw9) (a0, 4, g0, g1) H_cw9 h3 fun ch => ?_
 obtain ⟨x5, h6, h⟩ := bnd h
 refine go ?_;intros
 refine c_callg (c := c_cu9) ((⟨a0.b, x2.2⟩ : Rd), ([0, 1, 2, 5] : (List Int)), g0, g1) H_cu9 h6 fun ch => ?_
 refine go ?_;intros
 cases h
 exact r_endg
theorem d_cy9 {G : Gam}  (a0 : Int) (a1 : Int) (r : Int) (h : gf_cy9 a0 a1 = some r) : Does G if_cy9 ks_cy9 (c_cy9.args (a0, a1)) [] (c_cy9.ans (a0, a1) r) := by
 refine does_pn (L := [(0, .v (.int .i64 a0)), (1, .v (.int .i64 a1))]) (fun bs => pin) fun bs t o => ?_
 show vwp _ ib_cy9 _ _
 unfold ib_cy9
 refine w_ir ?_
 unfold gf_cy9 at h
 refine go ?_;intros
 refine w_cond rfl (fun c => ?_) (fun c => ?_)
 ·replace h := itt h c
  try rw [c]
  refine go ?_;intros
  cases h
  exact r_end
 replace h := itf h c
 try rw [c]
 refine go ?_;intros
 cases h
 exact r_end
theorem d_dc9 {G : Gam} (H_cu9 : Has G c_cu9) (H_cw9 : Has G c_cw9) (H_cy9 : Has G c_cy9) (H_da9 : Has G c_da9) (H_cr9 : Has G c_cr9) (a0 : Rd) (g0 : Option Addr) (g1 : Nat) (r : (Shape × Int)) (h : gf_dc9 a0 = some r) : Does G if_dc9 ks_dc9 (c_dc9.args (a0, g0, g1)) (c_dc9.ins (a0, g0, g1)) (c_dc9.ans (a0, g0, g1) r) := by
 refine does_pg (L := fun bs => [(0, .ptr 0 (bs 0).1 290 0 0)]) (H := fun bs => [(0, ⟨(bs 0).1, (bs 0).2, 290, true, [[.rw g0 g1 (List.map eU8 a0.b), .v (.int .i64 a0.p)]]⟩)]) (fun bs => pin) (fun bs => pinh) fun bs t o => ?_
 show vwp _ ib_dc9 _ _
 unfold ib_dc9
 refine w_ir ?_
 unfold gf_dc9 at h
 obtain ⟨x3, h4, h⟩ := bnd h
 refine go ?_;intros
 refine c_callg (c := c_cu9) (a0, ([1, 2, 2, 3, 3] : (List Int)), g0, g1) H_cu9 h4 fun ch => ?_
 obtain ⟨x6, h7, h⟩ := bnd h
 refine go ?_;intros
 refine c_callg (c := c_cw9) ((⟨a0.b, x3.2⟩ : Rd), 4, g0, g1) H_cw9 h7 fun ch => ?_
 obtain ⟨q8, h159, h⟩ := bnd h
 refine go ?_;intros
 refine w_cut (fun t o => ∃ b10 c11 b12 b13 c14 b15, Pin t (ovr [(0, .ptr 0 (bs 0).1 290 0 0), (2, .ptr 16 b12 226 0 0), (3, .ptr 24 b15 226 0 0), (4, .v (.int .i64 q8))] t) ∧ PinH o (ovh [(0, ⟨(bs 0).1, (bs 0).2, 290, true, [[.rw g0 g1 (List.map eU8 a0.b), .v (.int .i64 x6.2)]]⟩), (1000257, ent b10 c11 66 (List.map ePt [])), (16, ⟨b12, 1, 226, true, [[.v (.int .i64 0), .al 1000257 b10 c11 0 ([] : List Pt).length 66]]⟩), (1000385, ent b13 c14 66 (List.map ePt [])), (24, ⟨b15, 1, 226, true, [[.v (.int .i64 x3.1), .al 1000385 b13 c14 0 ([] : List Pt).length 66]]⟩)] o)) ?_ ?_
 ·refine go ?_;intros
  refine w_cond rfl (fun c => ?_) (fun c => ?_)
  ·replace h159 := itt h159 c
   try rw [c]
   refine go ?_;intros
   cases h159
   exact k_cn ⟨_, _, _, _, _, _, pin, pinh⟩
  replace h159 := itf h159 c
  try rw [c]
  refine go ?_;intros
  cases h159
  exact k_cn ⟨_, _, _, _, _, _, pin, pinh⟩
 rintro t o ⟨b10, c11, b12, b13, c14, b15, pq1, pq2⟩
 refine pinned pq1 pq2 ?_
 obtain ⟨q109, h160, h⟩ := bnd h
 refine go ?_;intros
 refine w_last (fun t o => ∃ b147 c148 b149 b151 c152 b153, Pin t (ovr [(0, .ptr 0 (bs 0).1 290 0 0), (2, .ptr 16 b149 226 0 0), (3, .ptr 24 b153 226 0 0)] t) ∧ PinH o (ovh [(0, ⟨(bs 0).1, (bs 0).2, 290, true, [[.rw g0 g1 (List.map eU8 a0.b), .v (.int .i64 q109.1)]]⟩), (1000257, ent b147 c148 66 (List.map ePt [])), (16, ⟨b149, 1, 226, true, [[.v (.int .i64 0), .al 1000257 b147 c148 0 ([] : List Pt).length 66]]⟩), (1000385, ent b151 c152 66 (List.map ePt q109.2)), (24, ⟨b153, 1, 226, true, [[.v (.int .i64 x3.1), .al 1000385 b151 c152 0 q109.2.length 66]]⟩)] o)) ?_ ?_
 ·refine w_loop2 (fun n t o => ∃ n119 v110 v111 v115 b112 c113 b114 b116 c117 b118, gl_dc9_1 q8 a0 x3 n119 v110 v111 v115 = some q109 ∧ n119 = n ∧ Pin t (ovr [(0, .ptr 0 (bs 0).1 290 0 0), (2, .ptr 16 b114 226 0 0), (3, .ptr 24 b118 226 0 0), (4, .v (.int .i64 q8)), (5, .v (.int .i64 v110))] t) ∧ PinH o (ovh [(0, ⟨(bs 0).1, (bs 0).2, 290, true, [[.rw g0 g1 (List.map eU8 a0.b), .v (.int .i64 v111)]]⟩), (1000257, ent b112 c113 66 (List.map ePt [])), (16, ⟨b114, 1, 226, true, [[.v (.int .i64 0), .al 1000257 b112 c113 0 ([] : List Pt).length 66]]⟩), (1000385, ent b116 c117 66 (List.map ePt v115)), (24, ⟨b118, 1, 226, true, [[.v (.int .i64 x3.1), .al 1000385 b116 c117 0 v115.length 66]]⟩)] o)) _ ⟨_, _, _, _, _, _, _, _, _, _, h160, rfl, pin, pinh⟩ ?_
  rintro n t o ⟨n119, v110, v111, v115, b112, c113, b114, b116, c117, b118, h160, rfl, pq1, pq2⟩
  refine pinned pq1 pq2 ?_
  cases n119 with
  | zero => rw [gl_dc9_1] at h160; cases h160
  | succ n119 =>
   rw [gl_dc9_1] at h160
   refine go ?_;intros
   refine s_split rfl (fun c => ?_) (fun c => ?_)
   ·replace h160 := itt h160 c
    rw [c]
    obtain ⟨x120, h121, h160⟩ := bnd h160
    refine go ?_;intros
    refine c_call (c := c_cy9) (q8, 6) H_cy9 h121 fun ch => ?_
    refine go ?_;intros
    refine w_cond rfl (fun c => ?_) (fun c => ?_)
    ·replace h160 := itt h160 (by first | exact c | (have c2 := c; simp only [List.length_map] at c2; exact c2))
     try rw [c]
     obtain ⟨x122, h123, h160⟩ := bnd h160
     refine go ?_;intros
     refine c_callg (c := c_da9) ((⟨a0.b, v111⟩ : Rd), g0, g1) H_da9 h123 fun ch => ?_
     obtain ⟨q129, h161, h160⟩ := bnd h160
     refine go ?_;intros
     refine w_cut (fun t o => ∃ b135 c136 b137 b138 c139 b140 b141, Pin t (ovr [(0, .ptr 0 (bs 0).1 290 0 0), (2, .ptr 16 b137 226 0 0), (3, .ptr 24 b140 226 0 0), (4, .v (.int .i64 q8)), (5, .v (.int .i64 v110)), (6, .ptr 48 b141 66 0 0), (23, .ptr 24 b140 226 0 1), (24, .ref 1000385 b138 c139 0 v115.length 66), (25, .v (.int .i64 (v115.length : Int))), (26, .v (.int .i64 q8)), (27, .v (.int .i64 x120)), (28, .v (.bool true)), (61, .v (.bool q129))] t) ∧ PinH o (ovh [(0, ⟨(bs 0).1, (bs 0).2, 290, true, [[.rw g0 g1 (List.map eU8 a0.b), .v (.int .i64 x122.2)]]⟩), (1000257, ent b135 c136 66 (List.map ePt [])), (16, ⟨b137, 1, 226, true, [[.v (.int .i64 0), .al 1000257 b135 c136 0 ([] : List Pt).length 66]]⟩), (1000385, ent b138 c139 66 (List.map ePt v115)), (24, ⟨b140, 1, 226, true, [[.v (.int .i64 x3.1), .al 1000385 b138 c139 0 v115.length 66]]⟩), (48, ⟨b141, 1, 66, true, [[.v (.int .i64 x122.1.x), .v (.int .i64 x122.1.y)]]⟩)] o)) ?_ ?_
     ·refine go ?_;intros
      refine s_split rfl (fun c => ?_) (fun c => ?_)
      ·replace h161 := itt h161 (by first | exact c | (have c2 := c; simp only [List.length_map] at c2; exact c2))
       rw [c]
       refine go ?_;intros
       cases h161
       exact k_cn ⟨_, _, _, _, _, _, _, pin, pinh⟩
      replace h161 := itf h161 (by first | exact c | (have c2 := c; simp only [List.length_map] at c2; exact c2))
      rw [c]
      obtain ⟨x130, h131, h161⟩ := bnd h161
      refine go ?_;intros
      refine r_ire (xs := v115) rfl rfl h131 rfl ?_
      refine go ?_;intros
      refine r_lde (f := ePt) (xs := v115) (x := x130) rfl rfl (idx_get h131).2 rfl rfl rfl ?_
      refine go ?_;intros
      refine s_split rfl (fun c => ?_) (fun c => ?_)
      ·replace h161 := itt h161 c
       rw [c]
       refine go ?_;intros
       refine s_split rfl (fun c => ?_) (fun c => ?_)
       ·replace h161 := itt h161 c
        rw [c]
        refine go ?_;intros
        cases h161
        exact k_cn ⟨_, _, _, _, _, _, _, pin, pinh⟩
       replace h161 := itf h161 c
       rw [c]
       obtain ⟨x132, h133, h161⟩ := bnd h161
       refine go ?_;intros
       refine r_ire (xs := v115) rfl rfl h133 rfl ?_
       refine go ?_;intros
       refine r_lde (f := ePt) (xs := v115) (x := x132) rfl rfl (idx_get h133).2 rfl rfl rfl ?_
       refine go ?_;intros
       cases h161
       exact k_cn ⟨_, _, _, _, _, _, _, pin, pinh⟩
      replace h161 := itf h161 c
      rw [c]
      refine go ?_;intros
      cases h161
      exact k_cn ⟨_, _, _, _, _, _, _, pin, pinh⟩
     rintro t o ⟨b135, c136, b137, b138, c139, b140, b141, pq1, pq2⟩
     refine pinned pq1 pq2 ?_
     refine go ?_;intros
     refine w_cond rfl (fun c => ?_) (fun c => ?_)
     ·replace h160 := itt h160 c
      try rw [c]
      obtain ⟨h145, h160⟩ := gd h160
      refine go ?_;intros
      refine r_app (f := ePt) (xs := v115) (ys := ([x122.1] : (List Pt))) rfl (src_mv rfl rfl (by first | rfl | simp)) rfl rfl (by first | rfl | simp) h145 fun b143 c144 => ?_
      refine go ?_;intros
      exact k_ln2 _ (Nat.lt_succ_self _) ⟨_, _, _, _, _, _, _, _, _, _, h160, rfl, pin, pinh⟩
     replace h160 := itf h160 c
     try rw [c]
     refine go ?_;intros
     exact k_ln2 _ (Nat.lt_succ_self _) ⟨_, _, _, _, _, _, _, _, _, _, h160, rfl, pin, pinh⟩
    replace h160 := itf h160 (by first | exact c | (have c2 := c; simp only [List.length_map] at c2; exact c2))
    try rw [c]
    refine go ?_;intros
    cases h160
    exact k_cn ⟨_, _, _, _, _, _, pin, pinh⟩
   replace h160 := itf h160 c
   rw [c]
   refine go ?_;intros
   cases h160
   exact k_cn ⟨_, _, _, _, _, _, pin, pinh⟩
 rintro t o ⟨b147, c148, b149, b151, c152, b153, pq1, pq2⟩
 refine pinnedQ pq1 pq2 ?_
 obtain ⟨x154, h155, h⟩ := bnd h
 refine go ?_;intros
 refine c_call (c := c_cr9) ((⟨x3.1, q109.2⟩ : Shape)) H_cr9 h155 fun ch => ?_
 refine go ?_;intros
 refine w_cond rfl (fun c => ?_) (fun c => ?_)
 ·replace h := itt h c
  try rw [c]
  obtain ⟨x156, h157, h⟩ := bnd h
  refine go ?_;intros
  refine c_callg (c := c_da9) ((⟨a0.b, q109.1⟩ : Rd), g0, g1) H_da9 h157 fun ch => ?_
  refine go ?_;intros
  cases h
  exact r_endg
 replace h := itf h c
 try rw [c]
 refine go ?_;intros
 cases h
 exact r_endg
end Go.Proofs.AM
