/- Lemmas of the proof (KLF4), on an abstract machine. Conditions: none. -/
import Derived.Test.YtknajiljcemblabGreatKLD
set_option linter.unusedVariables false
set_option linter.unusedSimpArgs false
set_option maxRecDepth 100000
set_option maxHeartbeats 4000000
namespace Go.Proofs.AM
attribute [local irreducible] vwp vstps vstpLs vstp vdo vret kseq kblk kloop kend kcut kloop2 frzV renV shutK pfzV trnV unrV
theorem d_em9 {G : Gam} (H_ej9 : Has G c_ej9) (a0 : (List Feat)) (r : (List Feat)) (h : gf_em9 a0 = some r) : Does G if_em9 ks_em9 (c_em9.args (a0)) [] (c_em9.ans (a0) r) := by
 refine does_pn (L := [(0, .ro (List.map (eFeat false) a0))]) (fun bs => pin) fun bs t o => ?_
 show vwp _ ib_em9 _ _
 unfold ib_em9
 refine w_ir ?_
 unfold gf_em9 at h
 obtain ⟨hf57, h⟩ := gd h
 obtain ⟨q44, h71, h⟩ := bnd h
 refine go ?_;intros
 refine w_last (fun t o => ∃ b69 c70, Pin t (ovr [(3, .ref 40 b69 c70 0 q44.length 100)] t) ∧ PinH o (ovh [(40, ent b69 c70 100 (List.map (eFeat true) q44))] o)) ?_ ?_
 ·refine w_loop2 (fun n t o => ∃ l51 k49 v46 b47 c48, gl_em9_1 l51 k49 v46 = some q44 ∧ n = l51.length ∧ (a0).drop k49 = l51 ∧ Pin t (ovr [(0, .ro (List.map (eFeat false) a0)), (3, .ref 40 b47 c48 0 v46.length 100), (4, .v (.int .i64 (k49 : Int)))] t) ∧ PinH o (ovh [(40, ent b47 c48 100 (List.map (eFeat true) v46))] o)) _ ⟨_, _, _, _, _, h71, rfl, rfl, pin, pinh⟩ ?_
  rintro n t o ⟨l51, k49, v46, b47, c48, h71, rfl, hd52, pq1, pq2⟩
  refine pinned pq1 pq2 ?_
  cases l51 with
  | nil =>
   have hge54 := drop_ge hd52
   rw [gl_em9_1] at h71
   refine go ?_;intros
   rw [hge54]
   refine go ?_;intros
   cases h71
   exact k_cn ⟨_, _, pin, pinh⟩
  | cons x50 l51 =>
   have hlt53 := drop_lt hd52
   have hx55 := drop_ix hd52
   have hw56 := drop_wr hd52 hf57
   rw [gl_em9_1] at h71
   refine go ?_;intros
   rw [hlt53]
   refine go ?_;intros
   refine r_iro rfl rfl hx55 rfl ?_
   obtain ⟨x58, h59, h71⟩ := bnd h71
   refine go ?_;intros
   refine c_call (c := c_ej9) (x50) H_ej9 h59 fun ch => ?_
   refine go ?_;intros
   try simp only [take_map_len, take_ent]
   obtain ⟨h67, h71⟩ := gd h71
   refine go ?_;intros
   refine r_app (f := (eFeat true)) (xs := v46) (ys := ([x58] : (List Feat))) rfl (src_mv rfl rfl (by first | rfl | simp)) rfl rfl (by first | rfl | simp) h67 fun b65 c66 => ?_
   refine go ?_;intros
   rw [hw56]
   exact k_ln2 _ (Nat.lt_succ_self _) ⟨_, _, _, _, _, h71, rfl, drop_next hd52, pin, pinh⟩
 rintro t o ⟨b69, c70, pq1, pq2⟩
 refine pinnedQ pq1 pq2 ?_
 refine go ?_;intros
 cases h
 exact r_end
theorem d_et9 {G : Gam} (H_em9 : Has G c_em9) (a0 : Commit) (r : Commit) (h : gf_et9 a0 = some r) : Does G if_et9 ks_et9 (c_et9.args (a0)) [] (c_et9.ans (a0) r) := by
 refine does_pn (L := [(0, .agg [.ro (List.map eInt a0.up), .ro (List.map (eFeat false) a0.sheet), .v (.string a0.note)])]) (fun bs => pin) fun bs t o => ?_
 show vwp _ ib_et9 _ _
 unfold ib_et9
 refine w_ir ?_
 unfold gf_et9 at h
 obtain ⟨h6, h⟩ := gd h
 refine go ?_;intros
 refine r_app (f := eInt) (xs := ([] : (List Int))) (ys := a0.up) rfl (src_ro (fun _ => rfl) (fun _ => rfl)) rfl rfl (by first | rfl | simp) h6 fun b4 c5 => ?_
 obtain ⟨x7, h8, h⟩ := bnd h
 refine go ?_;intros
 refine c_call (c := c_em9) (a0.sheet) H_em9 h8 fun ch => ?_
 refine go ?_;intros
 cases h
 exact r_end
theorem d_dv9 {G : Gam} (H_ev9 : Has G c_ev9) (H_dy9 : Has G c_dy9) (H_eb9 : Has G c_eb9) (H_eo9 : Has G c_eo9) (H_ep9 : Has G c_ep9) (a0 : Repo) (r : Bool) (h : gf_dv9 a0 = some r) : Does G if_dv9 ks_dv9 (c_dv9.args (a0)) [] (c_dv9.ans (a0) r) := by
 refine does_pn (L := [(0, .agg [.ro (List.map (eCommit false) a0.commits), .ro (List.map eHead a0.heads)])]) (fun bs => pin) fun bs t o => ?_
 show vwp _ ib_dv9 _ _
 unfold ib_dv9
 refine w_ir ?_
 unfold gf_dv9 at h
 refine go ?_;intros
 refine s_split rfl (fun c => ?_) (fun c => ?_)
 ·replace h := itt h (by first | exact c | (have c2 := c; simp only [List.length_map] at c2; exact c2))
  rw [c]
  refine go ?_;intros
  cases h
  exact r_end
 replace h := itf h (by first | exact c | (have c2 := c; simp only [List.length_map] at c2; exact c2))
 rw [c]
 refine go ?_;intros
 refine s_split rfl (fun c => ?_) (fun c => ?_)
 ·replace h := itt h (by first | exact c | (have c2 := c; simp only [List.length_map] at c2; exact c2))
  rw [c]
  refine go ?_;intros
  cases h
  exact r_end
 replace h := itf h (by first | exact c | (have c2 := c; simp only [List.length_map] at c2; exact c2))
 rw [c]
 refine go ?_;intros
 refine s_split rfl (fun c => ?_) (fun c => ?_)
 ·replace h := itt h (by first | exact c | (have c2 := c; simp only [List.length_map] at c2; exact c2))
  rw [c]
  refine go ?_;intros
  cases h
  exact r_end
 replace h := itf h (by first | exact c | (have c2 := c; simp only [List.length_map] at c2; exact c2))
 rw [c]
 refine go ?_;intros
 refine w_cond rfl (fun c => ?_) (fun c => ?_)
 ·replace h := itt h (by first | exact c | (have c2 := c; simp only [List.length_map] at c2; exact c2))
  try rw [c]
  refine go ?_;intros
  cases h
  exact r_end
 replace h := itf h (by first | exact c | (have c2 := c; simp only [List.length_map] at c2; exact c2))
 try rw [c]
 obtain ⟨hf49, h⟩ := gd h
 obtain ⟨q38, h101, h⟩ := bnd h
 refine go ?_;intros
 refine w_last (fun t o => ∃ q38_, q38 = .inr q38_ ∧ ∃ b59, Pin t (ovr [(1, .ptr 8 b59 210 0 0)] t) ∧ PinH o (ovh [(8, ⟨b59, 1, 210, true, [[.sl false 3 (List.map (eCommit false) a0.commits), .sl false 2 (List.map eHead a0.heads)]]⟩)] o)) ?_ ?_
 ·refine w_loop2 (fun n t o => ∃ l43 k41  b40, gl_dv9_1 a0 l43 k41  = some q38 ∧ n = l43.length ∧ (a0.commits).drop k41 = l43 ∧ Pin t (ovr [(1, .ptr 8 b40 210 0 0), (3, .v (.int .i64 (k41 : Int)))] t) ∧ PinH o (ovh [(8, ⟨b40, 1, 210, true, [[.sl false 3 (List.map (eCommit false) a0.commits), .sl false 2 (List.map eHead a0.heads)]]⟩)] o)) _ ⟨_, _, _, h101, rfl, rfl, pin, pinh⟩ ?_
  rintro n t o ⟨l43, k41, b40, h101, rfl, hd44, pq1, pq2⟩
  refine pinned pq1 pq2 ?_
  cases l43 with
  | nil =>
   have hge46 := drop_ge hd44
   rw [gl_dv9_1] at h101
   refine go ?_;intros
   rw [hge46]
   refine go ?_;intros
   cases h101
   exact k_cn ⟨_, rfl, _, pin, pinh⟩
  | cons x42 l43 =>
   have hlt45 := drop_lt hd44
   have hx47 := drop_ix hd44
   have hw48 := drop_wr hd44 hf49
   rw [gl_dv9_1] at h101
   refine go ?_;intros
   rw [hlt45]
   refine go ?_;intros
   refine r_iro rfl rfl hx47 rfl ?_
   obtain ⟨x51, h52, h101⟩ := bnd h101
   refine go ?_;intros
   refine c_call (c := c_ev9) (x42.up, (k41 : Int)) H_ev9 h52 fun ch => ?_
   refine go ?_;intros
   refine s_split rfl (fun c => ?_) (fun c => ?_)
   ·replace h101 := itt h101 c
    rw [c]
    refine go ?_;intros
    cases h101
    replace h : some _ = some _ := h
    cases h
    exact r_end
   replace h101 := itf h101 c
   rw [c]
   obtain ⟨x53, h54, h101⟩ := bnd h101
   refine go ?_;intros
   refine c_call (c := c_dy9) (x42.sheet) H_dy9 h54 fun ch => ?_
   refine go ?_;intros
   refine s_split rfl (fun c => ?_) (fun c => ?_)
   ·replace h101 := itt h101 c
    rw [c]
    refine go ?_;intros
    cases h101
    replace h : some _ = some _ := h
    cases h
    exact r_end
   replace h101 := itf h101 c
   rw [c]
   obtain ⟨x55, h56, h101⟩ := bnd h101
   refine go ?_;intros
   refine c_call (c := c_eb9) (x42.note) H_eb9 h56 fun ch => ?_
   refine go ?_;intros
   refine s_split rfl (fun c => ?_) (fun c => ?_)
   ·replace h101 := itt h101 c
    rw [c]
    refine go ?_;intros
    cases h101
    replace h : some _ = some _ := h
    cases h
    exact r_end
   replace h101 := itf h101 c
   rw [c]
   obtain ⟨x57, h58, h101⟩ := bnd h101
   refine go ?_;intros
   refine c_call (c := c_eo9) (a0, x42) H_eo9 h58 fun ch => ?_
   refine go ?_;intros
   refine w_cond rfl (fun c => ?_) (fun c => ?_)
   ·replace h101 := itt h101 c
    try rw [c]
    refine go ?_;intros
    cases h101
    replace h : some _ = some _ := h
    cases h
    exact r_end
   replace h101 := itf h101 c
   try rw [c]
   refine go ?_;intros
   rw [hw48]
   exact k_ln2 _ (Nat.lt_succ_self _) ⟨_, _, _, h101, rfl, drop_next hd44, pin, pinh⟩
 rintro t o ⟨q38, rfl, b59, pq1, pq2⟩
 refine pinnedQ pq1 pq2 ?_
 obtain ⟨hf95, h⟩ := gd h
 obtain ⟨q84, h102, h⟩ := bnd h
 refine go ?_;intros
 refine w_last (fun t o => ∃ q84_, q84 = .inr q84_ ∧ Pin t (ovr [] t) ∧ PinH o (ovh [] o)) ?_ ?_
 ·refine w_loop2 (fun n t o => ∃ l89 k87  b86, gl_dv9_2 a0 l89 k87  = some q84 ∧ n = l89.length ∧ (a0.heads).drop k87 = l89 ∧ Pin t (ovr [(1, .ptr 8 b86 210 0 0), (5, .v (.int .i64 (k87 : Int)))] t) ∧ PinH o (ovh [(8, ⟨b86, 1, 210, true, [[.sl false 3 (List.map (eCommit false) a0.commits), .sl false 2 (List.map eHead a0.heads)]]⟩)] o)) _ ⟨_, _, _, h102, rfl, rfl, pin, pinh⟩ ?_
  rintro n t o ⟨l89, k87, b86, h102, rfl, hd90, pq1, pq2⟩
  refine pinned pq1 pq2 ?_
  cases l89 with
  | nil =>
   have hge92 := drop_ge hd90
   rw [gl_dv9_2] at h102
   refine go ?_;intros
   rw [hge92]
   refine go ?_;intros
   cases h102
   exact k_cn ⟨_, rfl, pin, pinh⟩
  | cons x88 l89 =>
   have hlt91 := drop_lt hd90
   have hx93 := drop_ix hd90
   have hw94 := drop_wr hd90 hf95
   rw [gl_dv9_2] at h102
   refine go ?_;intros
   rw [hlt91]
   refine go ?_;intros
   refine r_iro rfl rfl hx93 rfl ?_
   obtain ⟨x97, h98, h102⟩ := bnd h102
   refine go ?_;intros
   refine c_call (c := c_eb9) (x88.name) H_eb9 h98 fun ch => ?_
   refine go ?_;intros
   refine s_split rfl (fun c => ?_) (fun c => ?_)
   ·replace h102 := itt h102 c
    rw [c]
    refine go ?_;intros
    cases h102
    replace h : some _ = some _ := h
    cases h
    exact r_end
   replace h102 := itf h102 c
   rw [c]
   obtain ⟨x99, h100, h102⟩ := bnd h102
   refine go ?_;intros
   refine c_call (c := c_ep9) (a0, x88.name) H_ep9 h100 fun ch => ?_
   refine go ?_;intros
   refine s_split rfl (fun c => ?_) (fun c => ?_)
   ·replace h102 := itt h102 c
    rw [c]
    refine go ?_;intros
    cases h102
    replace h : some _ = some _ := h
    cases h
    exact r_end
   replace h102 := itf h102 c
   rw [c]
   refine go ?_;intros
   refine s_split rfl (fun c => ?_) (fun c => ?_)
   ·replace h102 := itt h102 c
    rw [c]
    refine go ?_;intros
    cases h102
    replace h : some _ = some _ := h
    cases h
    exact r_end
   replace h102 := itf h102 c
   rw [c]
   refine go ?_;intros
   refine w_cond rfl (fun c => ?_) (fun c => ?_)
   ·replace h102 := itt h102 (by first | exact c | (have c2 := c; simp only [List.length_map] at c2; exact c2))
    try rw [c]
    refine go ?_;intros
    cases h102
    replace h : some _ = some _ := h
    cases h
    exact r_end
   replace h102 := itf h102 (by first | exact c | (have c2 := c; simp only [List.length_map] at c2; exact c2))
   try rw [c]
   refine go ?_;intros
   rw [hw94]
   exact k_ln2 _ (Nat.lt_succ_self _) ⟨_, _, _, h102, rfl, drop_next hd90, pin, pinh⟩
 rintro t o ⟨q84, rfl, pq1, pq2⟩
 refine pinnedQ pq1 pq2 ?_
 refine go ?_;intros
 cases h
 exact r_end
theorem d_eq9 {G : Gam} (H_dv9 : Has G c_dv9) (a0 : Repo) (a1 : Int) (r : Bool) (h : gf_eq9 a0 a1 = some r) : Does G if_eq9 ks_eq9 (c_eq9.args (a0, a1)) [] (c_eq9.ans (a0, a1) r) := by
 refine does_pn (L := [(0, .agg [.ro (List.map (eCommit false) a0.commits), .ro (List.map eHead a0.heads)]), (1, .v (.int .i64 a1))]) (fun bs => pin) fun bs t o => ?_
 show vwp _ ib_eq9 _ _
 unfold ib_eq9
 refine w_ir ?_
 unfold gf_eq9 at h
 obtain ⟨x2, h3, h⟩ := bnd h
 refine go ?_;intros
 refine c_call (c := c_dv9) (a0) H_dv9 h3 fun ch => ?_
 refine go ?_;intros
 refine s_split rfl (fun c => ?_) (fun c => ?_)
 ·replace h := itt h c
  rw [c]
  refine go ?_;intros
  refine s_split rfl (fun c => ?_) (fun c => ?_)
  ·replace h := itt h c
   rw [c]
   refine go ?_;intros
   cases h
   exact r_end
  replace h := itf h c
  rw [c]
  refine go ?_;intros
  cases h
  exact r_end
 replace h := itf h c
 rw [c]
 refine go ?_;intros
 cases h
 exact r_end
theorem d_es9 {G : Gam}  (a0 : Repo) (a1 : (List Int)) (r : (List Bool)) (h : gf_es9 a0 a1 = some r) : Does G if_es9 ks_es9 (c_es9.args (a0, a1)) [] (c_es9.ans (a0, a1) r) := by
 refine does_pn (L := [(0, .agg [.ro (List.map (eCommit false) a0.commits), .ro (List.map eHead a0.heads)]), (1, .ro (List.map eInt a1))]) (fun bs => pin) fun bs t o => ?_
 show vwp _ ib_es9 _ _
 unfold ib_es9
 refine w_ir ?_
 unfold gf_es9 at h
 obtain ⟨h4, h⟩ := gd h
 refine go ?_;intros
 refine r_mks (f := eBool) (x := false) rfl rfl (band1 h4) (band2 h4) rfl fun b2 => ?_
 obtain ⟨hf39, h⟩ := gd h
 obtain ⟨q25, h268, h⟩ := bnd h
 refine go ?_;intros
 refine w_last (fun t o => ∃ b42 b44 c45, Pin t (ovr [(2, .ptr 16 b42 210 0 0), (5, .ref 96 b44 c45 0 q25.length 33)] t) ∧ PinH o (ovh [(16, ⟨b42, 1, 210, true, [[.sl false 3 (List.map (eCommit false) a0.commits), .sl false 2 (List.map eHead a0.heads)]]⟩), (96, ent b44 c45 33 (List.map eBool q25))] o)) ?_ ?_
 ·refine w_loop2 (fun n t o => ∃ l33 k31 v28 b27 b29 c30, gl_es9_1 l33 k31 v28 = some q25 ∧ n = l33.length ∧ (a1).drop k31 = l33 ∧ Pin t (ovr [(1, .ro (List.map eInt a1)), (2, .ptr 16 b27 210 0 0), (5, .ref 96 b29 c30 0 v28.length 33), (6, .v (.int .i64 (k31 : Int)))] t) ∧ PinH o (ovh [(16, ⟨b27, 1, 210, true, [[.sl false 3 (List.map (eCommit false) a0.commits), .sl false 2 (List.map eHead a0.heads)]]⟩), (96, ent b29 c30 33 (List.map eBool v28))] o)) _ ⟨_, _, _, _, _, _, h268, rfl, rfl, pin, pinh⟩ ?_
  rintro n t o ⟨l33, k31, v28, b27, b29, c30, h268, rfl, hd34, pq1, pq2⟩
  refine pinned pq1 pq2 ?_
  cases l33 with
  | nil =>
   have hge36 := drop_ge hd34
   rw [gl_es9_1] at h268
   refine go ?_;intros
   rw [hge36]
   refine go ?_;intros
   cases h268
   exact k_cn ⟨_, _, _, pin, pinh⟩
  | cons x32 l33 =>
   have hlt35 := drop_lt hd34
   have hx37 := drop_ix hd34
   have hw38 := drop_wr hd34 hf39
   rw [gl_es9_1] at h268
   refine go ?_;intros
   rw [hlt35]
   refine go ?_;intros
   refine r_iro rfl rfl hx37 rfl ?_
   obtain ⟨x40, h41, h268⟩ := bnd h268
   refine go ?_;intros
   refine r_ire (xs := v28) rfl rfl h41 rfl ?_
   refine go ?_;intros
   refine c_ste (f := eBool) v28 true (idx_get h41).2 ?_
   refine go ?_;intros
   rw [hw38]
   exact k_ln2 _ (Nat.lt_succ_self _) ⟨_, _, _, _, _, _, h268, rfl, drop_next hd34, pin, pinh⟩
 rintro t o ⟨b42, b44, c45, pq1, pq2⟩
 refine pinnedQ pq1 pq2 ?_
 obtain ⟨q207, h269, h⟩ := bnd h
 refine go ?_;intros
 refine w_last (fun t o => ∃ b266 c267, Pin t (ovr [(5, .ref 96 b266 c267 0 q207.length 33)] t) ∧ PinH o (ovh [(96, ent b266 c267 33 (List.map eBool q207))] o)) ?_ ?_
 ·refine w_loop2 (fun n t o => ∃ n213 v208 v210 b209 b211 c212, gl_es9_5 a0 n213 v208 v210 = some q207 ∧ n213 = n ∧ Pin t (ovr [(2, .ptr 16 b209 210 0 0), (5, .ref 96 b211 c212 0 v210.length 33), (7, .v (.int .i64 v208))] t) ∧ PinH o (ovh [(16, ⟨b209, 1, 210, true, [[.sl false 3 (List.map (eCommit false) a0.commits), .sl false 2 (List.map eHead a0.heads)]]⟩), (96, ent b211 c212 33 (List.map eBool v210))] o)) _ ⟨_, _, _, _, _, _, h269, rfl, pin, pinh⟩ ?_
  rintro n t o ⟨n213, v208, v210, b209, b211, c212, h269, rfl, pq1, pq2⟩
  refine pinned pq1 pq2 ?_
  cases n213 with
  | zero => rw [gl_es9_5] at h269; cases h269
  | succ n213 =>
   rw [gl_es9_5] at h269
   refine go ?_;intros
   refine w_cond rfl (fun c => ?_) (fun c => ?_)
   ·replace h269 := itt h269 c
    try rw [c]
    obtain ⟨q246, h270, h269⟩ := bnd h269
    refine go ?_;intros
    refine w_last (fun t o => ∃ b261 b263 c264, Pin t (ovr [(2, .ptr 16 b261 210 0 0), (5, .ref 96 b263 c264 0 q246.length 33), (7, .v (.int .i64 v208))] t) ∧ PinH o (ovh [(16, ⟨b261, 1, 210, true, [[.sl false 3 (List.map (eCommit false) a0.commits), .sl false 2 (List.map eHead a0.heads)]]⟩), (96, ent b263 c264 33 (List.map eBool q246))] o)) ?_ ?_
    ·refine w_loop2 (fun n t o => ∃ n252 v247 v249 b248 b250 c251, gl_es9_6 a0 v208 n252 v247 v249 = some q246 ∧ n252 = n ∧ Pin t (ovr [(2, .ptr 16 b248 210 0 0), (5, .ref 96 b250 c251 0 v249.length 33), (7, .v (.int .i64 v208)), (8, .v (.int .i64 v247))] t) ∧ PinH o (ovh [(16, ⟨b248, 1, 210, true, [[.sl false 3 (List.map (eCommit false) a0.commits), .sl false 2 (List.map eHead a0.heads)]]⟩), (96, ent b250 c251 33 (List.map eBool v249))] o)) _ ⟨_, _, _, _, _, _, h270, rfl, pin, pinh⟩ ?_
     rintro n t o ⟨n252, v247, v249, b248, b250, c251, h270, rfl, pq1, pq2⟩
     refine pinned pq1 pq2 ?_
     cases n252 with
     | zero => rw [gl_es9_6] at h270; cases h270
     | succ n252 =>
      rw [gl_es9_6] at h270
      obtain ⟨x253, h254, h270⟩ := bnd h270
      refine go ?_;intros
      refine r_iro rfl rfl h254 rfl ?_
      refine go ?_;intros
      refine s_split rfl (fun c => ?_) (fun c => ?_)
      ·replace h270 := itt h270 (by first | exact c | (have c2 := c; simp only [List.length_map] at c2; exact c2))
       rw [c]
       obtain ⟨x255, h256, h270⟩ := bnd h270
       refine go ?_;intros
       refine r_ire (xs := v249) rfl rfl h256 rfl ?_
       refine go ?_;intros
       refine r_lde (f := eBool) (xs := v249) (x := x255) rfl rfl (idx_get h256).2 rfl rfl rfl ?_
       refine go ?_;intros
       refine w_cond rfl (fun c => ?_) (fun c => ?_)
       ·replace h270 := itt h270 c
        try rw [c]
        refine go ?_;intros
        refine r_iro rfl rfl h254 rfl ?_
        obtain ⟨x257, h258, h270⟩ := bnd h270
        refine go ?_;intros
        refine r_iro rfl rfl h258 rfl ?_
        obtain ⟨x259, h260, h270⟩ := bnd h270
        refine go ?_;intros
        refine r_ire (xs := v249) rfl rfl h260 rfl ?_
        refine go ?_;intros
        refine c_ste (f := eBool) v249 true (idx_get h260).2 ?_
        refine go ?_;intros
        exact k_ln2 _ (Nat.lt_succ_self _) ⟨_, _, _, _, _, _, h270, rfl, pin, pinh⟩
       replace h270 := itf h270 c
       try rw [c]
       refine go ?_;intros
       cases h270
       exact k_cn ⟨_, _, _, pin, pinh⟩
      replace h270 := itf h270 (by first | exact c | (have c2 := c; simp only [List.length_map] at c2; exact c2))
      rw [c]
      refine go ?_;intros
      cases h270
      exact k_cn ⟨_, _, _, pin, pinh⟩
    rintro t o ⟨b261, b263, c264, pq1, pq2⟩
    refine pinnedQ pq1 pq2 ?_
    refine go ?_;intros
    exact k_ln2 _ (Nat.lt_succ_self _) ⟨_, _, _, _, _, _, h269, rfl, pin, pinh⟩
   replace h269 := itf h269 c
   try rw [c]
   refine go ?_;intros
   cases h269
   exact k_cn ⟨_, _, pin, pinh⟩
 rintro t o ⟨b266, c267, pq1, pq2⟩
 refine pinnedQ pq1 pq2 ?_
 refine go ?_;intros
 cases h
 exact r_end
theorem d_en9 {G : Gam} (H_et9 : Has G c_et9) (a0 : Repo) (r : Repo) (h : gf_en9 a0 = some r) : Does G if_en9 ks_en9 (c_en9.args (a0)) [] (c_en9.ans (a0) r) := by
 refine does_pn (L := [(0, .agg [.ro (List.map (eCommit false) a0.commits), .ro (List.map eHead a0.heads)])]) (fun bs => pin) fun bs t o => ?_
 show vwp _ ib_en9 _ _
 unfold ib_en9
 refine w_ir ?_
 unfold gf_en9 at h
 obtain ⟨h6, h⟩ := gd h
 refine go ?_;intros
 refine r_app (f := eHead) (xs := ([] : (List Head))) (ys := a0.heads) rfl (src_ro (fun _ => rfl) (fun _ => rfl)) rfl rfl (by first | rfl | simp) h6 fun b4 c5 => ?_
 obtain ⟨hf90, h⟩ := gd h
 obtain ⟨q68, h112, h⟩ := bnd h
 refine go ?_;intros
 refine w_last (fun t o => ∃ b101 c102 b103 c104 b105 b107 c108 b109 c110 b111, Pin t (ovr [(2, .ptr 16 b105 210 0 0), (3, .ptr 24 b111 210 0 0)] t) ∧ PinH o (ovh [(1000256, ent b101 c102 115 (List.map (eCommit true) [])), (1000257, ent b103 c104 130 (List.map eHead [])), (16, ⟨b105, 1, 210, true, [[.al 1000256 b101 c102 0 ([] : List Commit).length 115, .al 1000257 b103 c104 0 ([] : List Head).length 130]]⟩), (1000384, ent b107 c108 115 (List.map (eCommit true) q68)), (1000385, ent b109 c110 130 (List.map eHead ([] ++ a0.heads))), (24, ⟨b111, 1, 210, true, [[.al 1000384 b107 c108 0 q68.length 115, .al 1000385 b109 c110 0 ([] ++ a0.heads).length 130]]⟩)] o)) ?_ ?_
 ·refine w_loop2 (fun n t o => ∃ l84 k82 v76 b70 b71 c72 b73 c74 b75 b77 c78 b79 c80 b81, gl_en9_1 l84 k82 v76 = some q68 ∧ n = l84.length ∧ (a0.commits).drop k82 = l84 ∧ Pin t (ovr [(1, .ptr 8 b70 210 0 0), (2, .ptr 16 b75 210 0 0), (3, .ptr 24 b81 210 0 0), (4, .v (.int .i64 (k82 : Int)))] t) ∧ PinH o (ovh [(8, ⟨b70, 1, 210, true, [[.sl false 3 (List.map (eCommit false) a0.commits), .sl false 2 (List.map eHead a0.heads)]]⟩), (1000256, ent b71 c72 115 (List.map (eCommit true) [])), (1000257, ent b73 c74 130 (List.map eHead [])), (16, ⟨b75, 1, 210, true, [[.al 1000256 b71 c72 0 ([] : List Commit).length 115, .al 1000257 b73 c74 0 ([] : List Head).length 130]]⟩), (1000384, ent b77 c78 115 (List.map (eCommit true) v76)), (1000385, ent b79 c80 130 (List.map eHead ([] ++ a0.heads))), (24, ⟨b81, 1, 210, true, [[.al 1000384 b77 c78 0 v76.length 115, .al 1000385 b79 c80 0 ([] ++ a0.heads).length 130]]⟩)] o)) _ ⟨_, _, _, _, _, _, _, _, _, _, _, _, _, _, h112, rfl, rfl, pin, pinh⟩ ?_
  rintro n t o ⟨l84, k82, v76, b70, b71, c72, b73, c74, b75, b77, c78, b79, c80, b81, h112, rfl, hd85, pq1, pq2⟩
  refine pinned pq1 pq2 ?_
  cases l84 with
  | nil =>
   have hge87 := drop_ge hd85
   rw [gl_en9_1] at h112
   refine go ?_;intros
   rw [hge87]
   refine go ?_;intros
   cases h112
   exact k_cn ⟨_, _, _, _, _, _, _, _, _, _, pin, pinh⟩
  | cons x83 l84 =>
   have hlt86 := drop_lt hd85
   have hx88 := drop_ix hd85
   have hw89 := drop_wr hd85 hf90
   rw [gl_en9_1] at h112
   refine go ?_;intros
   rw [hlt86]
   refine go ?_;intros
   refine r_iro rfl rfl hx88 rfl ?_
   obtain ⟨x91, h92, h112⟩ := bnd h112
   refine go ?_;intros
   refine c_call (c := c_et9) (x83) H_et9 h92 fun ch => ?_
   refine go ?_;intros
   try simp only [take_map_len, take_ent]
   obtain ⟨h100, h112⟩ := gd h112
   refine go ?_;intros
   refine r_app (f := (eCommit true)) (xs := v76) (ys := ([x91] : (List Commit))) rfl (src_mv rfl rfl (by first | rfl | simp)) rfl rfl (by first | rfl | simp) h100 fun b98 c99 => ?_
   refine go ?_;intros
   rw [hw89]
   exact k_ln2 _ (Nat.lt_succ_self _) ⟨_, _, _, _, _, _, _, _, _, _, _, _, _, _, h112, rfl, drop_next hd85, pin, pinh⟩
 rintro t o ⟨b101, c102, b103, c104, b105, b107, c108, b109, c110, b111, pq1, pq2⟩
 refine pinnedQ pq1 pq2 ?_
 refine go ?_;intros
 cases h
 exact r_end
theorem d_dt9 {G : Gam} (H_eq9 : Has G c_eq9) (H_es9 : Has G c_es9) (a0 : Repo) (a1 : Int) (a2 : Int) (r : Bool) (h : gf_dt9 a0 a1 a2 = some r) : Does G if_dt9 ks_dt9 (c_dt9.args (a0, a1, a2)) [] (c_dt9.ans (a0, a1, a2) r) := by
 refine does_pn (L := [(0, .agg [.ro (List.map (eCommit false) a0.commits), .ro (List.map eHead a0.heads)]), (1, .v (.int .i64 a1)), (2, .v (.int .i64 a2))]) (fun bs => pin) fun bs t o => ?_
 show vwp _ ib_dt9 _ _
 unfold ib_dt9
 refine w_ir ?_
 unfold gf_dt9 at h
 obtain ⟨x2, h3, h⟩ := bnd h
 refine go ?_;intros
 refine c_call (c := c_eq9) (a0, a1) H_eq9 h3 fun ch => ?_
 refine go ?_;intros
 refine s_split rfl (fun c => ?_) (fun c => ?_)
 ·replace h := itt h c
  rw [c]
  obtain ⟨x4, h5, h⟩ := bnd h
  refine go ?_;intros
  refine c_call (c := c_eq9) (a0, a2) H_eq9 h5 fun ch => ?_
  refine go ?_;intros
  refine s_split rfl (fun c => ?_) (fun c => ?_)
  ·replace h := itt h c
   rw [c]
   obtain ⟨x7, h8, h⟩ := bnd h
   refine go ?_;intros
   refine c_call (c := c_es9) (a0, ([a2] : (List Int))) H_es9 h8 fun ch => ?_
   obtain ⟨x11, h12, h⟩ := bnd h
   refine go ?_;intros
   refine r_ire (xs := x7) rfl rfl h12 rfl ?_
   refine go ?_;intros
   refine r_lde (f := eBool) (xs := x7) (x := x11) rfl rfl (idx_get h12).2 rfl rfl rfl ?_
   refine go ?_;intros
   cases h
   exact r_end
  replace h := itf h c
  rw [c]
  refine go ?_;intros
  cases h
  exact r_end
 replace h := itf h c
 rw [c]
 refine go ?_;intros
 cases h
 exact r_end
theorem d_cy9 {G : Gam}  (a0 : Pt) (r : Pt) (h : gf_cy9 a0 = some r) : Does G if_cy9 ks_cy9 (c_cy9.args (a0)) [] (c_cy9.ans (a0) r) := by
 refine does_pn (L := [(0, .agg [.v (.int .i64 a0.x), .v (.int .i64 a0.y)])]) (fun bs => pin) fun bs t o => ?_
 show vwp _ ib_cy9 _ _
 unfold ib_cy9
 refine w_ir ?_
 unfold gf_cy9 at h
 refine go ?_;intros
 cases h
 exact r_end
theorem d_cz9 {G : Gam} (H_cy9 : Has G c_cy9) (a0 : (List Pt)) (r : (List Pt)) (h : gf_cz9 a0 = some r) : Does G if_cz9 ks_cz9 (c_cz9.args (a0)) [] (c_cz9.ans (a0) r) := by
 refine does_pn (L := [(0, .ro (List.map ePt a0))]) (fun bs => pin) fun bs t o => ?_
 show vwp _ ib_cz9 _ _
 unfold ib_cz9
 refine w_ir ?_
 unfold gf_cz9 at h
 obtain ⟨h3, h⟩ := gd h
 refine go ?_;intros
 refine r_mks (f := ePt) (x := (⟨0, 0⟩ : Pt)) rfl rfl (band1 h3) (band2 h3) rfl fun b1 => ?_
 obtain ⟨hf41, h⟩ := gd h
 obtain ⟨q28, h49, h⟩ := bnd h
 refine go ?_;intros
 refine w_last (fun t o => ∃ b47 c48, Pin t (ovr [(3, .ref 56 b47 c48 0 q28.length 66)] t) ∧ PinH o (ovh [(56, ent b47 c48 66 (List.map ePt q28))] o)) ?_ ?_
 ·refine w_loop2 (fun n t o => ∃ l35 k33 v30 b31 c32, gl_cz9_1 l35 k33 v30 = some q28 ∧ n = l35.length ∧ (a0).drop k33 = l35 ∧ Pin t (ovr [(0, .ro (List.map ePt a0)), (3, .ref 56 b31 c32 0 v30.length 66), (4, .v (.int .i64 (k33 : Int)))] t) ∧ PinH o (ovh [(56, ent b31 c32 66 (List.map ePt v30))] o)) _ ⟨_, _, _, _, _, h49, rfl, rfl, pin, pinh⟩ ?_
  rintro n t o ⟨l35, k33, v30, b31, c32, h49, rfl, hd36, pq1, pq2⟩
  refine pinned pq1 pq2 ?_
  cases l35 with
  | nil =>
   have hge38 := drop_ge hd36
   rw [gl_cz9_1] at h49
   refine go ?_;intros
   rw [hge38]
   refine go ?_;intros
   cases h49
   exact k_cn ⟨_, _, pin, pinh⟩
  | cons x34 l35 =>
   have hlt37 := drop_lt hd36
   have hx39 := drop_ix hd36
   have hw40 := drop_wr hd36 hf41
   rw [gl_cz9_1] at h49
   refine go ?_;intros
   rw [hlt37]
   refine go ?_;intros
   refine r_iro rfl rfl hx39 rfl ?_
   obtain ⟨x42, h43, h49⟩ := bnd h49
   refine go ?_;intros
   refine c_call (c := c_cy9) (x34) H_cy9 h43 fun ch => ?_
   obtain ⟨x44, h45, h49⟩ := bnd h49
   refine go ?_;intros
   refine r_ire (xs := v30) rfl rfl h45 rfl ?_
   refine go ?_;intros
   refine c_ste (f := ePt) v30 x42 (idx_get h45).2 ?_
   refine go ?_;intros
   rw [hw40]
   exact k_ln2 _ (Nat.lt_succ_self _) ⟨_, _, _, _, _, h49, rfl, drop_next hd36, pin, pinh⟩
 rintro t o ⟨b47, c48, pq1, pq2⟩
 refine pinnedQ pq1 pq2 ?_
 refine go ?_;intros
 cases h
 exact r_end
theorem d_dc9 {G : Gam}  (a0 : Tag) (r : Tag) (h : gf_dc9 a0 = some r) : Does G if_dc9 ks_dc9 (c_dc9.args (a0)) [] (c_dc9.ans (a0) r) := by
 refine does_pn (L := [(0, .agg [.v (.string a0.key), .v (.string a0.val)])]) (fun bs => pin) fun bs t o => ?_
 show vwp _ ib_dc9 _ _
 unfold ib_dc9
 refine w_ir ?_
 unfold gf_dc9 at h
 refine go ?_;intros
 cases h
 exact r_end
theorem d_db9 {G : Gam} (H_cz9 : Has G c_cz9) (a0 : Shape) (r : Shape) (h : gf_db9 a0 = some r) : Does G if_db9 ks_db9 (c_db9.args (a0)) [] (c_db9.ans (a0) r) := by
 refine does_pn (L := [(0, .agg [.v (.int .i64 a0.kind), .ro (List.map ePt a0.pts)])]) (fun bs => pin) fun bs t o => ?_
 show vwp _ ib_db9 _ _
 unfold ib_db9
 refine w_ir ?_
 unfold gf_db9 at h
 obtain ⟨x4, h5, h⟩ := bnd h
 refine go ?_;intros
 refine c_call (c := c_cz9) (a0.pts) H_cz9 h5 fun ch => ?_
 refine go ?_;intros
 cases h
 exact r_end
theorem d_dd9 {G : Gam} (H_dc9 : Has G c_dc9) (a0 : (List Tag)) (r : (List Tag)) (h : gf_dd9 a0 = some r) : Does G if_dd9 ks_dd9 (c_dd9.args (a0)) [] (c_dd9.ans (a0) r) := by
 refine does_pn (L := [(0, .ro (List.map eTag a0))]) (fun bs => pin) fun bs t o => ?_
 show vwp _ ib_dd9 _ _
 unfold ib_dd9
 refine w_ir ?_
 unfold gf_dd9 at h
 obtain ⟨h3, h⟩ := gd h
 refine go ?_;intros
 refine r_mks (f := eTag) (x := (⟨(⟨#[]⟩ : Str), (⟨#[]⟩ : Str)⟩ : Tag)) rfl rfl (band1 h3) (band2 h3) rfl fun b1 => ?_
 obtain ⟨hf41, h⟩ := gd h
 obtain ⟨q28, h49, h⟩ := bnd h
 refine go ?_;intros
 refine w_last (fun t o => ∃ b47 c48, Pin t (ovr [(3, .ref 56 b47 c48 0 q28.length 82)] t) ∧ PinH o (ovh [(56, ent b47 c48 82 (List.map eTag q28))] o)) ?_ ?_
 ·refine w_loop2 (fun n t o => ∃ l35 k33 v30 b31 c32, gl_dd9_1 l35 k33 v30 = some q28 ∧ n = l35.length ∧ (a0).drop k33 = l35 ∧ Pin t (ovr [(0, .ro (List.map eTag a0)), (3, .ref 56 b31 c32 0 v30.length 82), (4, .v (.int .i64 (k33 : Int)))] t) ∧ PinH o (ovh [(56, ent b31 c32 82 (List.map eTag v30))] o)) _ ⟨_, _, _, _, _, h49, rfl, rfl, pin, pinh⟩ ?_
  rintro n t o ⟨l35, k33, v30, b31, c32, h49, rfl, hd36, pq1, pq2⟩
  refine pinned pq1 pq2 ?_
  cases l35 with
  | nil =>
   have hge38 := drop_ge hd36
   rw [gl_dd9_1] at h49
   refine go ?_;intros
   rw [hge38]
   refine go ?_;intros
   cases h49
   exact k_cn ⟨_, _, pin, pinh⟩
  | cons x34 l35 =>
   have hlt37 := drop_lt hd36
   have hx39 := drop_ix hd36
   have hw40 := drop_wr hd36 hf41
   rw [gl_dd9_1] at h49
   refine go ?_;intros
   rw [hlt37]
   refine go ?_;intros
   refine r_iro rfl rfl hx39 rfl ?_
   obtain ⟨x42, h43, h49⟩ := bnd h49
   refine go ?_;intros
   refine c_call (c := c_dc9) (x34) H_dc9 h43 fun ch => ?_
   obtain ⟨x44, h45, h49⟩ := bnd h49
   refine go ?_;intros
   refine r_ire (xs := v30) rfl rfl h45 rfl ?_
   refine go ?_;intros
   refine c_ste (f := eTag) v30 x42 (idx_get h45).2 ?_
   refine go ?_;intros
   rw [hw40]
   exact k_ln2 _ (Nat.lt_succ_self _) ⟨_, _, _, _, _, h49, rfl, drop_next hd36, pin, pinh⟩
 rintro t o ⟨b47, c48, pq1, pq2⟩
 refine pinnedQ pq1 pq2 ?_
 refine go ?_;intros
 cases h
 exact r_end
theorem d_ct9 {G : Gam} (H_db9 : Has G c_db9) (H_dd9 : Has G c_dd9) (a0 : Feat) (r : Feat) (h : gf_ct9 a0 = some r) : Does G if_ct9 ks_ct9 (c_ct9.args (a0)) [] (c_ct9.ans (a0) r) := by
 refine does_pn (L := [(0, .agg [.v (.string a0.id), .v (.int .i64 a0.shape.kind), .ro (List.map ePt a0.shape.pts), .ro (List.map eTag a0.tags)])]) (fun bs => pin) fun bs t o => ?_
 show vwp _ ib_ct9 _ _
 unfold ib_ct9
 refine w_ir ?_
 unfold gf_ct9 at h
 obtain ⟨q4, h26, h⟩ := bnd h
 refine go ?_;intros
 refine w_cut (fun t o => ∃ b9 b10 c11 b12 c13 b14 b16 c17 b18 c19 b21, Pin t (ovr [(1, .ptr 8 b9 372 0 0), (2, .ptr 16 b14 100 0 0), (3, .ptr 24 b21 100 0 0)] t) ∧ PinH o (ovh [(8, ⟨b9, 1, 372, true, [[.v (.string a0.id), .v (.int .i64 a0.shape.kind), .sl false 2 (List.map ePt a0.shape.pts), .sl false 2 (List.map eTag a0.tags)]]⟩), (1000258, ent b10 c11 66 (List.map ePt [])), (1000259, ent b12 c13 82 (List.map eTag [])), (16, ⟨b14, 1, 100, true, [[.v (.string (⟨#[]⟩ : Str)), .v (.int .i64 0), .al 1000258 b10 c11 0 ([] : List Pt).length 66, .al 1000259 b12 c13 0 ([] : List Tag).length 82]]⟩), (1000386, ent b16 c17 66 (List.map ePt q4.1)), (1000387, ent b18 c19 82 (List.map eTag [])), (24, ⟨b21, 1, 100, true, [[.v (.string a0.id), .v (.int .i64 q4.2), .al 1000386 b16 c17 0 q4.1.length 66, .al 1000387 b18 c19 0 ([] : List Tag).length 82]]⟩)] o)) ?_ ?_
 ·obtain ⟨x5, h6, h26⟩ := bnd h26
  refine go ?_;intros
  refine c_call (c := c_db9) (a0.shape) H_db9 h6 fun ch => ?_
  refine go ?_;intros
  cases h26
  exact k_cn ⟨_, _, _, _, _, _, _, _, _, _, _, pin, pinh⟩
 rintro t o ⟨b9, b10, c11, b12, c13, b14, b16, c17, b18, c19, b21, pq1, pq2⟩
 refine pinned pq1 pq2 ?_
 obtain ⟨x22, h23, h⟩ := bnd h
 refine go ?_;intros
 refine c_call (c := c_dd9) (a0.tags) H_dd9 h23 fun ch => ?_
 refine go ?_;intros
 cases h
 exact r_end
theorem d_cx9 {G : Gam}  (a0 : (List Int)) (r : (List Int)) (h : gf_cx9 a0 = some r) : Does G if_cx9 ks_cx9 (c_cx9.args (a0)) [] (c_cx9.ans (a0) r) := by
 refine does_pn (L := [(0, .ro (List.map eInt a0))]) (fun bs => pin) fun bs t o => ?_
 show vwp _ ib_cx9 _ _
 unfold ib_cx9
 refine w_ir ?_
 unfold gf_cx9 at h
 obtain ⟨h3, h⟩ := gd h
 refine go ?_;intros
 refine r_mks (f := eInt) (x := 0) rfl rfl (band1 h3) (band2 h3) rfl fun b1 => ?_
 obtain ⟨hf35, h⟩ := gd h
 obtain ⟨q22, h41, h⟩ := bnd h
 refine go ?_;intros
 refine w_last (fun t o => ∃ b39 c40, Pin t (ovr [(3, .ref 56 b39 c40 0 q22.length 17)] t) ∧ PinH o (ovh [(56, ent b39 c40 17 (List.map eInt q22))] o)) ?_ ?_
 ·refine w_loop2 (fun n t o => ∃ l29 k27 v24 b25 c26, gl_cx9_1 l29 k27 v24 = some q22 ∧ n = l29.length ∧ (a0).drop k27 = l29 ∧ Pin t (ovr [(0, .ro (List.map eInt a0)), (3, .ref 56 b25 c26 0 v24.length 17), (4, .v (.int .i64 (k27 : Int)))] t) ∧ PinH o (ovh [(56, ent b25 c26 17 (List.map eInt v24))] o)) _ ⟨_, _, _, _, _, h41, rfl, rfl, pin, pinh⟩ ?_
  rintro n t o ⟨l29, k27, v24, b25, c26, h41, rfl, hd30, pq1, pq2⟩
  refine pinned pq1 pq2 ?_
  cases l29 with
  | nil =>
   have hge32 := drop_ge hd30
   rw [gl_cx9_1] at h41
   refine go ?_;intros
   rw [hge32]
   refine go ?_;intros
   cases h41
   exact k_cn ⟨_, _, pin, pinh⟩
  | cons x28 l29 =>
   have hlt31 := drop_lt hd30
   have hx33 := drop_ix hd30
   have hw34 := drop_wr hd30 hf35
   rw [gl_cx9_1] at h41
   refine go ?_;intros
   rw [hlt31]
   refine go ?_;intros
   refine r_iro rfl rfl hx33 rfl ?_
   obtain ⟨x36, h37, h41⟩ := bnd h41
   refine go ?_;intros
   refine r_ire (xs := v24) rfl rfl h37 rfl ?_
   refine go ?_;intros
   refine c_ste (f := eInt) v24 x28 (idx_get h37).2 ?_
   refine go ?_;intros
   rw [hw34]
   exact k_ln2 _ (Nat.lt_succ_self _) ⟨_, _, _, _, _, h41, rfl, drop_next hd30, pin, pinh⟩
 rintro t o ⟨b39, c40, pq1, pq2⟩
 refine pinnedQ pq1 pq2 ?_
 refine go ?_;intros
 cases h
 exact r_end
end Go.Proofs.AM
