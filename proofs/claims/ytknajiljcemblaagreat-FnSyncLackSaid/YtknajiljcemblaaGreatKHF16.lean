/- Lemmas of the proof (KHF16), on an abstract machine. Conditions: none. -/
import Derived.Test.YtknajiljcemblaaGreatKHD
set_option linter.unusedVariables false
set_option linter.unusedSimpArgs false
set_option maxRecDepth 100000
set_option maxHeartbeats 4000000
namespace Go.Proofs.AM
attribute [local irreducible] vwp vstps vstpLs vstp vdo vret kseq kblk kloop kend kcut kloop2 frzV renV shutK pfzV trnV unrV
theorem d_aq9 {G : Gam}  (a0 : (List Bool)) (a1 : Int) (r : Bool) (h : gf_aq9 a0 a1 = some r) : Does G if_aq9 ks_aq9 (c_aq9.args (a0, a1)) [] (c_aq9.ans (a0, a1) r) := by
 refine does_pn (L := [(0, .ro (List.map eBool a0)), (1, .rptr [.v (.int .i64 a1)])]) (fun bs => pin) fun bs t o => ?_
 show vwp _ ib_aq9 _ _
 unfold ib_aq9
 refine w_ir ?_
 unfold gf_aq9 at h
 obtain ⟨x1, h2, h⟩ := bnd h
 refine go ?_;intros
 refine r_iro rfl rfl h2 rfl ?_
 refine go ?_;intros
 cases h
 exact r_end
theorem d_bn9 {G : Gam} (H_aq9 : Has G c_aq9) (a0 : (List (List Bool))) (a1 : Int) (r : Int) (h : gf_bn9 a0 a1 = some r) : Does G if_bm9 ks_bm9 (c_bn9.args (a0, a1)) [] (c_bn9.ans (a0, a1) r) := by
 refine does_pn (L := [(0, .ro (List.map (eSl false 33 eBool) a0)), (1, .fn 322 [.rptr [.v (.int .i64 a1)]])]) (fun bs => pin) fun bs t o => ?_
 show vwp _ ib_bm9 _ _
 unfold ib_bm9
 refine w_ir ?_
 unfold gf_bn9 at h
 obtain ⟨hf24, h⟩ := gd h
 obtain ⟨q14, h27, h⟩ := bnd h
 refine go ?_;intros
 refine w_last (fun t o => ∃ q14_, q14 = .inr q14_ ∧ Pin t (ovr [] t) ∧ PinH o (ovh [] o)) ?_ ?_
 ·refine w_loop2 (fun n t o => ∃ l18 k16  , gl_bn9_1 a1 l18 k16  = some q14 ∧ n = l18.length ∧ (a0).drop k16 = l18 ∧ Pin t (ovr [(0, .ro (List.map (eSl false 33 eBool) a0)), (1, .fn 322 [.rptr [.v (.int .i64 a1)]]), (7, .v (.int .i64 (a0.length : Int))), (8, .v (.int .i64 (k16 : Int)))] t) ∧ PinH o (ovh [] o)) _ ⟨_, _, h27, rfl, rfl, pin, pinh⟩ ?_
  rintro n t o ⟨l18, k16, h27, rfl, hd19, pq1, pq2⟩
  refine pinned pq1 pq2 ?_
  cases l18 with
  | nil =>
   have hge21 := drop_ge hd19
   rw [gl_bn9_1] at h27
   refine go ?_;intros
   rw [hge21]
   refine go ?_;intros
   cases h27
   exact k_cn ⟨_, rfl, pin, pinh⟩
  | cons x17 l18 =>
   have hlt20 := drop_lt hd19
   have hx22 := drop_ix hd19
   have hw23 := drop_wr hd19 hf24
   rw [gl_bn9_1] at h27
   refine go ?_;intros
   rw [hlt20]
   refine go ?_;intros
   refine r_iro rfl rfl hx22 rfl ?_
   obtain ⟨x25, h26, h27⟩ := bnd h27
   refine go ?_;intros
   refine c_calld (c := c_aq9) (x17, a1) H_aq9 h26 fun ch => ?_
   refine go ?_;intros
   refine w_cond rfl (fun c => ?_) (fun c => ?_)
   ·replace h27 := itt h27 c
    try rw [c]
    refine go ?_;intros
    cases h27
    replace h : some _ = some _ := h
    cases h
    exact r_end
   replace h27 := itf h27 c
   try rw [c]
   refine go ?_;intros
   rw [hw23]
   exact k_ln2 _ (Nat.lt_succ_self _) ⟨_, _, h27, rfl, drop_next hd19, pin, pinh⟩
 rintro t o ⟨q14, rfl, pq1, pq2⟩
 refine pinnedQ pq1 pq2 ?_
 refine go ?_;intros
 cases h
 exact r_end
theorem d_ap9 {G : Gam} (H_ad9 : Has G c_ad9) (H_ak9 : Has G c_ak9) (H_av9 : Has G c_av9) (H_bn9 : Has G c_bn9) (a0 : Repo) (a1 : Repo) (a2 : Int) (r : Int) (h : gf_ap9 a0 a1 a2 = some r) : Does G if_ap9 ks_ap9 (c_ap9.args (a0, a1, a2)) [] (c_ap9.ans (a0, a1, a2) r) := by
 refine does_pn (L := [(0, .agg [.ro (List.map (eCommit false) a0.commits), .ro (List.map eHead a0.heads)]), (1, .agg [.ro (List.map (eCommit false) a1.commits), .ro (List.map eHead a1.heads)]), (2, .v (.int .i64 a2))]) (fun bs => pin) fun bs t o => ?_
 show vwp _ ib_ap9 _ _
 unfold ib_ap9
 refine w_ir ?_
 unfold gf_ap9 at h
 obtain ⟨x4, h5, h⟩ := bnd h
 refine go ?_;intros
 refine c_call (c := c_ad9) (a0) H_ad9 h5 fun ch => ?_
 refine go ?_;intros
 refine s_split rfl (fun c => ?_) (fun c => ?_)
 ·replace h := itt h c
  rw [c]
  refine go ?_;intros
  cases h
  exact r_end
 replace h := itf h c
 rw [c]
 obtain ⟨x6, h7, h⟩ := bnd h
 refine go ?_;intros
 refine c_call (c := c_ad9) (a1) H_ad9 h7 fun ch => ?_
 refine go ?_;intros
 refine s_split rfl (fun c => ?_) (fun c => ?_)
 ·replace h := itt h c
  rw [c]
  refine go ?_;intros
  cases h
  exact r_end
 replace h := itf h c
 rw [c]
 obtain ⟨x8, h9, h⟩ := bnd h
 refine go ?_;intros
 refine c_call (c := c_ak9) (a1, a2) H_ak9 h9 fun ch => ?_
 refine go ?_;intros
 refine w_cond rfl (fun c => ?_) (fun c => ?_)
 ·replace h := itt h c
  try rw [c]
  refine go ?_;intros
  cases h
  exact r_end
 replace h := itf h c
 try rw [c]
 obtain ⟨x10, h11, h⟩ := bnd h
 refine go ?_;intros
 refine c_call (c := c_av9) (a0, a1) H_av9 h11 fun ch => ?_
 obtain ⟨x14, h15, h⟩ := bnd h
 refine go ?_;intros
 refine c_call (c := c_bn9) (x10, a2) H_bn9 h15 fun ch => ?_
 refine go ?_;intros
 cases h
 exact r_end
theorem d_cg9 {G : Gam} (H_ch9 : Has G (c_ch9 rounds)) (a0 : Repo) (a1 : Repo) (a2 : Int) (r : Int) (h : gf_cg9 a0 a1 a2 = some r) : Does G if_cg9 ks_cg9 (c_cg9.args (a0, a1, a2)) [] (c_cg9.ans (a0, a1, a2) r) := by
 refine does_pn (L := [(0, .agg [.ro (List.map (eCommit false) a0.commits), .ro (List.map eHead a0.heads)]), (1, .agg [.ro (List.map (eCommit false) a1.commits), .ro (List.map eHead a1.heads)]), (2, .v (.int .i64 a2))]) (fun bs => pin) fun bs t o => ?_
 show vwp _ ib_cg9 _ _
 unfold ib_cg9
 refine w_ir ?_
 unfold gf_cg9 at h
 obtain ⟨hf26, h⟩ := gd h
 obtain ⟨q14, h29, h⟩ := bnd h
 refine go ?_;intros
 refine w_last (fun t o => ∃ q14_, q14 = .inr q14_ ∧ Pin t (ovr [] t) ∧ PinH o (ovh [] o)) ?_ ?_
 ·refine w_loop2 (fun n t o => ∃ l20 k18  b16 b17, gl_cg9_1 a0 a1 a2 l20 k18  = some q14 ∧ n = l20.length ∧ (a0.commits).drop k18 = l20 ∧ Pin t (ovr [(2, .v (.int .i64 a2)), (3, .ptr 24 b16 210 0 0), (4, .ptr 32 b17 210 0 0), (7, .v (.int .i64 (k18 : Int)))] t) ∧ PinH o (ovh [(24, ⟨b16, 1, 210, true, [[.sl false 3 (List.map (eCommit false) a0.commits), .sl false 2 (List.map eHead a0.heads)]]⟩), (32, ⟨b17, 1, 210, true, [[.sl false 3 (List.map (eCommit false) a1.commits), .sl false 2 (List.map eHead a1.heads)]]⟩)] o)) _ ⟨_, _, _, _, h29, rfl, rfl, pin, pinh⟩ ?_
  rintro n t o ⟨l20, k18, b16, b17, h29, rfl, hd21, pq1, pq2⟩
  refine pinned pq1 pq2 ?_
  cases l20 with
  | nil =>
   have hge23 := drop_ge hd21
   rw [gl_cg9_1] at h29
   refine go ?_;intros
   rw [hge23]
   refine go ?_;intros
   cases h29
   exact k_cn ⟨_, rfl, pin, pinh⟩
  | cons x19 l20 =>
   have hlt22 := drop_lt hd21
   have hx24 := drop_ix hd21
   have hw25 := drop_wr hd21 hf26
   rw [gl_cg9_1] at h29
   refine go ?_;intros
   rw [hlt22]
   obtain ⟨x27, h28, h29⟩ := bnd h29
   refine go ?_;intros
   refine c_call (c := (c_ch9 rounds)) (a0, (k18 : Int), a1, a2) H_ch9 h28 fun ch => ?_
   refine go ?_;intros
   refine w_cond rfl (fun c => ?_) (fun c => ?_)
   ·replace h29 := itt h29 c
    try rw [c]
    refine go ?_;intros
    cases h29
    replace h : some _ = some _ := h
    cases h
    exact r_end
   replace h29 := itf h29 c
   try rw [c]
   refine go ?_;intros
   rw [hw25]
   exact k_ln2 _ (Nat.lt_succ_self _) ⟨_, _, _, _, h29, rfl, drop_next hd21, pin, pinh⟩
 rintro t o ⟨q14, rfl, pq1, pq2⟩
 refine pinnedQ pq1 pq2 ?_
 refine go ?_;intros
 cases h
 exact r_end
theorem d_bw9 {G : Gam} (H_ds9 : Has G c_ds9) (H_bz9 : Has G c_bz9) (a0 : Repo) (a1 : Str) (r : Int) (h : gf_bw9 a0 a1 = some r) : Does G if_bw9 ks_bw9 (c_bw9.args (a0, a1)) [] (c_bw9.ans (a0, a1) r) := by
 refine does_pn (L := [(0, .agg [.ro (List.map (eCommit false) a0.commits), .ro (List.map eHead a0.heads)]), (1, .v (.string a1))]) (fun bs => pin) fun bs t o => ?_
 show vwp _ ib_bw9 _ _
 unfold ib_bw9
 refine w_ir ?_
 unfold gf_bw9 at h
 obtain ⟨x2, h3, h⟩ := bnd h
 refine go ?_;intros
 refine c_call (c := c_ds9) (a0, a1) H_ds9 h3 fun ch => ?_
 obtain ⟨x4, h5, h⟩ := bnd h
 refine go ?_;intros
 refine c_call (c := c_bz9) (a0) H_bz9 h5 fun ch => ?_
 refine go ?_;intros
 refine s_split rfl (fun c => ?_) (fun c => ?_)
 ·replace h := itt h c
  rw [c]
  refine go ?_;intros
  cases h
  exact r_end
 replace h := itf h c
 rw [c]
 refine go ?_;intros
 refine w_cond rfl (fun c => ?_) (fun c => ?_)
 ·replace h := itt h c
  try rw [c]
  refine go ?_;intros
  cases h
  exact r_end
 replace h := itf h c
 try rw [c]
 obtain ⟨x6, h7, h⟩ := bnd h
 refine go ?_;intros
 refine r_iro rfl rfl h7 rfl ?_
 refine go ?_;intros
 cases h
 exact r_end
theorem d_bt9 {G : Gam} (H_cj9 : Has G c_cj9) (H_ci9 : Has G c_ci9) (H_cl9 : Has G c_cl9) (a0 : (List UInt8)) (g0 : Option Addr) (g1 : Nat) (r : (Repo × Repo × Str)) (h : gf_bt9 a0 = some r) : Does G if_bt9 ks_bt9 (c_bt9.args (a0, g0, g1)) [] (c_bt9.ans (a0, g0, g1) r) := by
 refine does_pn (L := [(0, .raw g0 g1 (List.map eU8 a0))]) (fun bs => pin) fun bs t o => ?_
 show vwp _ ib_bt9 _ _
 unfold ib_bt9
 refine w_ir ?_
 unfold gf_bt9 at h
 obtain ⟨x3, h4, h⟩ := bnd h
 refine go ?_;intros
 refine c_call (c := c_cj9) (a0, g0, g1) H_cj9 h4 fun ch => ?_
 refine go ?_;intros
 refine r_frz ?_
 obtain ⟨x6, h7, h⟩ := bnd h
 refine go ?_;intros
 refine c_callg (c := c_ci9) (x3, g0, g1) H_ci9 h7 fun ch => ?_
 refine go ?_;intros
 refine c_fz ?_
 obtain ⟨x19, h20, h⟩ := bnd h
 refine go ?_;intros
 refine c_callg (c := c_cl9) ((⟨x3.b, x6.2.2⟩ : Rd), ([(⟨#[109, 97, 105, 110]⟩ : Str), (⟨#[97, 110, 110]⟩ : Str), (⟨#[98, 111, 98]⟩ : Str), (⟨#[99, 97, 116]⟩ : Str)] : (List Str)), g0, g1) H_cl9 h20 fun ch => ?_
 refine go ?_;intros
 cases h
 exact r_end
theorem d_ar9 {G : Gam} (H_ad9 : Has G c_ad9) (H_ah9 : Has G c_ah9) (H_aj9 : Has G c_aj9) (H_ap9 : Has G c_ap9) (a0 : Repo) (a1 : Repo) (a2 : Str) (r : (List Int)) (h : gf_ar9 a0 a1 a2 = some r) : Does G if_ar9 ks_ar9 (c_ar9.args (a0, a1, a2)) [] (c_ar9.ans (a0, a1, a2) r) := by
 refine does_pn (L := [(0, .agg [.ro (List.map (eCommit false) a0.commits), .ro (List.map eHead a0.heads)]), (1, .agg [.ro (List.map (eCommit false) a1.commits), .ro (List.map eHead a1.heads)]), (2, .v (.string a2))]) (fun bs => pin) fun bs t o => ?_
 show vwp _ ib_ar9 _ _
 unfold ib_ar9
 refine w_ir ?_
 unfold gf_ar9 at h
 obtain ⟨x4, h5, h⟩ := bnd h
 refine go ?_;intros
 refine c_call (c := c_ad9) (a0) H_ad9 h5 fun ch => ?_
 refine go ?_;intros
 refine s_split rfl (fun c => ?_) (fun c => ?_)
 ·replace h := itt h c
  rw [c]
  refine go ?_;intros
  cases h
  exact r_end
 replace h := itf h c
 rw [c]
 obtain ⟨x6, h7, h⟩ := bnd h
 refine go ?_;intros
 refine c_call (c := c_ad9) (a1) H_ad9 h7 fun ch => ?_
 refine go ?_;intros
 refine s_split rfl (fun c => ?_) (fun c => ?_)
 ·replace h := itt h c
  rw [c]
  refine go ?_;intros
  cases h
  exact r_end
 replace h := itf h c
 rw [c]
 obtain ⟨x8, h9, h⟩ := bnd h
 refine go ?_;intros
 refine c_call (c := c_ah9) (a1, a2) H_ah9 h9 fun ch => ?_
 refine go ?_;intros
 refine w_cond rfl (fun c => ?_) (fun c => ?_)
 ·replace h := itt h c
  try rw [c]
  refine go ?_;intros
  cases h
  exact r_end
 replace h := itf h c
 try rw [c]
 obtain ⟨x10, h11, h⟩ := bnd h
 refine go ?_;intros
 refine c_call (c := c_ah9) (a1, a2) H_ah9 h11 fun ch => ?_
 obtain ⟨x12, h13, h⟩ := bnd h
 refine go ?_;intros
 refine r_iro rfl rfl h13 rfl ?_
 obtain ⟨x14, h15, h⟩ := bnd h
 refine go ?_;intros
 refine c_call (c := c_aj9) (a1, x12.at_) H_aj9 h15 fun ch => ?_
 obtain ⟨hf73, h⟩ := gd h
 obtain ⟨q56, h83, h⟩ := bnd h
 refine go ?_;intros
 refine w_last (fun t o => ∃ b81 c82, Pin t (ovr [(7, .ref 80 b81 c82 0 q56.length 17)] t) ∧ PinH o (ovh [(80, ent b81 c82 17 (List.map eInt q56))] o)) ?_ ?_
 ·refine w_loop2 (fun n t o => ∃ l67 k65 v60 b58 b59 b61 c62 b63 c64, gl_ar9_1 a0 a1 l67 k65 v60 = some q56 ∧ n = l67.length ∧ (x14).drop k65 = l67 ∧ Pin t (ovr [(3, .ptr 24 b58 210 0 0), (4, .ptr 32 b59 210 0 0), (7, .ref 80 b61 c62 0 v60.length 17), (35, .ref 280 b63 c64 0 x14.length 33), (36, .v (.int .i64 (x14.length : Int))), (37, .v (.int .i64 (k65 : Int)))] t) ∧ PinH o (ovh [(24, ⟨b58, 1, 210, true, [[.sl false 3 (List.map (eCommit false) a0.commits), .sl false 2 (List.map eHead a0.heads)]]⟩), (32, ⟨b59, 1, 210, true, [[.sl false 3 (List.map (eCommit false) a1.commits), .sl false 2 (List.map eHead a1.heads)]]⟩), (80, ent b61 c62 17 (List.map eInt v60)), (280, ent b63 c64 33 (List.map eBool x14))] o)) _ ⟨_, _, _, _, _, _, _, _, _, h83, rfl, rfl, pin, pinh⟩ ?_
  rintro n t o ⟨l67, k65, v60, b58, b59, b61, c62, b63, c64, h83, rfl, hd68, pq1, pq2⟩
  refine pinned pq1 pq2 ?_
  cases l67 with
  | nil =>
   have hge70 := drop_ge hd68
   rw [gl_ar9_1] at h83
   refine go ?_;intros
   rw [hge70]
   refine go ?_;intros
   cases h83
   exact k_cn ⟨_, _, pin, pinh⟩
  | cons x66 l67 =>
   have hlt69 := drop_lt hd68
   have hx71 := drop_ix hd68
   have hw72 := drop_wr hd68 hf73
   rw [gl_ar9_1] at h83
   refine go ?_;intros
   rw [hlt69]
   refine go ?_;intros
   refine r_ire (xs := x14) rfl rfl hx71 rfl ?_
   refine go ?_;intros
   refine r_lde (f := eBool) (xs := x14) (x := x66) rfl rfl (idx_get hx71).2 rfl rfl rfl ?_
   refine go ?_;intros
   refine s_split rfl (fun c => ?_) (fun c => ?_)
   ·replace h83 := itt h83 c
    rw [c]
    obtain ⟨x74, h75, h83⟩ := bnd h83
    refine go ?_;intros
    refine c_call (c := c_ap9) (a0, a1, (k65 : Int)) H_ap9 h75 fun ch => ?_
    refine go ?_;intros
    refine w_cond rfl (fun c => ?_) (fun c => ?_)
    ·replace h83 := itt h83 c
     try rw [c]
     obtain ⟨h79, h83⟩ := gd h83
     refine go ?_;intros
     refine r_app (f := eInt) (xs := v60) (ys := ([(k65 : Int)] : (List Int))) rfl (src_mv rfl rfl (by first | rfl | simp)) rfl rfl (by first | rfl | simp) h79 fun b77 c78 => ?_
     refine go ?_;intros
     rw [hw72]
     exact k_ln2 _ (Nat.lt_succ_self _) ⟨_, _, _, _, _, _, _, _, _, h83, rfl, drop_next hd68, pin, pinh⟩
    replace h83 := itf h83 c
    try rw [c]
    refine go ?_;intros
    rw [hw72]
    exact k_ln2 _ (Nat.lt_succ_self _) ⟨_, _, _, _, _, _, _, _, _, h83, rfl, drop_next hd68, pin, pinh⟩
   replace h83 := itf h83 c
   rw [c]
   refine go ?_;intros
   rw [hw72]
   exact k_ln2 _ (Nat.lt_succ_self _) ⟨_, _, _, _, _, _, _, _, _, h83, rfl, drop_next hd68, pin, pinh⟩
 rintro t o ⟨b81, c82, pq1, pq2⟩
 refine pinnedQ pq1 pq2 ?_
 refine go ?_;intros
 cases h
 exact r_end
theorem d_ce9 {G : Gam} (H_bw9 : Has G c_bw9) (H_bz9 : Has G c_bz9) (H_du9 : Has G c_du9) (H_cg9 : Has G c_cg9) (a0 : Repo) (a1 : Repo) (a2 : Str) (r : (List Int)) (h : gf_ce9 a0 a1 a2 = some r) : Does G if_ce9 ks_ce9 (c_ce9.args (a0, a1, a2)) [] (c_ce9.ans (a0, a1, a2) r) := by
 refine does_pn (L := [(0, .agg [.ro (List.map (eCommit false) a0.commits), .ro (List.map eHead a0.heads)]), (1, .agg [.ro (List.map (eCommit false) a1.commits), .ro (List.map eHead a1.heads)]), (2, .v (.string a2))]) (fun bs => pin) fun bs t o => ?_
 show vwp _ ib_ce9 _ _
 unfold ib_ce9
 refine w_ir ?_
 unfold gf_ce9 at h
 obtain ⟨x4, h5, h⟩ := bnd h
 refine go ?_;intros
 refine c_call (c := c_bw9) (a1, a2) H_bw9 h5 fun ch => ?_
 obtain ⟨x6, h7, h⟩ := bnd h
 refine go ?_;intros
 refine c_call (c := c_bz9) (a0) H_bz9 h7 fun ch => ?_
 refine go ?_;intros
 refine s_split rfl (fun c => ?_) (fun c => ?_)
 ·replace h := itt h c
  rw [c]
  refine go ?_;intros
  cases h
  exact r_end
 replace h := itf h c
 rw [c]
 refine go ?_;intros
 refine w_cond rfl (fun c => ?_) (fun c => ?_)
 ·replace h := itt h c
  try rw [c]
  refine go ?_;intros
  cases h
  exact r_end
 replace h := itf h c
 try rw [c]
 obtain ⟨x9, h10, h⟩ := bnd h
 refine go ?_;intros
 refine c_call (c := c_du9) (a1, ([x4] : (List Int))) H_du9 h10 fun ch => ?_
 obtain ⟨hf68, h⟩ := gd h
 obtain ⟨q51, h80, h⟩ := bnd h
 refine go ?_;intros
 refine w_last (fun t o => ∃ b78 c79, Pin t (ovr [(7, .ref 88 b78 c79 0 q51.length 17)] t) ∧ PinH o (ovh [(88, ent b78 c79 17 (List.map eInt q51))] o)) ?_ ?_
 ·refine w_loop2 (fun n t o => ∃ l62 k60 v55 b53 b54 b56 c57 b58 c59, gl_ce9_1 x9 a0 a1 l62 k60 v55 = some q51 ∧ n = l62.length ∧ (a1.commits).drop k60 = l62 ∧ Pin t (ovr [(3, .ptr 24 b53 210 0 0), (4, .ptr 32 b54 210 0 0), (7, .ref 88 b56 c57 0 v55.length 17), (9, .ref 208 b58 c59 0 x9.length 33), (10, .v (.int .i64 (k60 : Int)))] t) ∧ PinH o (ovh [(24, ⟨b53, 1, 210, true, [[.sl false 3 (List.map (eCommit false) a0.commits), .sl false 2 (List.map eHead a0.heads)]]⟩), (32, ⟨b54, 1, 210, true, [[.sl false 3 (List.map (eCommit false) a1.commits), .sl false 2 (List.map eHead a1.heads)]]⟩), (88, ent b56 c57 17 (List.map eInt v55)), (208, ent b58 c59 33 (List.map eBool x9))] o)) _ ⟨_, _, _, _, _, _, _, _, _, h80, rfl, rfl, pin, pinh⟩ ?_
  rintro n t o ⟨l62, k60, v55, b53, b54, b56, c57, b58, c59, h80, rfl, hd63, pq1, pq2⟩
  refine pinned pq1 pq2 ?_
  cases l62 with
  | nil =>
   have hge65 := drop_ge hd63
   rw [gl_ce9_1] at h80
   refine go ?_;intros
   rw [hge65]
   refine go ?_;intros
   cases h80
   exact k_cn ⟨_, _, pin, pinh⟩
  | cons x61 l62 =>
   have hlt64 := drop_lt hd63
   have hx66 := drop_ix hd63
   have hw67 := drop_wr hd63 hf68
   rw [gl_ce9_1] at h80
   refine go ?_;intros
   rw [hlt64]
   obtain ⟨x69, h70, h80⟩ := bnd h80
   refine go ?_;intros
   refine r_ire (xs := x9) rfl rfl h70 rfl ?_
   refine go ?_;intros
   refine r_lde (f := eBool) (xs := x9) (x := x69) rfl rfl (idx_get h70).2 rfl rfl rfl ?_
   refine go ?_;intros
   refine s_split rfl (fun c => ?_) (fun c => ?_)
   ·replace h80 := itt h80 c
    rw [c]
    obtain ⟨x71, h72, h80⟩ := bnd h80
    refine go ?_;intros
    refine c_call (c := c_cg9) (a0, a1, (k60 : Int)) H_cg9 h72 fun ch => ?_
    refine go ?_;intros
    refine w_cond rfl (fun c => ?_) (fun c => ?_)
    ·replace h80 := itt h80 c
     try rw [c]
     obtain ⟨h76, h80⟩ := gd h80
     refine go ?_;intros
     refine r_app (f := eInt) (xs := v55) (ys := ([(k60 : Int)] : (List Int))) rfl (src_mv rfl rfl (by first | rfl | simp)) rfl rfl (by first | rfl | simp) h76 fun b74 c75 => ?_
     refine go ?_;intros
     rw [hw67]
     exact k_ln2 _ (Nat.lt_succ_self _) ⟨_, _, _, _, _, _, _, _, _, h80, rfl, drop_next hd63, pin, pinh⟩
    replace h80 := itf h80 c
    try rw [c]
    refine go ?_;intros
    rw [hw67]
    exact k_ln2 _ (Nat.lt_succ_self _) ⟨_, _, _, _, _, _, _, _, _, h80, rfl, drop_next hd63, pin, pinh⟩
   replace h80 := itf h80 c
   rw [c]
   refine go ?_;intros
   rw [hw67]
   exact k_ln2 _ (Nat.lt_succ_self _) ⟨_, _, _, _, _, _, _, _, _, h80, rfl, drop_next hd63, pin, pinh⟩
 rintro t o ⟨b78, c79, pq1, pq2⟩
 refine pinnedQ pq1 pq2 ?_
 refine go ?_;intros
 cases h
 exact r_end
theorem d_at9 {G : Gam} (H_ad9 : Has G c_ad9) (H_ah9 : Has G c_ah9) (H_as9 : Has G c_as9) (H_ay9 : Has G c_ay9) (H_ap9 : Has G c_ap9) (H_ar9 : Has G c_ar9) (H_aw9 : Has G c_aw9) (H_aj9 : Has G c_aj9) (a0 : Repo) (a1 : Repo) (a2 : Str) (r : (Repo × Int)) (h : gf_at9 a0 a1 a2 = some r) : Does G if_at9 ks_at9 (c_at9.args (a0, a1, a2)) [] (c_at9.ans (a0, a1, a2) r) := by
 refine does_pn (L := [(0, .agg [.ro (List.map (eCommit false) a0.commits), .ro (List.map eHead a0.heads)]), (1, .agg [.ro (List.map (eCommit false) a1.commits), .ro (List.map eHead a1.heads)]), (2, .v (.string a2))]) (fun bs => pin) fun bs t o => ?_
 show vwp _ ib_at9 _ _
 unfold ib_at9
 refine w_ir ?_
 unfold gf_at9 at h
 obtain ⟨x4, h5, h⟩ := bnd h
 refine go ?_;intros
 refine c_call (c := c_ad9) (a0) H_ad9 h5 fun ch => ?_
 refine go ?_;intros
 refine s_split rfl (fun c => ?_) (fun c => ?_)
 ·replace h := itt h c
  rw [c]
  refine go ?_;intros
  cases h
  exact r_end
 replace h := itf h c
 rw [c]
 obtain ⟨x6, h7, h⟩ := bnd h
 refine go ?_;intros
 refine c_call (c := c_ad9) (a1) H_ad9 h7 fun ch => ?_
 refine go ?_;intros
 refine w_cond rfl (fun c => ?_) (fun c => ?_)
 ·replace h := itt h c
  try rw [c]
  refine go ?_;intros
  cases h
  exact r_end
 replace h := itf h c
 try rw [c]
 obtain ⟨x8, h9, h⟩ := bnd h
 refine go ?_;intros
 refine c_call (c := c_ah9) (a1, a2) H_ah9 h9 fun ch => ?_
 obtain ⟨q10, h700, h⟩ := bnd h
 refine go ?_;intros
 refine w_cut (fun t o => ∃ b14 b15 b16 c17 b18 c19 b20, Pin t (ovr [(2, .v (.string a2)), (3, .ptr 24 b14 210 0 0), (4, .ptr 32 b15 210 0 0), (6, .ptr 48 b20 210 0 0), (8, .v (.int .i64 x8)), (38, .v (.bool q10))] t) ∧ PinH o (ovh [(24, ⟨b14, 1, 210, true, [[.sl false 3 (List.map (eCommit false) a0.commits), .sl false 2 (List.map eHead a0.heads)]]⟩), (32, ⟨b15, 1, 210, true, [[.sl false 3 (List.map (eCommit false) a1.commits), .sl false 2 (List.map eHead a1.heads)]]⟩), (1000768, ent b16 c17 115 (List.map (eCommit true) [])), (1000769, ent b18 c19 130 (List.map eHead [])), (48, ⟨b20, 1, 210, true, [[.al 1000768 b16 c17 0 ([] : List Commit).length 115, .al 1000769 b18 c19 0 ([] : List Head).length 130]]⟩)] o)) ?_ ?_
 ·refine go ?_;intros
  refine s_split rfl (fun c => ?_) (fun c => ?_)
  ·replace h700 := itt h700 c
   rw [c]
   refine go ?_;intros
   cases h700
   exact k_cn ⟨_, _, _, _, _, _, _, pin, pinh⟩
  replace h700 := itf h700 c
  rw [c]
  obtain ⟨x11, h12, h700⟩ := bnd h700
  refine go ?_;intros
  refine c_call (c := c_as9) (a0, 0, a1, 0) H_as9 h12 fun ch => ?_
  refine go ?_;intros
  cases h700
  exact k_cn ⟨_, _, _, _, _, _, _, pin, pinh⟩
 rintro t o ⟨b14, b15, b16, c17, b18, c19, b20, pq1, pq2⟩
 refine pinned pq1 pq2 ?_
 refine go ?_;intros
 refine w_cond rfl (fun c => ?_) (fun c => ?_)
 ·replace h := itt h c
  try rw [c]
  obtain ⟨x21, h22, h⟩ := bnd h
  refine go ?_;intros
  refine c_call (c := c_ay9) (a0) H_ay9 h22 fun ch => ?_
  refine go ?_;intros
  cases h
  exact r_end
 replace h := itf h c
 try rw [c]
 obtain ⟨x27, h28, h⟩ := bnd h
 refine go ?_;intros
 refine c_call (c := c_ay9) (a0) H_ay9 h28 fun ch => ?_
 refine go ?_;intros
 refine r_mnew fun b34 => ?_
 obtain ⟨hf93, h⟩ := gd h
 obtain ⟨q69, h701, h⟩ := bnd h
 refine go ?_;intros
 refine w_last (fun t o => ∃ b96 b97 b98 c99 b100 c101 b102 b103 c104 b105 c106 b107 b109, Pin t (ovr [(2, .v (.string a2)), (3, .ptr 24 b96 210 0 0), (4, .ptr 32 b97 210 0 0), (6, .ptr 48 b102 210 0 0), (8, .v (.int .i64 x8)), (9, .ptr 72 b107 210 0 0), (10, .v (.map (some b109)))] t) ∧ PinH o (ovh [(24, ⟨b96, 1, 210, true, [[.sl false 3 (List.map (eCommit false) a0.commits), .sl false 2 (List.map eHead a0.heads)]]⟩), (32, ⟨b97, 1, 210, true, [[.sl false 3 (List.map (eCommit false) a1.commits), .sl false 2 (List.map eHead a1.heads)]]⟩), (1000768, ent b98 c99 115 (List.map (eCommit true) [])), (1000769, ent b100 c101 130 (List.map eHead [])), (48, ⟨b102, 1, 210, true, [[.al 1000768 b98 c99 0 ([] : List Commit).length 115, .al 1000769 b100 c101 0 ([] : List Head).length 130]]⟩), (1001152, ent b103 c104 115 (List.map (eCommit true) x27.commits)), (1001153, ent b105 c106 130 (List.map eHead x27.heads)), (72, ⟨b107, 1, 210, true, [[.al 1001152 b103 c104 0 x27.commits.length 115, .al 1001153 b105 c106 0 x27.heads.length 130]]⟩), (344, mapent b109 q69)] o)) ?_ ?_
 ·refine w_loop2 (fun n t o => ∃ l87 k85 v83 b71 b72 b73 c74 b75 c76 b77 b78 c79 b80 c81 b82 b84, gl_at9_1 a0 a1 l87 k85 v83 = some q69 ∧ n = l87.length ∧ (a1.commits).drop k85 = l87 ∧ Pin t (ovr [(2, .v (.string a2)), (3, .ptr 24 b71 210 0 0), (4, .ptr 32 b72 210 0 0), (6, .ptr 48 b77 210 0 0), (8, .v (.int .i64 x8)), (9, .ptr 72 b82 210 0 0), (10, .v (.map (some b84))), (46, .v (.int .i64 (a1.commits.length : Int))), (47, .v (.int .i64 (k85 : Int)))] t) ∧ PinH o (ovh [(24, ⟨b71, 1, 210, true, [[.sl false 3 (List.map (eCommit false) a0.commits), .sl false 2 (List.map eHead a0.heads)]]⟩), (32, ⟨b72, 1, 210, true, [[.sl false 3 (List.map (eCommit false) a1.commits), .sl false 2 (List.map eHead a1.heads)]]⟩), (1000768, ent b73 c74 115 (List.map (eCommit true) [])), (1000769, ent b75 c76 130 (List.map eHead [])), (48, ⟨b77, 1, 210, true, [[.al 1000768 b73 c74 0 ([] : List Commit).length 115, .al 1000769 b75 c76 0 ([] : List Head).length 130]]⟩), (1001152, ent b78 c79 115 (List.map (eCommit true) x27.commits)), (1001153, ent b80 c81 130 (List.map eHead x27.heads)), (72, ⟨b82, 1, 210, true, [[.al 1001152 b78 c79 0 x27.commits.length 115, .al 1001153 b80 c81 0 x27.heads.length 130]]⟩), (344, mapent b84 v83)] o)) _ ⟨_, _, _, _, _, _, _, _, _, _, _, _, _, _, _, _, h701, rfl, rfl, pin, pinh⟩ ?_
  rintro n t o ⟨l87, k85, v83, b71, b72, b73, c74, b75, c76, b77, b78, c79, b80, c81, b82, b84, h701, rfl, hd88, pq1, pq2⟩
  refine pinned pq1 pq2 ?_
  cases l87 with
  | nil =>
   have hge90 := drop_ge hd88
   rw [gl_at9_1] at h701
   refine go ?_;intros
   rw [hge90]
   refine go ?_;intros
   cases h701
   exact k_cn ⟨_, _, _, _, _, _, _, _, _, _, _, _, _, pin, pinh⟩
  | cons x86 l87 =>
   have hlt89 := drop_lt hd88
   have hx91 := drop_ix hd88
   have hw92 := drop_wr hd88 hf93
   rw [gl_at9_1] at h701
   refine go ?_;intros
   rw [hlt89]
   obtain ⟨x94, h95, h701⟩ := bnd h701
   refine go ?_;intros
   refine c_call (c := c_ap9) (a0, a1, (k85 : Int)) H_ap9 h95 fun ch => ?_
   refine go ?_;intros
   refine r_mset rfl rfl rfl rfl ?_
   refine go ?_;intros
   rw [hw92]
   exact k_ln2 _ (Nat.lt_succ_self _) ⟨_, _, _, _, _, _, _, _, _, _, _, _, _, _, _, _, h701, rfl, drop_next hd88, pin, pinh⟩
 rintro t o ⟨b96, b97, b98, c99, b100, c101, b102, b103, c104, b105, c106, b107, b109, pq1, pq2⟩
 refine pinnedQ pq1 pq2 ?_
 obtain ⟨x110, h111, h⟩ := bnd h
 refine go ?_;intros
 refine c_call (c := c_ar9) (a0, a1, a2) H_ar9 h111 fun ch => ?_
 obtain ⟨hf528, h⟩ := gd h
 obtain ⟨q501, h702, h⟩ := bnd h
 refine go ?_;intros
 refine w_last (fun t o => ∃ b645 b646 b647 c648 b649 c650 b651 b653 c654 b655 c656 b657 b659, Pin t (ovr [(2, .v (.string a2)), (3, .ptr 24 b645 210 0 0), (4, .ptr 32 b646 210 0 0), (6, .ptr 48 b651 210 0 0), (8, .v (.int .i64 x8)), (9, .ptr 72 b657 210 0 0), (10, .v (.map (some b659)))] t) ∧ PinH o (ovh [(24, ⟨b645, 1, 210, true, [[.sl false 3 (List.map (eCommit false) a0.commits), .sl false 2 (List.map eHead a0.heads)]]⟩), (32, ⟨b646, 1, 210, true, [[.sl false 3 (List.map (eCommit false) a1.commits), .sl false 2 (List.map eHead a1.heads)]]⟩), (1000768, ent b647 c648 115 (List.map (eCommit true) [])), (1000769, ent b649 c650 130 (List.map eHead [])), (48, ⟨b651, 1, 210, true, [[.al 1000768 b647 c648 0 ([] : List Commit).length 115, .al 1000769 b649 c650 0 ([] : List Head).length 130]]⟩), (1001152, ent b653 c654 115 (List.map (eCommit true) q501.1)), (1001153, ent b655 c656 130 (List.map eHead x27.heads)), (72, ⟨b657, 1, 210, true, [[.al 1001152 b653 c654 0 q501.1.length 115, .al 1001153 b655 c656 0 x27.heads.length 130]]⟩), (344, mapent b659 q501.2)] o)) ?_ ?_
 ·refine w_loop2 (fun n t o => ∃ l522 k520 v510 v516 b503 b504 b505 c506 b507 c508 b509 b511 c512 b513 c514 b515 b517 b518 c519, gl_at9_5 a1 l522 k520 v510 v516 = some q501 ∧ n = l522.length ∧ (x110).drop k520 = l522 ∧ Pin t (ovr [(2, .v (.string a2)), (3, .ptr 24 b503 210 0 0), (4, .ptr 32 b504 210 0 0), (6, .ptr 48 b509 210 0 0), (8, .v (.int .i64 x8)), (9, .ptr 72 b515 210 0 0), (10, .v (.map (some b517))), (60, .ref 480 b518 c519 0 x110.length 17), (61, .v (.int .i64 (x110.length : Int))), (62, .v (.int .i64 (k520 : Int)))] t) ∧ PinH o (ovh [(24, ⟨b503, 1, 210, true, [[.sl false 3 (List.map (eCommit false) a0.commits), .sl false 2 (List.map eHead a0.heads)]]⟩), (32, ⟨b504, 1, 210, true, [[.sl false 3 (List.map (eCommit false) a1.commits), .sl false 2 (List.map eHead a1.heads)]]⟩), (1000768, ent b505 c506 115 (List.map (eCommit true) [])), (1000769, ent b507 c508 130 (List.map eHead [])), (48, ⟨b509, 1, 210, true, [[.al 1000768 b505 c506 0 ([] : List Commit).length 115, .al 1000769 b507 c508 0 ([] : List Head).length 130]]⟩), (1001152, ent b511 c512 115 (List.map (eCommit true) v510)), (1001153, ent b513 c514 130 (List.map eHead x27.heads)), (72, ⟨b515, 1, 210, true, [[.al 1001152 b511 c512 0 v510.length 115, .al 1001153 b513 c514 0 x27.heads.length 130]]⟩), (344, mapent b517 v516), (480, ent b518 c519 17 (List.map eInt x110))] o)) _ ⟨_, _, _, _, _, _, _, _, _, _, _, _, _, _, _, _, _, _, _, h702, rfl, rfl, pin, pinh⟩ ?_
  rintro n t o ⟨l522, k520, v510, v516, b503, b504, b505, c506, b507, c508, b509, b511, c512, b513, c514, b515, b517, b518, c519, h702, rfl, hd523, pq1, pq2⟩
  refine pinned pq1 pq2 ?_
  cases l522 with
  | nil =>
   have hge525 := drop_ge hd523
   rw [gl_at9_5] at h702
   refine go ?_;intros
   rw [hge525]
   refine go ?_;intros
   cases h702
   exact k_cn ⟨_, _, _, _, _, _, _, _, _, _, _, _, _, pin, pinh⟩
  | cons x521 l522 =>
   have hlt524 := drop_lt hd523
   have hx526 := drop_ix hd523
   have hw527 := drop_wr hd523 hf528
   rw [gl_at9_5] at h702
   refine go ?_;intros
   rw [hlt524]
   refine go ?_;intros
   refine r_ire (xs := x110) rfl rfl hx526 rfl ?_
   refine go ?_;intros
   refine r_lde (f := eInt) (xs := x110) (x := x521) rfl rfl (idx_get hx526).2 rfl rfl rfl ?_
   obtain ⟨x529, h530, h702⟩ := bnd h702
   refine go ?_;intros
   refine r_iro rfl rfl h530 rfl ?_
   obtain ⟨x531, h532, h702⟩ := bnd h702
   refine go ?_;intros
   refine c_call (c := c_aw9) (x529) H_aw9 h532 fun ch => ?_
   obtain ⟨hf617, h702⟩ := gd h702
   obtain ⟨q586, h703, h702⟩ := bnd h702
   refine go ?_;intros
   refine w_last (fun t o => ∃ b620 b621 b622 c623 b624 c625 b626 b627 c628 b629 c630 b631 b632 b634 c635 b636 c637 b638 b639 c640, Pin t (ovr [(2, .v (.string a2)), (3, .ptr 24 b620 210 0 0), (4, .ptr 32 b621 210 0 0), (6, .ptr 48 b626 210 0 0), (8, .v (.int .i64 x8)), (9, .ptr 72 b631 210 0 0), (10, .v (.map (some b632))), (13, .v (.int .i64 x521)), (14, .ptr 112 b638 115 0 0), (60, .ref 480 b639 c640 0 x110.length 17), (61, .v (.int .i64 (x110.length : Int))), (62, .v (.int .i64 (k520 : Int)))] t) ∧ PinH o (ovh [(24, ⟨b620, 1, 210, true, [[.sl false 3 (List.map (eCommit false) a0.commits), .sl false 2 (List.map eHead a0.heads)]]⟩), (32, ⟨b621, 1, 210, true, [[.sl false 3 (List.map (eCommit false) a1.commits), .sl false 2 (List.map eHead a1.heads)]]⟩), (1000768, ent b622 c623 115 (List.map (eCommit true) [])), (1000769, ent b624 c625 130 (List.map eHead [])), (48, ⟨b626, 1, 210, true, [[.al 1000768 b622 c623 0 ([] : List Commit).length 115, .al 1000769 b624 c625 0 ([] : List Head).length 130]]⟩), (1001152, ent b627 c628 115 (List.map (eCommit true) v510)), (1001153, ent b629 c630 130 (List.map eHead x27.heads)), (72, ⟨b631, 1, 210, true, [[.al 1001152 b627 c628 0 v510.length 115, .al 1001153 b629 c630 0 x27.heads.length 130]]⟩), (344, mapent b632 v516), (1001792, ent b634 c635 17 (List.map eInt q586)), (1001793, ent b636 c637 100 (List.map (eFeat true) x531.sheet)), (112, ⟨b638, 1, 115, true, [[.al 1001792 b634 c635 0 q586.length 17, .al 1001793 b636 c637 0 x531.sheet.length 100, .v (.string x531.note)]]⟩), (480, ent b639 c640 17 (List.map eInt x110))] o)) ?_ ?_
   ·refine w_loop2 (fun n t o => ∃ l611 k609 v601 b588 b589 b590 c591 b592 c593 b594 b595 c596 b597 c598 b599 b600 b602 c603 b604 c605 b606 b607 c608, gl_at9_6 v516 l611 k609 v601 = some q586 ∧ n = l611.length ∧ (x531.up).drop k609 = l611 ∧ Pin t (ovr [(2, .v (.string a2)), (3, .ptr 24 b588 210 0 0), (4, .ptr 32 b589 210 0 0), (6, .ptr 48 b594 210 0 0), (8, .v (.int .i64 x8)), (9, .ptr 72 b599 210 0 0), (10, .v (.map (some b600))), (13, .v (.int .i64 x521)), (14, .ptr 112 b606 115 0 0), (60, .ref 480 b607 c608 0 x110.length 17), (61, .v (.int .i64 (x110.length : Int))), (62, .v (.int .i64 (k520 : Int))), (73, .ref 1001792 b602 c603 0 v601.length 17), (74, .v (.int .i64 (x531.up.length : Int))), (75, .v (.int .i64 (k609 : Int)))] t) ∧ PinH o (ovh [(24, ⟨b588, 1, 210, true, [[.sl false 3 (List.map (eCommit false) a0.commits), .sl false 2 (List.map eHead a0.heads)]]⟩), (32, ⟨b589, 1, 210, true, [[.sl false 3 (List.map (eCommit false) a1.commits), .sl false 2 (List.map eHead a1.heads)]]⟩), (1000768, ent b590 c591 115 (List.map (eCommit true) [])), (1000769, ent b592 c593 130 (List.map eHead [])), (48, ⟨b594, 1, 210, true, [[.al 1000768 b590 c591 0 ([] : List Commit).length 115, .al 1000769 b592 c593 0 ([] : List Head).length 130]]⟩), (1001152, ent b595 c596 115 (List.map (eCommit true) v510)), (1001153, ent b597 c598 130 (List.map eHead x27.heads)), (72, ⟨b599, 1, 210, true, [[.al 1001152 b595 c596 0 v510.length 115, .al 1001153 b597 c598 0 x27.heads.length 130]]⟩), (344, mapent b600 v516), (1001792, ent b602 c603 17 (List.map eInt v601)), (1001793, ent b604 c605 100 (List.map (eFeat true) x531.sheet)), (112, ⟨b606, 1, 115, true, [[.al 1001792 b602 c603 0 v601.length 17, .al 1001793 b604 c605 0 x531.sheet.length 100, .v (.string x531.note)]]⟩), (480, ent b607 c608 17 (List.map eInt x110))] o)) _ ⟨_, _, _, _, _, _, _, _, _, _, _, _, _, _, _, _, _, _, _, _, _, _, _, h703, rfl, rfl, pin, pinh⟩ ?_
    rintro n t o ⟨l611, k609, v601, b588, b589, b590, c591, b592, c593, b594, b595, c596, b597, c598, b599, b600, b602, c603, b604, c605, b606, b607, c608, h703, rfl, hd612, pq1, pq2⟩
    refine pinned pq1 pq2 ?_
    cases l611 with
    | nil =>
     have hge614 := drop_ge hd612
     rw [gl_at9_6] at h703
     refine go ?_;intros
     rw [hge614]
     refine go ?_;intros
     cases h703
     exact k_cn ⟨_, _, _, _, _, _, _, _, _, _, _, _, _, _, _, _, _, _, _, _, pin, pinh⟩
    | cons x610 l611 =>
     have hlt613 := drop_lt hd612
     have hx615 := drop_ix hd612
     have hw616 := drop_wr hd612 hf617
     rw [gl_at9_6] at h703
     refine go ?_;intros
     rw [hlt613]
     obtain ⟨x618, h619, h703⟩ := bnd h703
     refine go ?_;intros
     refine r_ire (xs := v601) rfl rfl h619 rfl ?_
     refine go ?_;intros
     refine r_lde (f := eInt) (xs := v601) (x := x618) rfl rfl (idx_get h619).2 rfl rfl rfl ?_
     refine go ?_;intros
     refine r_mget rfl rfl rfl ?_
     refine go ?_;intros
     refine r_ire (xs := v601) rfl rfl h619 rfl ?_
     refine go ?_;intros
     refine c_ste (f := eInt) v601 (mget v516 x618) (idx_get h619).2 ?_
     refine go ?_;intros
     rw [hw616]
     exact k_ln2 _ (Nat.lt_succ_self _) ⟨_, _, _, _, _, _, _, _, _, _, _, _, _, _, _, _, _, _, _, _, _, _, _, h703, rfl, drop_next hd612, pin, pinh⟩
   rintro t o ⟨b620, b621, b622, c623, b624, c625, b626, b627, c628, b629, c630, b631, b632, b634, c635, b636, c637, b638, b639, c640, pq1, pq2⟩
   refine pinnedQ pq1 pq2 ?_
   refine go ?_;intros
   refine r_mset rfl rfl rfl rfl ?_
   refine go ?_;intros
   try simp only [take_map_len, take_ent]
   obtain ⟨h644, h702⟩ := gd h702
   refine go ?_;intros
   refine r_app (f := (eCommit true)) (xs := v510) (ys := ([(⟨q586, x531.sheet, x531.note⟩ : Commit)] : (List Commit))) rfl (src_mv rfl rfl (by first | rfl | simp)) rfl rfl (by first | rfl | simp) h644 fun b642 c643 => ?_
   refine go ?_;intros
   rw [hw527]
   exact k_ln2 _ (Nat.lt_succ_self _) ⟨_, _, _, _, _, _, _, _, _, _, _, _, _, _, _, _, _, _, _, h702, rfl, drop_next hd523, pin, pinh⟩
 rintro t o ⟨b645, b646, b647, c648, b649, c650, b651, b653, c654, b655, c656, b657, b659, pq1, pq2⟩
 refine pinnedQ pq1 pq2 ?_
 obtain ⟨x660, h661, h⟩ := bnd h
 refine go ?_;intros
 refine r_iro rfl rfl h661 rfl ?_
 refine go ?_;intros
 refine r_mget rfl rfl rfl ?_
 refine go ?_;intros
 refine w_cond rfl (fun c => ?_) (fun c => ?_)
 ·replace h := itt h (by first | exact c | (have c2 := c; simp only [List.length_map] at c2; exact c2))
  try rw [c]
  obtain ⟨x662, h663, h⟩ := bnd h
  refine go ?_;intros
  refine c_call (c := c_ay9) (a0) H_ay9 h663 fun ch => ?_
  refine go ?_;intros
  cases h
  exact r_end
 replace h := itf h (by first | exact c | (have c2 := c; simp only [List.length_map] at c2; exact c2))
 try rw [c]
 obtain ⟨x668, h669, h⟩ := bnd h
 refine go ?_;intros
 refine c_call (c := c_ah9) ((⟨q501.1, x27.heads⟩ : Repo), a2) H_ah9 h669 fun ch => ?_
 refine go ?_;intros
 refine w_cond rfl (fun c => ?_) (fun c => ?_)
 ·replace h := itt h c
  try rw [c]
  refine go ?_;intros
  refine w_cond rfl (fun c => ?_) (fun c => ?_)
  ·replace h := itt h (by first | exact c | (have c2 := c; simp only [List.length_map] at c2; exact c2))
   try rw [c]
   obtain ⟨x670, h671, h⟩ := bnd h
   refine go ?_;intros
   refine c_call (c := c_ay9) (a0) H_ay9 h671 fun ch => ?_
   refine go ?_;intros
   cases h
   exact r_end
  replace h := itf h (by first | exact c | (have c2 := c; simp only [List.length_map] at c2; exact c2))
  try rw [c]
  obtain ⟨h679, h⟩ := gd h
  refine go ?_;intros
  refine r_app (f := eHead) (xs := x27.heads) (ys := ([(⟨a2, (mget q501.2 x660.at_)⟩ : Head)] : (List Head))) rfl (src_mv rfl rfl (by first | rfl | simp)) rfl rfl (by first | rfl | simp) h679 fun b677 c678 => ?_
  refine go ?_;intros
  cases h
  exact r_end
 replace h := itf h c
 try rw [c]
 obtain ⟨x680, h681, h⟩ := bnd h
 refine go ?_;intros
 refine r_ire (xs := x27.heads) rfl rfl h681 rfl ?_
 refine go ?_;intros
 refine r_lde (f := eHead) (xs := x27.heads) (x := x680) rfl rfl (idx_get h681).2 rfl rfl rfl ?_
 obtain ⟨x682, h683, h⟩ := bnd h
 refine go ?_;intros
 refine c_call (c := c_aj9) ((⟨q501.1, x27.heads⟩ : Repo), x680.at_) H_aj9 h683 fun ch => ?_
 obtain ⟨x686, h687, h⟩ := bnd h
 refine go ?_;intros
 refine r_ire (xs := x682) rfl rfl h687 rfl ?_
 refine go ?_;intros
 refine r_lde (f := eBool) (xs := x682) (x := x686) rfl rfl (idx_get h687).2 rfl rfl rfl ?_
 refine go ?_;intros
 refine w_cond rfl (fun c => ?_) (fun c => ?_)
 ·replace h := itt h c
  try rw [c]
  refine go ?_;intros
  cases h
  exact r_end
 replace h := itf h c
 try rw [c]
 obtain ⟨x688, h689, h⟩ := bnd h
 refine go ?_;intros
 refine c_call (c := c_aj9) ((⟨q501.1, x27.heads⟩ : Repo), (mget q501.2 x660.at_)) H_aj9 h689 fun ch => ?_
 refine go ?_;intros
 refine r_ire (xs := x27.heads) rfl rfl h681 rfl ?_
 refine go ?_;intros
 refine r_lde (f := eHead) (xs := x27.heads) (x := x680) rfl rfl (idx_get h681).2 rfl rfl rfl ?_
 obtain ⟨x692, h693, h⟩ := bnd h
 refine go ?_;intros
 refine r_ire (xs := x688) rfl rfl h693 rfl ?_
 refine go ?_;intros
 refine r_lde (f := eBool) (xs := x688) (x := x692) rfl rfl (idx_get h693).2 rfl rfl rfl ?_
 refine go ?_;intros
 refine w_cond rfl (fun c => ?_) (fun c => ?_)
 ·replace h := itt h c
  try rw [c]
  refine go ?_;intros
  refine r_ire (xs := x27.heads) rfl rfl h681 rfl ?_
  refine go ?_;intros
  refine c_ste (f := eHead) x27.heads (⟨x680.name, (mget q501.2 x660.at_)⟩ : Head) (idx_get h681).2 ?_
  refine go ?_;intros
  cases h
  exact r_end
 replace h := itf h c
 try rw [c]
 obtain ⟨x694, h695, h⟩ := bnd h
 refine go ?_;intros
 refine c_call (c := c_ay9) (a0) H_ay9 h695 fun ch => ?_
 refine go ?_;intros
 cases h
 exact r_end
end Go.Proofs.AM
