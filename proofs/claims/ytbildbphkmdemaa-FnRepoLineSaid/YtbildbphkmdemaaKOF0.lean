/- Lemmas of the proof (KOF0), on an abstract machine. Conditions: none. -/
import Derived.Test.YtbildbphkmdemaaKOD
set_option linter.unusedVariables false
set_option linter.unusedSimpArgs false
set_option maxRecDepth 100000
set_option maxHeartbeats 4000000
namespace Go.Proofs.AM
attribute [local irreducible] vwp vstps vstpLs vstp vdo vret kseq kblk kloop kend kcut kloop2 frzV renV shutK pfzV trnV unrV
theorem d_cz9 {G : Gam}  (a0 : Int) (r : Bool) (h : gf_cz9 a0 = some r) : Does G if_cz9 ks_cz9 (c_cz9.args (a0)) [] (c_cz9.ans (a0) r) := by
 refine does_pn (L := [(0, .v (.int .i64 a0))]) (fun bs => pin) fun bs t o => ?_
 show vwp _ ib_cz9 _ _
 unfold ib_cz9
 refine w_ir ?_
 unfold gf_cz9 at h
 refine go ?_;intros
 refine s_split rfl (fun c => ?_) (fun c => ?_)
 ·replace h := itt h c
  rw [c]
  refine go ?_;intros
  cases h
  exact r_end
 replace h := itf h c
 rw [c]
 refine go ?_;intros
 cases h
 exact r_end
theorem d_db9 {G : Gam} (H_cz9 : Has G c_cz9) (a0 : (List Pt)) (r : Bool) (h : gf_db9 a0 = some r) : Does G if_db9 ks_db9 (c_db9.args (a0)) [] (c_db9.ans (a0) r) := by
 refine does_pn (L := [(0, .ro (List.map ePt a0))]) (fun bs => pin) fun bs t o => ?_
 show vwp _ ib_db9 _ _
 unfold ib_db9
 refine w_ir ?_
 unfold gf_db9 at h
 obtain ⟨hf34, h⟩ := gd h
 obtain ⟨q24, h41, h⟩ := bnd h
 refine go ?_;intros
 refine w_last (fun t o => ∃ q24_, q24 = .inr q24_ ∧ Pin t (ovr [(0, .ro (List.map ePt a0))] t) ∧ PinH o (ovh [] o)) ?_ ?_
 ·refine w_loop2 (fun n t o => ∃ l28 k26  , gl_db9_1 a0 l28 k26  = some q24 ∧ n = l28.length ∧ (a0).drop k26 = l28 ∧ Pin t (ovr [(0, .ro (List.map ePt a0)), (3, .v (.int .i64 (k26 : Int)))] t) ∧ PinH o (ovh [] o)) _ ⟨_, _, h41, rfl, rfl, pin, pinh⟩ ?_
  rintro n t o ⟨l28, k26, h41, rfl, hd29, pq1, pq2⟩
  refine pinned pq1 pq2 ?_
  cases l28 with
  | nil =>
   have hge31 := drop_ge hd29
   rw [gl_db9_1] at h41
   refine go ?_;intros
   rw [hge31]
   refine go ?_;intros
   cases h41
   exact k_cn ⟨_, rfl, pin, pinh⟩
  | cons x27 l28 =>
   have hlt30 := drop_lt hd29
   have hx32 := drop_ix hd29
   have hw33 := drop_wr hd29 hf34
   rw [gl_db9_1] at h41
   refine go ?_;intros
   rw [hlt30]
   refine go ?_;intros
   refine r_iro rfl rfl hx32 rfl ?_
   obtain ⟨x35, h36, h41⟩ := bnd h41
   refine go ?_;intros
   refine c_call (c := c_cz9) (x27.x) H_cz9 h36 fun ch => ?_
   refine go ?_;intros
   refine s_split rfl (fun c => ?_) (fun c => ?_)
   ·replace h41 := itt h41 c
    rw [c]
    refine go ?_;intros
    cases h41
    replace h : some _ = some _ := h
    cases h
    exact r_end
   replace h41 := itf h41 c
   rw [c]
   refine go ?_;intros
   refine r_iro rfl rfl hx32 rfl ?_
   obtain ⟨x37, h38, h41⟩ := bnd h41
   refine go ?_;intros
   refine c_call (c := c_cz9) (x27.y) H_cz9 h38 fun ch => ?_
   refine go ?_;intros
   refine s_split rfl (fun c => ?_) (fun c => ?_)
   ·replace h41 := itt h41 c
    rw [c]
    refine go ?_;intros
    cases h41
    replace h : some _ = some _ := h
    cases h
    exact r_end
   replace h41 := itf h41 c
   rw [c]
   refine go ?_;intros
   refine s_split rfl (fun c => ?_) (fun c => ?_)
   ·replace h41 := itt h41 c
    rw [c]
    refine go ?_;intros
    refine r_iro rfl rfl hx32 rfl ?_
    obtain ⟨x39, h40, h41⟩ := bnd h41
    refine go ?_;intros
    refine r_iro rfl rfl h40 rfl ?_
    refine go ?_;intros
    refine w_cond rfl (fun c => ?_) (fun c => ?_)
    ·replace h41 := itt h41 c
     try rw [c]
     refine go ?_;intros
     cases h41
     replace h : some _ = some _ := h
     cases h
     exact r_end
    replace h41 := itf h41 c
    try rw [c]
    refine go ?_;intros
    rw [hw33]
    exact k_ln2 _ (Nat.lt_succ_self _) ⟨_, _, h41, rfl, drop_next hd29, pin, pinh⟩
   replace h41 := itf h41 c
   rw [c]
   refine go ?_;intros
   rw [hw33]
   exact k_ln2 _ (Nat.lt_succ_self _) ⟨_, _, h41, rfl, drop_next hd29, pin, pinh⟩
 rintro t o ⟨q24, rfl, pq1, pq2⟩
 refine pinnedQ pq1 pq2 ?_
 refine go ?_;intros
 cases h
 exact r_end
theorem d_cs9 {G : Gam}  (a0 : Str) (r : Bool) (h : gf_cs9 a0 = some r) : Does G if_cs9 ks_cs9 (c_cs9.args (a0)) [] (c_cs9.ans (a0) r) := by
 refine does_pn (L := [(0, .v (.string a0))]) (fun bs => pin) fun bs t o => ?_
 show vwp _ ib_cs9 _ _
 unfold ib_cs9
 refine w_ir ?_
 unfold gf_cs9 at h
 obtain ⟨hf18, h⟩ := gd h
 obtain ⟨q8, h19, h⟩ := bnd h
 refine go ?_;intros
 refine w_last (fun t o => ∃ q8_, q8 = .inr q8_ ∧ Pin t (ovr [(0, .v (.string a0))] t) ∧ PinH o (ovh [] o)) ?_ ?_
 ·refine w_loop2 (fun n t o => ∃ l12 k10  , gl_cs9_1 l12 k10  = some q8 ∧ n = l12.length ∧ (a0.data.toList).drop k10 = l12 ∧ Pin t (ovr [(0, .v (.string a0)), (3, .v (.int .i64 (k10 : Int)))] t) ∧ PinH o (ovh [] o)) _ ⟨_, _, h19, rfl, rfl, pin, pinh⟩ ?_
  rintro n t o ⟨l12, k10, h19, rfl, hd13, pq1, pq2⟩
  refine pinned pq1 pq2 ?_
  cases l12 with
  | nil =>
   have hge15 := drop_geB hd13
   rw [gl_cs9_1] at h19
   refine go ?_;intros
   rw [hge15]
   refine go ?_;intros
   cases h19
   exact k_cn ⟨_, rfl, pin, pinh⟩
  | cons x11 l12 =>
   have hlt14 := drop_ltB hd13
   have hx16 := drop_ixB hd13
   have hw17 := drop_wrB hd13 hf18
   rw [gl_cs9_1] at h19
   refine go ?_;intros
   rw [hlt14]
   refine go ?_;intros
   refine r_sidx rfl rfl hx16 ?_
   refine go ?_;intros
   refine s_split rfl (fun c => ?_) (fun c => ?_)
   ·replace h19 := itt h19 c
    rw [c]
    refine go ?_;intros
    cases h19
    replace h : some _ = some _ := h
    cases h
    exact r_end
   replace h19 := itf h19 c
   rw [c]
   refine go ?_;intros
   refine r_sidx rfl rfl hx16 ?_
   refine go ?_;intros
   refine w_cond rfl (fun c => ?_) (fun c => ?_)
   ·replace h19 := itt h19 c
    try rw [c]
    refine go ?_;intros
    cases h19
    replace h : some _ = some _ := h
    cases h
    exact r_end
   replace h19 := itf h19 c
   try rw [c]
   refine go ?_;intros
   rw [hw17]
   exact k_ln2 _ (Nat.lt_succ_self _) ⟨_, _, h19, rfl, drop_next hd13, pin, pinh⟩
 rintro t o ⟨q8, rfl, pq1, pq2⟩
 refine pinnedQ pq1 pq2 ?_
 refine go ?_;intros
 refine s_split rfl (fun c => ?_) (fun c => ?_)
 ·replace h := itt h c
  rw [c]
  refine go ?_;intros
  cases h
  exact r_end
 replace h := itf h c
 rw [c]
 refine go ?_;intros
 cases h
 exact r_end
theorem d_cr9 {G : Gam} (H_db9 : Has G c_db9) (a0 : Shape) (r : Bool) (h : gf_cr9 a0 = some r) : Does G if_cr9 ks_cr9 (c_cr9.args (a0)) [] (c_cr9.ans (a0) r) := by
 refine does_pn (L := [(0, .agg [.v (.int .i64 a0.kind), .ro (List.map ePt a0.pts)])]) (fun bs => pin) fun bs t o => ?_
 show vwp _ ib_cr9 _ _
 unfold ib_cr9
 refine w_ir ?_
 unfold gf_cr9 at h
 obtain ⟨x2, h3, h⟩ := bnd h
 refine go ?_;intros
 refine c_call (c := c_db9) (a0.pts) H_db9 h3 fun ch => ?_
 refine go ?_;intros
 refine w_cond rfl (fun c => ?_) (fun c => ?_)
 ·replace h := itt h c
  try rw [c]
  refine go ?_;intros
  cases h
  exact r_end
 replace h := itf h c
 try rw [c]
 refine go ?_;intros
 refine w_cond rfl (fun c => ?_) (fun c => ?_)
 ·replace h := itt h c
  try rw [c]
  refine go ?_;intros
  cases h
  exact r_end
 replace h := itf h c
 try rw [c]
 refine go ?_;intros
 refine w_cond rfl (fun c => ?_) (fun c => ?_)
 ·replace h := itt h c
  try rw [c]
  refine go ?_;intros
  cases h
  exact r_end
 replace h := itf h c
 try rw [c]
 refine go ?_;intros
 refine w_cond rfl (fun c => ?_) (fun c => ?_)
 ·replace h := itt h c
  try rw [c]
  refine go ?_;intros
  refine s_split rfl (fun c => ?_) (fun c => ?_)
  ·replace h := itt h (by first | exact c | (have c2 := c; simp only [List.length_map] at c2; exact c2))
   rw [c]
   obtain ⟨x4, h5, h⟩ := bnd h
   refine go ?_;intros
   refine r_iro rfl rfl h5 rfl ?_
   obtain ⟨x6, h7, h⟩ := bnd h
   refine go ?_;intros
   refine r_iro rfl rfl h7 rfl ?_
   refine go ?_;intros
   cases h
   exact r_end
  replace h := itf h (by first | exact c | (have c2 := c; simp only [List.length_map] at c2; exact c2))
  rw [c]
  refine go ?_;intros
  cases h
  exact r_end
 replace h := itf h c
 try rw [c]
 refine go ?_;intros
 cases h
 exact r_end
theorem d_dk9 {G : Gam}  (a0 : (List Feat)) (a1 : Feat) (r : (List Feat)) (h : gf_dk9 a0 a1 = some r) : Does G if_dk9 ks_dk9 (c_dk9.args (a0, a1)) [] (c_dk9.ans (a0, a1) r) := by
 refine does_pn (L := [(0, .ro (List.map (eFeat false) a0)), (1, .agg [.v (.string a1.id), .v (.int .i64 a1.shape.kind), .ro (List.map ePt a1.shape.pts), .ro (List.map eTag a1.tags)])]) (fun bs => pin) fun bs t o => ?_
 show vwp _ ib_dk9 _ _
 unfold ib_dk9
 refine w_ir ?_
 unfold gf_dk9 at h
 obtain ⟨hf103, h⟩ := gd h
 obtain ⟨q88, h131, h⟩ := bnd h
 refine go ?_;intros
 refine w_last (fun t o => ∃ b123 b125 c126, Pin t (ovr [(3, .ptr 24 b123 100 0 0), (5, .ref 64 b125 c126 0 q88.2.length 100), (6, .v (.bool q88.1))] t) ∧ PinH o (ovh [(24, ⟨b123, 1, 100, true, [[.v (.string a1.id), .v (.int .i64 a1.shape.kind), .sl false 2 (List.map ePt a1.shape.pts), .sl false 2 (List.map eTag a1.tags)]]⟩), (64, ent b125 c126 100 (List.map (eFeat false) q88.2))] o)) ?_ ?_
 ·refine w_loop2 (fun n t o => ∃ l97 k95 v89 v92 b91 b93 c94, gl_dk9_1 a1 l97 k95 v89 v92 = some q88 ∧ n = l97.length ∧ (a0).drop k95 = l97 ∧ Pin t (ovr [(0, .ro (List.map (eFeat false) a0)), (3, .ptr 24 b91 100 0 0), (5, .ref 64 b93 c94 0 v92.length 100), (6, .v (.bool v89)), (7, .v (.int .i64 (k95 : Int)))] t) ∧ PinH o (ovh [(24, ⟨b91, 1, 100, true, [[.v (.string a1.id), .v (.int .i64 a1.shape.kind), .sl false 2 (List.map ePt a1.shape.pts), .sl false 2 (List.map eTag a1.tags)]]⟩), (64, ent b93 c94 100 (List.map (eFeat false) v92))] o)) _ ⟨_, _, _, _, _, _, _, h131, rfl, rfl, pin, pinh⟩ ?_
  rintro n t o ⟨l97, k95, v89, v92, b91, b93, c94, h131, rfl, hd98, pq1, pq2⟩
  refine pinned pq1 pq2 ?_
  cases l97 with
  | nil =>
   have hge100 := drop_ge hd98
   rw [gl_dk9_1] at h131
   refine go ?_;intros
   rw [hge100]
   refine go ?_;intros
   cases h131
   exact k_cn ⟨_, _, _, pin, pinh⟩
  | cons x96 l97 =>
   have hlt99 := drop_lt hd98
   have hx101 := drop_ix hd98
   have hw102 := drop_wr hd98 hf103
   rw [gl_dk9_1] at h131
   refine go ?_;intros
   rw [hlt99]
   obtain ⟨q108, h132, h131⟩ := bnd h131
   refine go ?_;intros
   refine w_cut (fun t o => ∃ b114 b116 c117, Pin t (ovr [(0, .ro (List.map (eFeat false) a0)), (3, .ptr 24 b114 100 0 0), (5, .ref 64 b116 c117 0 q108.2.length 100), (6, .v (.bool q108.1)), (7, .v (.int .i64 (k95 : Int)))] t) ∧ PinH o (ovh [(24, ⟨b114, 1, 100, true, [[.v (.string a1.id), .v (.int .i64 a1.shape.kind), .sl false 2 (List.map ePt a1.shape.pts), .sl false 2 (List.map eTag a1.tags)]]⟩), (64, ent b116 c117 100 (List.map (eFeat false) q108.2))] o)) ?_ ?_
   ·refine go ?_;intros
    refine s_split rfl (fun c => ?_) (fun c => ?_)
    ·replace h132 := itt h132 c
     rw [c]
     refine go ?_;intros
     refine r_iro rfl rfl hx101 rfl ?_
     refine go ?_;intros
     refine w_cond rfl (fun c => ?_) (fun c => ?_)
     ·replace h132 := itt h132 c
      try rw [c]
      obtain ⟨h112, h132⟩ := gd h132
      refine go ?_;intros
      refine r_app (f := (eFeat false)) (xs := v92) (ys := ([a1] : (List Feat))) rfl (src_mv rfl rfl (by first | rfl | simp)) rfl rfl (by first | rfl | simp) h112 fun b110 c111 => ?_
      refine go ?_;intros
      cases h132
      exact k_cn ⟨_, _, _, pin, pinh⟩
     replace h132 := itf h132 c
     try rw [c]
     refine go ?_;intros
     cases h132
     exact k_cn ⟨_, _, _, pin, pinh⟩
    replace h132 := itf h132 c
    rw [c]
    refine go ?_;intros
    cases h132
    exact k_cn ⟨_, _, _, pin, pinh⟩
   rintro t o ⟨b114, b116, c117, pq1, pq2⟩
   refine pinned pq1 pq2 ?_
   refine go ?_;intros
   refine r_iro rfl rfl hx101 rfl ?_
   refine go ?_;intros
   refine w_cond rfl (fun c => ?_) (fun c => ?_)
   ·replace h131 := itt h131 c
    try rw [c]
    refine go ?_;intros
    refine r_iro rfl rfl hx101 rfl ?_
    obtain ⟨h121, h131⟩ := gd h131
    refine go ?_;intros
    refine r_app (f := (eFeat false)) (xs := q108.2) (ys := ([x96] : (List Feat))) rfl (src_mv rfl rfl (by first | rfl | simp)) rfl rfl (by first | rfl | simp) h121 fun b119 c120 => ?_
    refine go ?_;intros
    rw [hw102]
    exact k_ln2 _ (Nat.lt_succ_self _) ⟨_, _, _, _, _, _, _, h131, rfl, drop_next hd98, pin, pinh⟩
   replace h131 := itf h131 c
   try rw [c]
   refine go ?_;intros
   rw [hw102]
   exact k_ln2 _ (Nat.lt_succ_self _) ⟨_, _, _, _, _, _, _, h131, rfl, drop_next hd98, pin, pinh⟩
 rintro t o ⟨b123, b125, c126, pq1, pq2⟩
 refine pinnedQ pq1 pq2 ?_
 refine go ?_;intros
 refine w_cond rfl (fun c => ?_) (fun c => ?_)
 ·replace h := itt h c
  try rw [c]
  obtain ⟨h130, h⟩ := gd h
  refine go ?_;intros
  refine r_app (f := (eFeat false)) (xs := q88.2) (ys := ([a1] : (List Feat))) rfl (src_mv rfl rfl (by first | rfl | simp)) rfl rfl (by first | rfl | simp) h130 fun b128 c129 => ?_
  refine go ?_;intros
  cases h
  exact r_end
 replace h := itf h c
 try rw [c]
 refine go ?_;intros
 cases h
 exact r_end
theorem d_dh9 {G : Gam}  (a0 : (List Tag)) (a1 : Str) (a2 : Str) (r : (List Tag)) (h : gf_dh9 a0 a1 a2 = some r) : Does G if_dh9 ks_dh9 (c_dh9.args (a0, a1, a2)) [] (c_dh9.ans (a0, a1, a2) r) := by
 refine does_pn (L := [(0, .ro (List.map eTag a0)), (1, .v (.string a1)), (2, .v (.string a2))]) (fun bs => pin) fun bs t o => ?_
 show vwp _ ib_dh9 _ _
 unfold ib_dh9
 refine w_ir ?_
 unfold gf_dh9 at h
 obtain ⟨hf94, h⟩ := gd h
 obtain ⟨q80, h120, h⟩ := bnd h
 refine go ?_;intros
 refine w_last (fun t o => ∃ b114 c115, Pin t (ovr [(1, .v (.string a1)), (2, .v (.string a2)), (7, .ref 80 b114 c115 0 q80.2.length 82), (8, .v (.bool q80.1))] t) ∧ PinH o (ovh [(80, ent b114 c115 82 (List.map eTag q80.2))] o)) ?_ ?_
 ·refine w_loop2 (fun n t o => ∃ l88 k86 v81 v83 b84 c85, gl_dh9_1 a1 a2 l88 k86 v81 v83 = some q80 ∧ n = l88.length ∧ (a0).drop k86 = l88 ∧ Pin t (ovr [(0, .ro (List.map eTag a0)), (1, .v (.string a1)), (2, .v (.string a2)), (7, .ref 80 b84 c85 0 v83.length 82), (8, .v (.bool v81)), (9, .v (.int .i64 (k86 : Int)))] t) ∧ PinH o (ovh [(80, ent b84 c85 82 (List.map eTag v83))] o)) _ ⟨_, _, _, _, _, _, h120, rfl, rfl, pin, pinh⟩ ?_
  rintro n t o ⟨l88, k86, v81, v83, b84, c85, h120, rfl, hd89, pq1, pq2⟩
  refine pinned pq1 pq2 ?_
  cases l88 with
  | nil =>
   have hge91 := drop_ge hd89
   rw [gl_dh9_1] at h120
   refine go ?_;intros
   rw [hge91]
   refine go ?_;intros
   cases h120
   exact k_cn ⟨_, _, pin, pinh⟩
  | cons x87 l88 =>
   have hlt90 := drop_lt hd89
   have hx92 := drop_ix hd89
   have hw93 := drop_wr hd89 hf94
   rw [gl_dh9_1] at h120
   refine go ?_;intros
   rw [hlt90]
   obtain ⟨q99, h121, h120⟩ := bnd h120
   refine go ?_;intros
   refine w_cut (fun t o => ∃ b106 c107, Pin t (ovr [(0, .ro (List.map eTag a0)), (1, .v (.string a1)), (2, .v (.string a2)), (7, .ref 80 b106 c107 0 q99.2.length 82), (8, .v (.bool q99.1)), (9, .v (.int .i64 (k86 : Int)))] t) ∧ PinH o (ovh [(80, ent b106 c107 82 (List.map eTag q99.2))] o)) ?_ ?_
   ·refine go ?_;intros
    refine s_split rfl (fun c => ?_) (fun c => ?_)
    ·replace h121 := itt h121 c
     rw [c]
     refine go ?_;intros
     refine r_iro rfl rfl hx92 rfl ?_
     refine go ?_;intros
     refine w_cond rfl (fun c => ?_) (fun c => ?_)
     ·replace h121 := itt h121 c
      try rw [c]
      obtain ⟨h103, h121⟩ := gd h121
      refine go ?_;intros
      refine r_app (f := eTag) (xs := v83) (ys := ([(⟨a1, a2⟩ : Tag)] : (List Tag))) rfl (src_mv rfl rfl (by first | rfl | simp)) rfl rfl (by first | rfl | simp) h103 fun b101 c102 => ?_
      refine go ?_;intros
      cases h121
      exact k_cn ⟨_, _, pin, pinh⟩
     replace h121 := itf h121 c
     try rw [c]
     refine go ?_;intros
     cases h121
     exact k_cn ⟨_, _, pin, pinh⟩
    replace h121 := itf h121 c
    rw [c]
    refine go ?_;intros
    cases h121
    exact k_cn ⟨_, _, pin, pinh⟩
   rintro t o ⟨b106, c107, pq1, pq2⟩
   refine pinned pq1 pq2 ?_
   refine go ?_;intros
   refine r_iro rfl rfl hx92 rfl ?_
   refine go ?_;intros
   refine w_cond rfl (fun c => ?_) (fun c => ?_)
   ·replace h120 := itt h120 c
    try rw [c]
    refine go ?_;intros
    refine r_iro rfl rfl hx92 rfl ?_
    obtain ⟨h111, h120⟩ := gd h120
    refine go ?_;intros
    refine r_app (f := eTag) (xs := q99.2) (ys := ([x87] : (List Tag))) rfl (src_mv rfl rfl (by first | rfl | simp)) rfl rfl (by first | rfl | simp) h111 fun b109 c110 => ?_
    refine go ?_;intros
    rw [hw93]
    exact k_ln2 _ (Nat.lt_succ_self _) ⟨_, _, _, _, _, _, h120, rfl, drop_next hd89, pin, pinh⟩
   replace h120 := itf h120 c
   try rw [c]
   refine go ?_;intros
   rw [hw93]
   exact k_ln2 _ (Nat.lt_succ_self _) ⟨_, _, _, _, _, _, h120, rfl, drop_next hd89, pin, pinh⟩
 rintro t o ⟨b114, c115, pq1, pq2⟩
 refine pinnedQ pq1 pq2 ?_
 refine go ?_;intros
 refine w_cond rfl (fun c => ?_) (fun c => ?_)
 ·replace h := itt h c
  try rw [c]
  obtain ⟨h119, h⟩ := gd h
  refine go ?_;intros
  refine r_app (f := eTag) (xs := q80.2) (ys := ([(⟨a1, a2⟩ : Tag)] : (List Tag))) rfl (src_mv rfl rfl (by first | rfl | simp)) rfl rfl (by first | rfl | simp) h119 fun b117 c118 => ?_
  refine go ?_;intros
  cases h
  exact r_end
 replace h := itf h c
 try rw [c]
 refine go ?_;intros
 cases h
 exact r_end
theorem d_bk9 {G : Gam}  (a0 : Int) (a1 : Int) (a2 : Int) (r : Bool) (h : gf_bk9 a0 a1 a2 = some r) : Does G if_bk9 ks_bk9 (c_bk9.args (a0, a1, a2)) [] (c_bk9.ans (a0, a1, a2) r) := by
 refine does_pn (L := [(0, .v (.int .i64 a0)), (1, .v (.int .i64 a1)), (2, .v (.int .i64 a2))]) (fun bs => pin) fun bs t o => ?_
 show vwp _ ib_bk9 _ _
 unfold ib_bk9
 refine w_ir ?_
 unfold gf_bk9 at h
 refine go ?_;intros
 refine s_split rfl (fun c => ?_) (fun c => ?_)
 ·replace h := itt h c
  rw [c]
  refine go ?_;intros
  cases h
  exact r_end
 replace h := itf h c
 rw [c]
 refine go ?_;intros
 cases h
 exact r_end
theorem d_bi9 {G : Gam} (H_bk9 : Has G c_bk9) (a0 : Pt) (r : Bool) (h : gf_bi9 a0 = some r) : Does G if_bi9 ks_bi9 (c_bi9.args (a0)) [] (c_bi9.ans (a0) r) := by
 refine does_pn (L := [(0, .agg [.v (.int .i64 a0.x), .v (.int .i64 a0.y)])]) (fun bs => pin) fun bs t o => ?_
 show vwp _ ib_bi9 _ _
 unfold ib_bi9
 refine w_ir ?_
 unfold gf_bi9 at h
 obtain ⟨x2, h3, h⟩ := bnd h
 refine go ?_;intros
 refine c_call (c := c_bk9) (a0.x, (-1000), 1000) H_bk9 h3 fun ch => ?_
 refine go ?_;intros
 refine s_split rfl (fun c => ?_) (fun c => ?_)
 ·replace h := itt h c
  rw [c]
  obtain ⟨x4, h5, h⟩ := bnd h
  refine go ?_;intros
  refine c_call (c := c_bk9) (a0.y, (-1000), 1000) H_bk9 h5 fun ch => ?_
  refine go ?_;intros
  cases h
  exact r_end
 replace h := itf h c
 rw [c]
 refine go ?_;intros
 cases h
 exact r_end
theorem d_az9 {G : Gam} (H_bk9 : Has G c_bk9) (a0 : Str) (r : Bool) (h : gf_az9 a0 = some r) : Does G if_az9 ks_az9 (c_az9.args (a0)) [] (c_az9.ans (a0) r) := by
 refine does_pn (L := [(0, .v (.string a0))]) (fun bs => pin) fun bs t o => ?_
 show vwp _ ib_az9 _ _
 unfold ib_az9
 refine w_ir ?_
 unfold gf_az9 at h
 obtain ⟨hf18, h⟩ := gd h
 obtain ⟨q8, h21, h⟩ := bnd h
 refine go ?_;intros
 refine w_last (fun t o => ∃ q8_, q8 = .inr q8_ ∧ Pin t (ovr [(0, .v (.string a0))] t) ∧ PinH o (ovh [] o)) ?_ ?_
 ·refine w_loop2 (fun n t o => ∃ l12 k10  , gl_az9_1 l12 k10  = some q8 ∧ n = l12.length ∧ (a0.data.toList).drop k10 = l12 ∧ Pin t (ovr [(0, .v (.string a0)), (5, .v (.int .i64 (a0.size : Int))), (6, .v (.int .i64 (k10 : Int)))] t) ∧ PinH o (ovh [] o)) _ ⟨_, _, h21, rfl, rfl, pin, pinh⟩ ?_
  rintro n t o ⟨l12, k10, h21, rfl, hd13, pq1, pq2⟩
  refine pinned pq1 pq2 ?_
  cases l12 with
  | nil =>
   have hge15 := drop_geB hd13
   rw [gl_az9_1] at h21
   refine go ?_;intros
   rw [hge15]
   refine go ?_;intros
   cases h21
   exact k_cn ⟨_, rfl, pin, pinh⟩
  | cons x11 l12 =>
   have hlt14 := drop_ltB hd13
   have hx16 := drop_ixB hd13
   have hw17 := drop_wrB hd13 hf18
   rw [gl_az9_1] at h21
   refine go ?_;intros
   rw [hlt14]
   refine go ?_;intros
   refine r_sidx rfl rfl hx16 ?_
   refine go ?_;intros
   refine s_split rfl (fun c => ?_) (fun c => ?_)
   ·replace h21 := itt h21 c
    rw [c]
    refine go ?_;intros
    cases h21
    replace h : some _ = some _ := h
    cases h
    exact r_end
   replace h21 := itf h21 c
   rw [c]
   refine go ?_;intros
   refine r_sidx rfl rfl hx16 ?_
   refine go ?_;intros
   refine w_cond rfl (fun c => ?_) (fun c => ?_)
   ·replace h21 := itt h21 c
    try rw [c]
    refine go ?_;intros
    cases h21
    replace h : some _ = some _ := h
    cases h
    exact r_end
   replace h21 := itf h21 c
   try rw [c]
   refine go ?_;intros
   rw [hw17]
   exact k_ln2 _ (Nat.lt_succ_self _) ⟨_, _, h21, rfl, drop_next hd13, pin, pinh⟩
 rintro t o ⟨q8, rfl, pq1, pq2⟩
 refine pinnedQ pq1 pq2 ?_
 obtain ⟨x19, h20, h⟩ := bnd h
 refine go ?_;intros
 refine c_call (c := c_bk9) ((a0.size : Int), 1, 6) H_bk9 h20 fun ch => ?_
 refine go ?_;intros
 cases h
 exact r_end
theorem d_at9 {G : Gam} (H_bi9 : Has G c_bi9) (H_bk9 : Has G c_bk9) (a0 : Shape) (r : Bool) (h : gf_at9 a0 = some r) : Does G if_at9 ks_at9 (c_at9.args (a0)) [] (c_at9.ans (a0) r) := by
 refine does_pn (L := [(0, .agg [.v (.int .i64 a0.kind), .ro (List.map ePt a0.pts)])]) (fun bs => pin) fun bs t o => ?_
 show vwp _ ib_at9 _ _
 unfold ib_at9
 refine w_ir ?_
 unfold gf_at9 at h
 obtain ⟨hf35, h⟩ := gd h
 obtain ⟨q24, h50, h⟩ := bnd h
 refine go ?_;intros
 refine w_last (fun t o => ∃ q24_, q24 = .inr q24_ ∧ ∃ b41, Pin t (ovr [(1, .ptr 8 b41 226 0 0)] t) ∧ PinH o (ovh [(8, ⟨b41, 1, 226, true, [[.v (.int .i64 a0.kind), .sl false 2 (List.map ePt a0.pts)]]⟩)] o)) ?_ ?_
 ·refine w_loop2 (fun n t o => ∃ l29 k27  b26, gl_at9_1 a0 l29 k27  = some q24 ∧ n = l29.length ∧ (a0.pts).drop k27 = l29 ∧ Pin t (ovr [(1, .ptr 8 b26 226 0 0), (7, .ro (List.map ePt a0.pts)), (8, .v (.int .i64 (a0.pts.length : Int))), (9, .v (.int .i64 (k27 : Int)))] t) ∧ PinH o (ovh [(8, ⟨b26, 1, 226, true, [[.v (.int .i64 a0.kind), .sl false 2 (List.map ePt a0.pts)]]⟩)] o)) _ ⟨_, _, _, h50, rfl, rfl, pin, pinh⟩ ?_
  rintro n t o ⟨l29, k27, b26, h50, rfl, hd30, pq1, pq2⟩
  refine pinned pq1 pq2 ?_
  cases l29 with
  | nil =>
   have hge32 := drop_ge hd30
   rw [gl_at9_1] at h50
   refine go ?_;intros
   rw [hge32]
   refine go ?_;intros
   cases h50
   exact k_cn ⟨_, rfl, _, pin, pinh⟩
  | cons x28 l29 =>
   have hlt31 := drop_lt hd30
   have hx33 := drop_ix hd30
   have hw34 := drop_wr hd30 hf35
   rw [gl_at9_1] at h50
   refine go ?_;intros
   rw [hlt31]
   refine go ?_;intros
   refine r_iro rfl rfl hx33 rfl ?_
   obtain ⟨x37, h38, h50⟩ := bnd h50
   refine go ?_;intros
   refine c_call (c := c_bi9) (x28) H_bi9 h38 fun ch => ?_
   refine go ?_;intros
   refine s_split rfl (fun c => ?_) (fun c => ?_)
   ·replace h50 := itt h50 c
    rw [c]
    refine go ?_;intros
    cases h50
    replace h : some _ = some _ := h
    cases h
    exact r_end
   replace h50 := itf h50 c
   rw [c]
   refine go ?_;intros
   refine s_split rfl (fun c => ?_) (fun c => ?_)
   ·replace h50 := itt h50 c
    rw [c]
    obtain ⟨x39, h40, h50⟩ := bnd h50
    refine go ?_;intros
    refine r_iro rfl rfl h40 rfl ?_
    refine go ?_;intros
    refine w_cond rfl (fun c => ?_) (fun c => ?_)
    ·replace h50 := itt h50 c
     try rw [c]
     refine go ?_;intros
     cases h50
     replace h : some _ = some _ := h
     cases h
     exact r_end
    replace h50 := itf h50 c
    try rw [c]
    refine go ?_;intros
    rw [hw34]
    exact k_ln2 _ (Nat.lt_succ_self _) ⟨_, _, _, h50, rfl, drop_next hd30, pin, pinh⟩
   replace h50 := itf h50 c
   rw [c]
   refine go ?_;intros
   rw [hw34]
   exact k_ln2 _ (Nat.lt_succ_self _) ⟨_, _, _, h50, rfl, drop_next hd30, pin, pinh⟩
 rintro t o ⟨q24, rfl, b41, pq1, pq2⟩
 refine pinnedQ pq1 pq2 ?_
 refine go ?_;intros
 refine w_cond rfl (fun c => ?_) (fun c => ?_)
 ·replace h := itt h c
  try rw [c]
  refine go ?_;intros
  cases h
  exact r_end
 replace h := itf h c
 try rw [c]
 refine go ?_;intros
 refine w_cond rfl (fun c => ?_) (fun c => ?_)
 ·replace h := itt h c
  try rw [c]
  obtain ⟨x42, h43, h⟩ := bnd h
  refine go ?_;intros
  refine c_call (c := c_bk9) ((a0.pts.length : Int), 2, 6) H_bk9 h43 fun ch => ?_
  refine go ?_;intros
  cases h
  exact r_end
 replace h := itf h c
 try rw [c]
 refine go ?_;intros
 refine w_cond rfl (fun c => ?_) (fun c => ?_)
 ·replace h := itt h c
  try rw [c]
  obtain ⟨x44, h45, h⟩ := bnd h
  refine go ?_;intros
  refine c_call (c := c_bk9) ((a0.pts.length : Int), 3, 6) H_bk9 h45 fun ch => ?_
  refine go ?_;intros
  refine s_split rfl (fun c => ?_) (fun c => ?_)
  ·replace h := itt h c
   rw [c]
   obtain ⟨x46, h47, h⟩ := bnd h
   refine go ?_;intros
   refine r_iro rfl rfl h47 rfl ?_
   obtain ⟨x48, h49, h⟩ := bnd h
   refine go ?_;intros
   refine r_iro rfl rfl h49 rfl ?_
   refine go ?_;intros
   cases h
   exact r_end
  replace h := itf h c
  rw [c]
  refine go ?_;intros
  cases h
  exact r_end
 replace h := itf h c
 try rw [c]
 refine go ?_;intros
 cases h
 exact r_end
theorem d_ac9 {G : Gam} (H_az9 : Has G c_az9) (H_at9 : Has G c_at9) (a0 : Feat) (r : Bool) (h : gf_ac9 a0 = some r) : Does G if_ac9 ks_ac9 (c_ac9.args (a0)) [] (c_ac9.ans (a0) r) := by
 refine does_pn (L := [(0, .agg [.v (.string a0.id), .v (.int .i64 a0.shape.kind), .ro (List.map ePt a0.shape.pts), .ro (List.map eTag a0.tags)])]) (fun bs => pin) fun bs t o => ?_
 show vwp _ ib_ac9 _ _
 unfold ib_ac9
 refine w_ir ?_
 unfold gf_ac9 at h
 obtain ⟨hf41, h⟩ := gd h
 obtain ⟨q30, h54, h⟩ := bnd h
 refine go ?_;intros
 refine w_last (fun t o => ∃ q30_, q30 = .inr q30_ ∧ ∃ b49, Pin t (ovr [(1, .ptr 8 b49 100 0 0)] t) ∧ PinH o (ovh [(8, ⟨b49, 1, 100, true, [[.v (.string a0.id), .v (.int .i64 a0.shape.kind), .sl false 2 (List.map ePt a0.shape.pts), .sl false 2 (List.map eTag a0.tags)]]⟩)] o)) ?_ ?_
 ·refine w_loop2 (fun n t o => ∃ l35 k33  b32, gl_ac9_1 a0 l35 k33  = some q30 ∧ n = l35.length ∧ (a0.tags).drop k33 = l35 ∧ Pin t (ovr [(1, .ptr 8 b32 100 0 0), (6, .ro (List.map eTag a0.tags)), (7, .v (.int .i64 (a0.tags.length : Int))), (8, .v (.int .i64 (k33 : Int)))] t) ∧ PinH o (ovh [(8, ⟨b32, 1, 100, true, [[.v (.string a0.id), .v (.int .i64 a0.shape.kind), .sl false 2 (List.map ePt a0.shape.pts), .sl false 2 (List.map eTag a0.tags)]]⟩)] o)) _ ⟨_, _, _, h54, rfl, rfl, pin, pinh⟩ ?_
  rintro n t o ⟨l35, k33, b32, h54, rfl, hd36, pq1, pq2⟩
  refine pinned pq1 pq2 ?_
  cases l35 with
  | nil =>
   have hge38 := drop_ge hd36
   rw [gl_ac9_1] at h54
   refine go ?_;intros
   rw [hge38]
   refine go ?_;intros
   cases h54
   exact k_cn ⟨_, rfl, _, pin, pinh⟩
  | cons x34 l35 =>
   have hlt37 := drop_lt hd36
   have hx39 := drop_ix hd36
   have hw40 := drop_wr hd36 hf41
   rw [gl_ac9_1] at h54
   refine go ?_;intros
   rw [hlt37]
   refine go ?_;intros
   refine r_iro rfl rfl hx39 rfl ?_
   obtain ⟨x43, h44, h54⟩ := bnd h54
   refine go ?_;intros
   refine c_call (c := c_az9) (x34.key) H_az9 h44 fun ch => ?_
   refine go ?_;intros
   refine s_split rfl (fun c => ?_) (fun c => ?_)
   ·replace h54 := itt h54 c
    rw [c]
    refine go ?_;intros
    cases h54
    replace h : some _ = some _ := h
    cases h
    exact r_end
   replace h54 := itf h54 c
   rw [c]
   obtain ⟨x45, h46, h54⟩ := bnd h54
   refine go ?_;intros
   refine c_call (c := c_az9) (x34.val) H_az9 h46 fun ch => ?_
   refine go ?_;intros
   refine s_split rfl (fun c => ?_) (fun c => ?_)
   ·replace h54 := itt h54 c
    rw [c]
    refine go ?_;intros
    cases h54
    replace h : some _ = some _ := h
    cases h
    exact r_end
   replace h54 := itf h54 c
   rw [c]
   refine go ?_;intros
   refine s_split rfl (fun c => ?_) (fun c => ?_)
   ·replace h54 := itt h54 c
    rw [c]
    obtain ⟨x47, h48, h54⟩ := bnd h54
    refine go ?_;intros
    refine r_iro rfl rfl h48 rfl ?_
    refine go ?_;intros
    refine w_cond rfl (fun c => ?_) (fun c => ?_)
    ·replace h54 := itt h54 c
     try rw [c]
     refine go ?_;intros
     cases h54
     replace h : some _ = some _ := h
     cases h
     exact r_end
    replace h54 := itf h54 c
    try rw [c]
    refine go ?_;intros
    rw [hw40]
    exact k_ln2 _ (Nat.lt_succ_self _) ⟨_, _, _, h54, rfl, drop_next hd36, pin, pinh⟩
   replace h54 := itf h54 c
   rw [c]
   refine go ?_;intros
   rw [hw40]
   exact k_ln2 _ (Nat.lt_succ_self _) ⟨_, _, _, h54, rfl, drop_next hd36, pin, pinh⟩
 rintro t o ⟨q30, rfl, b49, pq1, pq2⟩
 refine pinnedQ pq1 pq2 ?_
 obtain ⟨x50, h51, h⟩ := bnd h
 refine go ?_;intros
 refine c_call (c := c_az9) (a0.id) H_az9 h51 fun ch => ?_
 refine go ?_;intros
 refine s_split rfl (fun c => ?_) (fun c => ?_)
 ·replace h := itt h c
  rw [c]
  obtain ⟨x52, h53, h⟩ := bnd h
  refine go ?_;intros
  refine c_call (c := c_at9) (a0.shape) H_at9 h53 fun ch => ?_
  refine go ?_;intros
  refine s_split rfl (fun c => ?_) (fun c => ?_)
  ·replace h := itt h c
   rw [c]
   refine go ?_;intros
   cases h
   exact r_end
  replace h := itf h c
  rw [c]
  refine go ?_;intros
  cases h
  exact r_end
 replace h := itf h c
 rw [c]
 refine go ?_;intros
 cases h
 exact r_end
theorem d_bx9 {G : Gam}  (a0 : (List Pt)) (a1 : (List Pt)) (r : Bool) (h : gf_bx9 a0 a1 = some r) : Does G if_bx9 ks_bx9 (c_bx9.args (a0, a1)) [] (c_bx9.ans (a0, a1) r) := by
 refine does_pn (L := [(0, .ro (List.map ePt a0)), (1, .ro (List.map ePt a1))]) (fun bs => pin) fun bs t o => ?_
 show vwp _ ib_bx9 _ _
 unfold ib_bx9
 refine w_ir ?_
 unfold gf_bx9 at h
 refine go ?_;intros
 refine w_cond rfl (fun c => ?_) (fun c => ?_)
 ·replace h := itt h (by first | exact c | (have c2 := c; simp only [List.length_map] at c2; exact c2))
  try rw [c]
  refine go ?_;intros
  cases h
  exact r_end
 replace h := itf h (by first | exact c | (have c2 := c; simp only [List.length_map] at c2; exact c2))
 try rw [c]
 obtain ⟨hf24, h⟩ := gd h
 obtain ⟨q14, h27, h⟩ := bnd h
 refine go ?_;intros
 refine w_last (fun t o => ∃ q14_, q14 = .inr q14_ ∧ Pin t (ovr [] t) ∧ PinH o (ovh [] o)) ?_ ?_
 ·refine w_loop2 (fun n t o => ∃ l18 k16  , gl_bx9_1 a1 l18 k16  = some q14 ∧ n = l18.length ∧ (a0).drop k16 = l18 ∧ Pin t (ovr [(0, .ro (List.map ePt a0)), (1, .ro (List.map ePt a1)), (12, .v (.int .i64 (a0.length : Int))), (13, .v (.int .i64 (k16 : Int)))] t) ∧ PinH o (ovh [] o)) _ ⟨_, _, h27, rfl, rfl, pin, pinh⟩ ?_
  rintro n t o ⟨l18, k16, h27, rfl, hd19, pq1, pq2⟩
  refine pinned pq1 pq2 ?_
  cases l18 with
  | nil =>
   have hge21 := drop_ge hd19
   rw [gl_bx9_1] at h27
   refine go ?_;intros
   rw [hge21]
   refine go ?_;intros
   cases h27
   exact k_cn ⟨_, rfl, pin, pinh⟩
  | cons x17 l18 =>
   have hlt20 := drop_lt hd19
   have hx22 := drop_ix hd19
   have hw23 := drop_wr hd19 hf24
   rw [gl_bx9_1] at h27
   refine go ?_;intros
   rw [hlt20]
   refine go ?_;intros
   refine r_iro rfl rfl hx22 rfl ?_
   obtain ⟨x25, h26, h27⟩ := bnd h27
   refine go ?_;intros
   refine r_iro rfl rfl h26 rfl ?_
   refine go ?_;intros
   refine w_cond rfl (fun c => ?_) (fun c => ?_)
   ·replace h27 := itt h27 c
    try rw [c]
    refine go ?_;intros
    cases h27
    replace h : some _ = some _ := h
    cases h
    exact r_end
   replace h27 := itf h27 c
   try rw [c]
   refine go ?_;intros
   rw [hw23]
   exact k_ln2 _ (Nat.lt_succ_self _) ⟨_, _, h27, rfl, drop_next hd19, pin, pinh⟩
 rintro t o ⟨q14, rfl, pq1, pq2⟩
 refine pinnedQ pq1 pq2 ?_
 refine go ?_;intros
 cases h
 exact r_end
end Go.Proofs.AM
