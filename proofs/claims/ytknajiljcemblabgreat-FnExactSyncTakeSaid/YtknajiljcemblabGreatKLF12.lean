/- Lemmas of the proof (KLF12), on an abstract machine. Conditions: none. -/
import Derived.Test.YtknajiljcemblabGreatKLD
set_option linter.unusedVariables false
set_option linter.unusedSimpArgs false
set_option maxRecDepth 100000
set_option maxHeartbeats 4000000
namespace Go.Proofs.AM
attribute [local irreducible] vwp vstps vstpLs vstp vdo vret kseq kblk kloop kend kcut kloop2 frzV renV shutK pfzV trnV unrV
theorem d_bi9 {G : Gam} (H_bh9 : Has G c_bh9) (a0 : (List Head)) (a1 : (List Head)) (r : Bool) (h : gf_bi9 a0 a1 = some r) : Does G if_bi9 ks_bi9 (c_bi9.args (a0, a1)) [] (c_bi9.ans (a0, a1) r) := by
 refine does_pn (L := [(0, .ro (List.map eHead a0)), (1, .ro (List.map eHead a1))]) (fun bs => pin) fun bs t o => ?_
 show vwp _ ib_bi9 _ _
 unfold ib_bi9
 refine w_ir ?_
 unfold gf_bi9 at h
 refine go ?_;intros
 refine w_cond rfl (fun c => ?_) (fun c => ?_)
 ·replace h := itt h (by first | exact c | (have c2 := c; simp only [List.length_map] at c2; exact c2))
  try rw [c]
  refine go ?_;intros
  cases h
  exact r_end
 replace h := itf h (by first | exact c | (have c2 := c; simp only [List.length_map] at c2; exact c2))
 try rw [c]
 obtain ⟨hf30, h⟩ := gd h
 obtain ⟨q20, h35, h⟩ := bnd h
 refine go ?_;intros
 refine w_last (fun t o => ∃ q20_, q20 = .inr q20_ ∧ Pin t (ovr [] t) ∧ PinH o (ovh [] o)) ?_ ?_
 ·refine w_loop2 (fun n t o => ∃ l24 k22  , gl_bi9_1 a1 l24 k22  = some q20 ∧ n = l24.length ∧ (a0).drop k22 = l24 ∧ Pin t (ovr [(0, .ro (List.map eHead a0)), (1, .ro (List.map eHead a1)), (5, .v (.int .i64 (k22 : Int)))] t) ∧ PinH o (ovh [] o)) _ ⟨_, _, h35, rfl, rfl, pin, pinh⟩ ?_
  rintro n t o ⟨l24, k22, h35, rfl, hd25, pq1, pq2⟩
  refine pinned pq1 pq2 ?_
  cases l24 with
  | nil =>
   have hge27 := drop_ge hd25
   rw [gl_bi9_1] at h35
   refine go ?_;intros
   rw [hge27]
   refine go ?_;intros
   cases h35
   exact k_cn ⟨_, rfl, pin, pinh⟩
  | cons x23 l24 =>
   have hlt26 := drop_lt hd25
   have hx28 := drop_ix hd25
   have hw29 := drop_wr hd25 hf30
   rw [gl_bi9_1] at h35
   refine go ?_;intros
   rw [hlt26]
   refine go ?_;intros
   refine r_iro rfl rfl hx28 rfl ?_
   obtain ⟨x31, h32, h35⟩ := bnd h35
   refine go ?_;intros
   refine r_iro rfl rfl h32 rfl ?_
   obtain ⟨x33, h34, h35⟩ := bnd h35
   refine go ?_;intros
   refine c_call (c := c_bh9) (x23, x31) H_bh9 h34 fun ch => ?_
   refine go ?_;intros
   refine w_cond rfl (fun c => ?_) (fun c => ?_)
   ·replace h35 := itt h35 c
    try rw [c]
    refine go ?_;intros
    cases h35
    replace h : some _ = some _ := h
    cases h
    exact r_end
   replace h35 := itf h35 c
   try rw [c]
   refine go ?_;intros
   rw [hw29]
   exact k_ln2 _ (Nat.lt_succ_self _) ⟨_, _, h35, rfl, drop_next hd25, pin, pinh⟩
 rintro t o ⟨q20, rfl, pq1, pq2⟩
 refine pinnedQ pq1 pq2 ?_
 refine go ?_;intros
 cases h
 exact r_end
theorem d_ce9 {G : Gam}  (a0 : Int) (r : Str) (h : gf_ce9 a0 = some r) : Does G if_ce9 ks_ce9 (c_ce9.args (a0)) [] (c_ce9.ans (a0) r) := by
 refine does_pn (L := [(0, .v (.int .i64 a0))]) (fun bs => pin) fun bs t o => ?_
 show vwp _ ib_ce9 _ _
 unfold ib_ce9
 refine w_ir ?_
 unfold gf_ce9 at h
 refine go ?_;intros
 refine w_cond rfl (fun c => ?_) (fun c => ?_)
 ·replace h := itt h c
  try rw [c]
  refine go ?_;intros
  cases h
  exact r_end
 replace h := itf h c
 try rw [c]
 obtain ⟨q9, h19, h⟩ := bnd h
 refine go ?_;intros
 refine w_cut (fun t o => Pin t (ovr [(3, .v (.string q9))] t) ∧ PinH o (ovh [] o)) ?_ ?_
 ·refine w_block ?_
  refine w_loop2 (fun n t o => ∃ n12 v10 v11 , gl_ce9_1 n12 v10 v11 = some q9 ∧ n12 = n ∧ Pin t (ovr [(0, .v (.int .i64 v10)), (3, .v (.string v11))] t) ∧ PinH o (ovh [] o)) _ ⟨_, _, _, h19, rfl, pin, pinh⟩ ?_
  rintro n t o ⟨n12, v10, v11, h19, rfl, pq1, pq2⟩
  refine pinned pq1 pq2 ?_
  cases n12 with
  | zero => rw [gl_ce9_1] at h19; cases h19
  | succ n12 =>
   rw [gl_ce9_1] at h19
   refine go ?_;intros
   refine w_cond rfl (fun c => ?_) (fun c => ?_)
   ·replace h19 := itt h19 c
    try rw [c]
    refine go ?_;intros
    refine r_bytes (xs := ([(IntKind.u8.wrap (IntKind.i64.wrap (48 + (Int.tmod v10 10))))] : (List Int))) rfl rfl (by first | rfl | simp) rfl ?_
    obtain ⟨x14, h15, h19⟩ := bnd h19
    refine go ?_;intros
    refine r_cat rfl rfl h15 ?_
    refine go ?_;intros
    exact k_ln2 _ (Nat.lt_succ_self _) ⟨_, _, _, h19, rfl, pin, pinh⟩
   replace h19 := itf h19 c
   try rw [c]
   refine go ?_;intros
   cases h19
   exact k_cn ⟨pin, pinh⟩
 rintro t o ⟨pq1, pq2⟩
 refine pinned pq1 pq2 ?_
 obtain ⟨x17, h18, h⟩ := bnd h
 refine go ?_;intros
 refine r_cat rfl rfl h18 ?_
 refine go ?_;intros
 cases h
 exact r_end
theorem d_cb9 {G : Gam}  (a0 : (List Pt)) (a1 : Int) (r : (Int × (List Pt))) (h : gf_cb9 a0 a1 = some r) : Does G if_cb9 ks_cb9 (c_cb9.args (a0, a1)) (c_cb9.ins (a0, a1)) (c_cb9.ans (a0, a1) r) := by
 refine does_pg (L := fun bs => [(0, .ref 0 (bs 0).1 (bs 0).2 0 a0.length 66), (1, .v (.int .i64 a1))]) (H := fun bs => [(0, ent (bs 0).1 (bs 0).2 66 (List.map ePt a0))]) (fun bs => pin) (fun bs => pinh) fun bs t o => ?_
 show vwp _ ib_cb9 _ _
 unfold ib_cb9
 refine w_ir ?_
 unfold gf_cb9 at h
 obtain ⟨q16, h27, h⟩ := bnd h
 refine go ?_;intros
 refine w_last (fun t o => Pin t (ovr [(1, .v (.int .i64 q16.1))] t) ∧ PinH o (ovh [(0, ent (bs 0).1 (bs 0).2 66 (List.map ePt q16.2))] o)) ?_ ?_
 ·refine w_loop2 (fun n t o => ∃ n20 v17 v18 v19 , gl_cb9_1 n20 v17 v18 v19 = some q16 ∧ n20 = n ∧ Pin t (ovr [(0, .ref 0 (bs 0).1 (bs 0).2 0 v19.length 66), (1, .v (.int .i64 v17)), (5, .v (.int .i64 v18))] t) ∧ PinH o (ovh [(0, ent (bs 0).1 (bs 0).2 66 (List.map ePt v19))] o)) _ ⟨_, _, _, _, h27, rfl, pin, pinh⟩ ?_
  rintro n t o ⟨n20, v17, v18, v19, h27, rfl, pq1, pq2⟩
  refine pinned pq1 pq2 ?_
  cases n20 with
  | zero => rw [gl_cb9_1] at h27; cases h27
  | succ n20 =>
   rw [gl_cb9_1] at h27
   refine go ?_;intros
   refine w_cond rfl (fun c => ?_) (fun c => ?_)
   ·replace h27 := itt h27 (by first | exact c | (have c2 := c; simp only [List.length_map] at c2; exact c2))
    try rw [c]
    obtain ⟨x21, h22, h27⟩ := bnd h27
    refine go ?_;intros
    refine r_ire (xs := v19) rfl rfl h22 rfl ?_
    refine go ?_;intros
    refine c_ste (f := ePt) v19 (⟨v17, x21.y⟩ : Pt) (idx_get h22).2 ?_
    obtain ⟨x23, h24, h27⟩ := bnd h27
    refine go ?_;intros
    refine r_ire (xs := (List.set v19 v18.toNat (⟨v17, x21.y⟩ : Pt))) rfl rfl h24 rfl ?_
    refine go ?_;intros
    refine c_ste (f := ePt) (List.set v19 v18.toNat (⟨v17, x21.y⟩ : Pt)) (⟨x23.x, (IntKind.i64.wrap (v17 + 1))⟩ : Pt) (idx_get h24).2 ?_
    refine go ?_;intros
    exact k_ln2 _ (Nat.lt_succ_self _) ⟨_, _, _, _, h27, rfl, pin, pinh⟩
   replace h27 := itf h27 (by first | exact c | (have c2 := c; simp only [List.length_map] at c2; exact c2))
   try rw [c]
   refine go ?_;intros
   cases h27
   exact k_cn ⟨pin, pinh⟩
 rintro t o ⟨pq1, pq2⟩
 refine pinnedQ pq1 pq2 ?_
 refine go ?_;intros
 cases h
 exact r_endg
theorem d_cd9 {G : Gam} (H_ce9 : Has G c_ce9) (a0 : (List Tag)) (a1 : Int) (r : (Int × (List Tag))) (h : gf_cd9 a0 a1 = some r) : Does G if_cd9 ks_cd9 (c_cd9.args (a0, a1)) (c_cd9.ins (a0, a1)) (c_cd9.ans (a0, a1) r) := by
 refine does_pg (L := fun bs => [(0, .ref 0 (bs 0).1 (bs 0).2 0 a0.length 82), (1, .v (.int .i64 a1))]) (H := fun bs => [(0, ent (bs 0).1 (bs 0).2 82 (List.map eTag a0))]) (fun bs => pin) (fun bs => pinh) fun bs t o => ?_
 show vwp _ ib_cd9 _ _
 unfold ib_cd9
 refine w_ir ?_
 unfold gf_cd9 at h
 obtain ⟨q28, h43, h⟩ := bnd h
 refine go ?_;intros
 refine w_last (fun t o => Pin t (ovr [(1, .v (.int .i64 q28.1))] t) ∧ PinH o (ovh [(0, ent (bs 0).1 (bs 0).2 82 (List.map eTag q28.2))] o)) ?_ ?_
 ·refine w_loop2 (fun n t o => ∃ n32 v29 v30 v31 , gl_cd9_1 n32 v29 v30 v31 = some q28 ∧ n32 = n ∧ Pin t (ovr [(0, .ref 0 (bs 0).1 (bs 0).2 0 v31.length 82), (1, .v (.int .i64 v29)), (5, .v (.int .i64 v30))] t) ∧ PinH o (ovh [(0, ent (bs 0).1 (bs 0).2 82 (List.map eTag v31))] o)) _ ⟨_, _, _, _, h43, rfl, pin, pinh⟩ ?_
  rintro n t o ⟨n32, v29, v30, v31, h43, rfl, pq1, pq2⟩
  refine pinned pq1 pq2 ?_
  cases n32 with
  | zero => rw [gl_cd9_1] at h43; cases h43
  | succ n32 =>
   rw [gl_cd9_1] at h43
   refine go ?_;intros
   refine w_cond rfl (fun c => ?_) (fun c => ?_)
   ·replace h43 := itt h43 (by first | exact c | (have c2 := c; simp only [List.length_map] at c2; exact c2))
    try rw [c]
    obtain ⟨x33, h34, h43⟩ := bnd h43
    refine go ?_;intros
    refine c_call (c := c_ce9) (v29) H_ce9 h34 fun ch => ?_
    obtain ⟨x35, h36, h43⟩ := bnd h43
    refine go ?_;intros
    refine r_ire (xs := v31) rfl rfl h36 rfl ?_
    refine go ?_;intros
    refine c_ste (f := eTag) v31 (⟨x33, x35.val⟩ : Tag) (idx_get h36).2 ?_
    obtain ⟨x37, h38, h43⟩ := bnd h43
    refine go ?_;intros
    refine c_call (c := c_ce9) ((IntKind.i64.wrap (v29 + 1))) H_ce9 h38 fun ch => ?_
    obtain ⟨x39, h40, h43⟩ := bnd h43
    refine go ?_;intros
    refine r_ire (xs := (List.set v31 v30.toNat (⟨x33, x35.val⟩ : Tag))) rfl rfl h40 rfl ?_
    refine go ?_;intros
    refine c_ste (f := eTag) (List.set v31 v30.toNat (⟨x33, x35.val⟩ : Tag)) (⟨x39.key, x37⟩ : Tag) (idx_get h40).2 ?_
    refine go ?_;intros
    exact k_ln2 _ (Nat.lt_succ_self _) ⟨_, _, _, _, h43, rfl, pin, pinh⟩
   replace h43 := itf h43 (by first | exact c | (have c2 := c; simp only [List.length_map] at c2; exact c2))
   try rw [c]
   refine go ?_;intros
   cases h43
   exact k_cn ⟨pin, pinh⟩
 rintro t o ⟨pq1, pq2⟩
 refine pinnedQ pq1 pq2 ?_
 refine go ?_;intros
 cases h
 exact r_endg
theorem d_ca9 {G : Gam}  (a0 : (List Int)) (a1 : Int) (r : (Int × (List Int))) (h : gf_ca9 a0 a1 = some r) : Does G if_ca9 ks_ca9 (c_ca9.args (a0, a1)) (c_ca9.ins (a0, a1)) (c_ca9.ans (a0, a1) r) := by
 refine does_pg (L := fun bs => [(0, .ref 0 (bs 0).1 (bs 0).2 0 a0.length 17), (1, .v (.int .i64 a1))]) (H := fun bs => [(0, ent (bs 0).1 (bs 0).2 17 (List.map eInt a0))]) (fun bs => pin) (fun bs => pinh) fun bs t o => ?_
 show vwp _ ib_ca9 _ _
 unfold ib_ca9
 refine w_ir ?_
 unfold gf_ca9 at h
 obtain ⟨q12, h21, h⟩ := bnd h
 refine go ?_;intros
 refine w_last (fun t o => Pin t (ovr [(1, .v (.int .i64 q12.1))] t) ∧ PinH o (ovh [(0, ent (bs 0).1 (bs 0).2 17 (List.map eInt q12.2))] o)) ?_ ?_
 ·refine w_loop2 (fun n t o => ∃ n16 v13 v14 v15 , gl_ca9_1 n16 v13 v14 v15 = some q12 ∧ n16 = n ∧ Pin t (ovr [(0, .ref 0 (bs 0).1 (bs 0).2 0 v15.length 17), (1, .v (.int .i64 v13)), (5, .v (.int .i64 v14))] t) ∧ PinH o (ovh [(0, ent (bs 0).1 (bs 0).2 17 (List.map eInt v15))] o)) _ ⟨_, _, _, _, h21, rfl, pin, pinh⟩ ?_
  rintro n t o ⟨n16, v13, v14, v15, h21, rfl, pq1, pq2⟩
  refine pinned pq1 pq2 ?_
  cases n16 with
  | zero => rw [gl_ca9_1] at h21; cases h21
  | succ n16 =>
   rw [gl_ca9_1] at h21
   refine go ?_;intros
   refine w_cond rfl (fun c => ?_) (fun c => ?_)
   ·replace h21 := itt h21 (by first | exact c | (have c2 := c; simp only [List.length_map] at c2; exact c2))
    try rw [c]
    obtain ⟨x17, h18, h21⟩ := bnd h21
    refine go ?_;intros
    refine r_ire (xs := v15) rfl rfl h18 rfl ?_
    refine go ?_;intros
    refine c_ste (f := eInt) v15 v13 (idx_get h18).2 ?_
    refine go ?_;intros
    exact k_ln2 _ (Nat.lt_succ_self _) ⟨_, _, _, _, h21, rfl, pin, pinh⟩
   replace h21 := itf h21 (by first | exact c | (have c2 := c; simp only [List.length_map] at c2; exact c2))
   try rw [c]
   refine go ?_;intros
   cases h21
   exact k_cn ⟨pin, pinh⟩
 rintro t o ⟨pq1, pq2⟩
 refine pinnedQ pq1 pq2 ?_
 refine go ?_;intros
 cases h
 exact r_endg
theorem d_by9 {G : Gam} (H_ce9 : Has G c_ce9) (H_cb9 : Has G c_cb9) (H_cd9 : Has G c_cd9) (a0 : (List Feat)) (a1 : Int) (r : (Int × (List Feat))) (h : gf_by9 a0 a1 = some r) : Does G if_by9 ks_by9 (c_by9.args (a0, a1)) (c_by9.ins (a0, a1)) (c_by9.ans (a0, a1) r) := by
 refine does_pg (L := fun bs => [(0, .ref 0 (bs 0).1 (bs 0).2 0 a0.length 100), (1, .v (.int .i64 a1))]) (H := fun bs => [(0, ent (bs 0).1 (bs 0).2 100 (List.map (eFeat true) a0))]) (fun bs => pin) (fun bs => pinh) fun bs t o => ?_
 show vwp _ ib_by9 _ _
 unfold ib_by9
 refine w_ir ?_
 unfold gf_by9 at h
 obtain ⟨q58, h83, h⟩ := bnd h
 refine go ?_;intros
 refine w_last (fun t o => Pin t (ovr [(1, .v (.int .i64 q58.1))] t) ∧ PinH o (ovh [(0, ent (bs 0).1 (bs 0).2 100 (List.map (eFeat true) q58.2))] o)) ?_ ?_
 ·refine w_loop2 (fun n t o => ∃ n62 v59 v60 v61 , gl_by9_1 n62 v59 v60 v61 = some q58 ∧ n62 = n ∧ Pin t (ovr [(0, .ref 0 (bs 0).1 (bs 0).2 0 v61.length 100), (1, .v (.int .i64 v59)), (5, .v (.int .i64 v60))] t) ∧ PinH o (ovh [(0, ent (bs 0).1 (bs 0).2 100 (List.map (eFeat true) v61))] o)) _ ⟨_, _, _, _, h83, rfl, pin, pinh⟩ ?_
  rintro n t o ⟨n62, v59, v60, v61, h83, rfl, pq1, pq2⟩
  refine pinned pq1 pq2 ?_
  cases n62 with
  | zero => rw [gl_by9_1] at h83; cases h83
  | succ n62 =>
   rw [gl_by9_1] at h83
   refine go ?_;intros
   refine w_cond rfl (fun c => ?_) (fun c => ?_)
   ·replace h83 := itt h83 (by first | exact c | (have c2 := c; simp only [List.length_map] at c2; exact c2))
    try rw [c]
    obtain ⟨x63, h64, h83⟩ := bnd h83
    refine go ?_;intros
    refine c_call (c := c_ce9) (v59) H_ce9 h64 fun ch => ?_
    obtain ⟨x65, h66, h83⟩ := bnd h83
    refine go ?_;intros
    refine r_ire (xs := v61) rfl rfl h66 rfl ?_
    refine go ?_;intros
    refine c_ste (f := (eFeat true)) v61 (⟨x63, x65.shape, x65.tags⟩ : Feat) (idx_get h66).2 ?_
    obtain ⟨x67, h68, h83⟩ := bnd h83
    refine go ?_;intros
    refine r_ire (xs := (List.set v61 v60.toNat (⟨x63, x65.shape, x65.tags⟩ : Feat))) rfl rfl h68 rfl ?_
    refine go ?_;intros
    refine c_ste (f := (eFeat true)) (List.set v61 v60.toNat (⟨x63, x65.shape, x65.tags⟩ : Feat)) (⟨x67.id, ⟨(IntKind.i64.wrap (v59 + 1)), x67.shape.pts⟩, x67.tags⟩ : Feat) (idx_get h68).2 ?_
    obtain ⟨x69, h70, h83⟩ := bnd h83
    refine go ?_;intros
    refine r_ire (xs := (List.set (List.set v61 v60.toNat (⟨x63, x65.shape, x65.tags⟩ : Feat)) v60.toNat (⟨x67.id, ⟨(IntKind.i64.wrap (v59 + 1)), x67.shape.pts⟩, x67.tags⟩ : Feat))) rfl rfl h70 rfl ?_
    refine go ?_;intros
    refine r_lopg (f := (eFeat true)) (g := ePt) (xs := (List.set (List.set v61 v60.toNat (⟨x63, x65.shape, x65.tags⟩ : Feat)) v60.toNat (⟨x67.id, ⟨(IntKind.i64.wrap (v59 + 1)), x67.shape.pts⟩, x67.tags⟩ : Feat))) (x := x69) (ys := x69.shape.pts) (idx_get h70).2 rfl rfl rfl fun b71 c72 => ?_
    refine go ?_;intros
    refine r_shut ?_
    obtain ⟨x73, h74, h83⟩ := bnd h83
    refine go ?_;intros
    have L74 := l_cb9 h74; (try dsimp only at L74); refine c_callg (c := c_cb9) (x69.shape.pts, (IntKind.i64.wrap ((IntKind.i64.wrap (v59 + 1)) + 1))) H_cb9 h74 fun ch => ?_
    refine go ?_;intros
    refine c_shg (f := (eFeat true)) (⟨x69.id, ⟨x69.shape.kind, x73.2⟩, x69.tags⟩ : Feat) (idx_get h70).2 ?_
    obtain ⟨x75, h76, h83⟩ := bnd h83
    refine go ?_;intros
    refine r_ire (xs := (List.set (List.set (List.set v61 v60.toNat (⟨x63, x65.shape, x65.tags⟩ : Feat)) v60.toNat (⟨x67.id, ⟨(IntKind.i64.wrap (v59 + 1)), x67.shape.pts⟩, x67.tags⟩ : Feat)) v60.toNat (⟨x69.id, ⟨x69.shape.kind, x73.2⟩, x69.tags⟩ : Feat))) rfl rfl h76 rfl ?_
    refine go ?_;intros
    refine r_lopg (f := (eFeat true)) (g := eTag) (xs := (List.set (List.set (List.set v61 v60.toNat (⟨x63, x65.shape, x65.tags⟩ : Feat)) v60.toNat (⟨x67.id, ⟨(IntKind.i64.wrap (v59 + 1)), x67.shape.pts⟩, x67.tags⟩ : Feat)) v60.toNat (⟨x69.id, ⟨x69.shape.kind, x73.2⟩, x69.tags⟩ : Feat))) (x := x75) (ys := x75.tags) (idx_get h76).2 rfl rfl rfl fun b77 c78 => ?_
    refine go ?_;intros
    refine r_shut ?_
    obtain ⟨x79, h80, h83⟩ := bnd h83
    refine go ?_;intros
    have L80 := l_cd9 h80; (try dsimp only at L80); refine c_callg (c := c_cd9) (x75.tags, x73.1) H_cd9 h80 fun ch => ?_
    refine go ?_;intros
    refine c_shg (f := (eFeat true)) (⟨x75.id, x75.shape, x79.2⟩ : Feat) (idx_get h76).2 ?_
    refine go ?_;intros
    exact k_ln2 _ (Nat.lt_succ_self _) ⟨_, _, _, _, h83, rfl, pin, pinh⟩
   replace h83 := itf h83 (by first | exact c | (have c2 := c; simp only [List.length_map] at c2; exact c2))
   try rw [c]
   refine go ?_;intros
   cases h83
   exact k_cn ⟨pin, pinh⟩
 rintro t o ⟨pq1, pq2⟩
 refine pinnedQ pq1 pq2 ?_
 refine go ?_;intros
 cases h
 exact r_endg
theorem d_bx9 {G : Gam} (H_ca9 : Has G c_ca9) (H_by9 : Has G c_by9) (H_ce9 : Has G c_ce9) (a0 : (List Commit)) (a1 : Int) (r : (Int × (List Commit))) (h : gf_bx9 a0 a1 = some r) : Does G if_bx9 ks_bx9 (c_bx9.args (a0, a1)) (c_bx9.ins (a0, a1)) (c_bx9.ans (a0, a1) r) := by
 refine does_pg (L := fun bs => [(0, .ref 0 (bs 0).1 (bs 0).2 0 a0.length 115), (1, .v (.int .i64 a1))]) (H := fun bs => [(0, ent (bs 0).1 (bs 0).2 115 (List.map (eCommit true) a0))]) (fun bs => pin) (fun bs => pinh) fun bs t o => ?_
 show vwp _ ib_bx9 _ _
 unfold ib_bx9
 refine w_ir ?_
 unfold gf_bx9 at h
 obtain ⟨q52, h75, h⟩ := bnd h
 refine go ?_;intros
 refine w_last (fun t o => Pin t (ovr [(1, .v (.int .i64 q52.1))] t) ∧ PinH o (ovh [(0, ent (bs 0).1 (bs 0).2 115 (List.map (eCommit true) q52.2))] o)) ?_ ?_
 ·refine w_loop2 (fun n t o => ∃ n56 v53 v54 v55 , gl_bx9_1 n56 v53 v54 v55 = some q52 ∧ n56 = n ∧ Pin t (ovr [(0, .ref 0 (bs 0).1 (bs 0).2 0 v55.length 115), (1, .v (.int .i64 v53)), (5, .v (.int .i64 v54))] t) ∧ PinH o (ovh [(0, ent (bs 0).1 (bs 0).2 115 (List.map (eCommit true) v55))] o)) _ ⟨_, _, _, _, h75, rfl, pin, pinh⟩ ?_
  rintro n t o ⟨n56, v53, v54, v55, h75, rfl, pq1, pq2⟩
  refine pinned pq1 pq2 ?_
  cases n56 with
  | zero => rw [gl_bx9_1] at h75; cases h75
  | succ n56 =>
   rw [gl_bx9_1] at h75
   refine go ?_;intros
   refine w_cond rfl (fun c => ?_) (fun c => ?_)
   ·replace h75 := itt h75 (by first | exact c | (have c2 := c; simp only [List.length_map] at c2; exact c2))
    try rw [c]
    obtain ⟨x57, h58, h75⟩ := bnd h75
    refine go ?_;intros
    refine r_ire (xs := v55) rfl rfl h58 rfl ?_
    refine go ?_;intros
    refine r_lopg (f := (eCommit true)) (g := eInt) (xs := v55) (x := x57) (ys := x57.up) (idx_get h58).2 rfl rfl rfl fun b59 c60 => ?_
    refine go ?_;intros
    refine r_shut ?_
    obtain ⟨x61, h62, h75⟩ := bnd h75
    refine go ?_;intros
    have L62 := l_ca9 h62; (try dsimp only at L62); refine c_callg (c := c_ca9) (x57.up, v53) H_ca9 h62 fun ch => ?_
    refine go ?_;intros
    refine c_shg (f := (eCommit true)) (⟨x61.2, x57.sheet, x57.note⟩ : Commit) (idx_get h58).2 ?_
    obtain ⟨x63, h64, h75⟩ := bnd h75
    refine go ?_;intros
    refine r_ire (xs := (List.set v55 v54.toNat (⟨x61.2, x57.sheet, x57.note⟩ : Commit))) rfl rfl h64 rfl ?_
    refine go ?_;intros
    refine r_lopg (f := (eCommit true)) (g := (eFeat true)) (xs := (List.set v55 v54.toNat (⟨x61.2, x57.sheet, x57.note⟩ : Commit))) (x := x63) (ys := x63.sheet) (idx_get h64).2 rfl rfl rfl fun b65 c66 => ?_
    refine go ?_;intros
    refine r_shut ?_
    obtain ⟨x67, h68, h75⟩ := bnd h75
    refine go ?_;intros
    have L68 := l_by9 h68; (try dsimp only at L68); refine c_callg (c := c_by9) (x63.sheet, x61.1) H_by9 h68 fun ch => ?_
    refine go ?_;intros
    refine c_shg (f := (eCommit true)) (⟨x63.up, x67.2, x63.note⟩ : Commit) (idx_get h64).2 ?_
    obtain ⟨x69, h70, h75⟩ := bnd h75
    refine go ?_;intros
    refine c_call (c := c_ce9) (x67.1) H_ce9 h70 fun ch => ?_
    obtain ⟨x71, h72, h75⟩ := bnd h75
    refine go ?_;intros
    refine r_ire (xs := (List.set (List.set v55 v54.toNat (⟨x61.2, x57.sheet, x57.note⟩ : Commit)) v54.toNat (⟨x63.up, x67.2, x63.note⟩ : Commit))) rfl rfl h72 rfl ?_
    refine go ?_;intros
    refine c_ste (f := (eCommit true)) (List.set (List.set v55 v54.toNat (⟨x61.2, x57.sheet, x57.note⟩ : Commit)) v54.toNat (⟨x63.up, x67.2, x63.note⟩ : Commit)) (⟨x71.up, x71.sheet, x69⟩ : Commit) (idx_get h72).2 ?_
    refine go ?_;intros
    exact k_ln2 _ (Nat.lt_succ_self _) ⟨_, _, _, _, h75, rfl, pin, pinh⟩
   replace h75 := itf h75 (by first | exact c | (have c2 := c; simp only [List.length_map] at c2; exact c2))
   try rw [c]
   refine go ?_;intros
   cases h75
   exact k_cn ⟨pin, pinh⟩
 rintro t o ⟨pq1, pq2⟩
 refine pinnedQ pq1 pq2 ?_
 refine go ?_;intros
 cases h
 exact r_endg
theorem d_bz9 {G : Gam} (H_ce9 : Has G c_ce9) (a0 : (List Head)) (a1 : Int) (r : (Int × (List Head))) (h : gf_bz9 a0 a1 = some r) : Does G if_bz9 ks_bz9 (c_bz9.args (a0, a1)) (c_bz9.ins (a0, a1)) (c_bz9.ans (a0, a1) r) := by
 refine does_pg (L := fun bs => [(0, .ref 0 (bs 0).1 (bs 0).2 0 a0.length 130), (1, .v (.int .i64 a1))]) (H := fun bs => [(0, ent (bs 0).1 (bs 0).2 130 (List.map eHead a0))]) (fun bs => pin) (fun bs => pinh) fun bs t o => ?_
 show vwp _ ib_bz9 _ _
 unfold ib_bz9
 refine w_ir ?_
 unfold gf_bz9 at h
 obtain ⟨q22, h35, h⟩ := bnd h
 refine go ?_;intros
 refine w_last (fun t o => Pin t (ovr [(1, .v (.int .i64 q22.1))] t) ∧ PinH o (ovh [(0, ent (bs 0).1 (bs 0).2 130 (List.map eHead q22.2))] o)) ?_ ?_
 ·refine w_loop2 (fun n t o => ∃ n26 v23 v24 v25 , gl_bz9_1 n26 v23 v24 v25 = some q22 ∧ n26 = n ∧ Pin t (ovr [(0, .ref 0 (bs 0).1 (bs 0).2 0 v25.length 130), (1, .v (.int .i64 v23)), (5, .v (.int .i64 v24))] t) ∧ PinH o (ovh [(0, ent (bs 0).1 (bs 0).2 130 (List.map eHead v25))] o)) _ ⟨_, _, _, _, h35, rfl, pin, pinh⟩ ?_
  rintro n t o ⟨n26, v23, v24, v25, h35, rfl, pq1, pq2⟩
  refine pinned pq1 pq2 ?_
  cases n26 with
  | zero => rw [gl_bz9_1] at h35; cases h35
  | succ n26 =>
   rw [gl_bz9_1] at h35
   refine go ?_;intros
   refine w_cond rfl (fun c => ?_) (fun c => ?_)
   ·replace h35 := itt h35 (by first | exact c | (have c2 := c; simp only [List.length_map] at c2; exact c2))
    try rw [c]
    obtain ⟨x27, h28, h35⟩ := bnd h35
    refine go ?_;intros
    refine c_call (c := c_ce9) (v23) H_ce9 h28 fun ch => ?_
    obtain ⟨x29, h30, h35⟩ := bnd h35
    refine go ?_;intros
    refine r_ire (xs := v25) rfl rfl h30 rfl ?_
    refine go ?_;intros
    refine c_ste (f := eHead) v25 (⟨x27, x29.at_⟩ : Head) (idx_get h30).2 ?_
    obtain ⟨x31, h32, h35⟩ := bnd h35
    refine go ?_;intros
    refine r_ire (xs := (List.set v25 v24.toNat (⟨x27, x29.at_⟩ : Head))) rfl rfl h32 rfl ?_
    refine go ?_;intros
    refine c_ste (f := eHead) (List.set v25 v24.toNat (⟨x27, x29.at_⟩ : Head)) (⟨x31.name, (IntKind.i64.wrap (v23 + 1))⟩ : Head) (idx_get h32).2 ?_
    refine go ?_;intros
    exact k_ln2 _ (Nat.lt_succ_self _) ⟨_, _, _, _, h35, rfl, pin, pinh⟩
   replace h35 := itf h35 (by first | exact c | (have c2 := c; simp only [List.length_map] at c2; exact c2))
   try rw [c]
   refine go ?_;intros
   cases h35
   exact k_cn ⟨pin, pinh⟩
 rintro t o ⟨pq1, pq2⟩
 refine pinnedQ pq1 pq2 ?_
 refine go ?_;intros
 cases h
 exact r_endg
theorem d_bu9 {G : Gam}  (a0 : (List Pt)) (a1 : Int) (r : Int) (h : gf_bu9 a0 a1 = some r) : Does G if_bu9 ks_bu9 (c_bu9.args (a0, a1)) [] (c_bu9.ans (a0, a1) r) := by
 refine does_pn (L := [(0, .ro (List.map ePt a0)), (1, .v (.int .i64 a1))]) (fun bs => pin) fun bs t o => ?_
 show vwp _ ib_bu9 _ _
 unfold ib_bu9
 refine w_ir ?_
 unfold gf_bu9 at h
 obtain ⟨hf20, h⟩ := gd h
 obtain ⟨q9, h22, h⟩ := bnd h
 refine go ?_;intros
 refine w_last (fun t o => ∃ q9_, q9 = .inr q9_ ∧ Pin t (ovr [(1, .v (.int .i64 q9_))] t) ∧ PinH o (ovh [] o)) ?_ ?_
 ·refine w_loop2 (fun n t o => ∃ l14 k12 v10 , gl_bu9_1 l14 k12 v10 = some q9 ∧ n = l14.length ∧ (a0).drop k12 = l14 ∧ Pin t (ovr [(0, .ro (List.map ePt a0)), (1, .v (.int .i64 v10)), (5, .v (.int .i64 (k12 : Int)))] t) ∧ PinH o (ovh [] o)) _ ⟨_, _, _, h22, rfl, rfl, pin, pinh⟩ ?_
  rintro n t o ⟨l14, k12, v10, h22, rfl, hd15, pq1, pq2⟩
  refine pinned pq1 pq2 ?_
  cases l14 with
  | nil =>
   have hge17 := drop_ge hd15
   rw [gl_bu9_1] at h22
   refine go ?_;intros
   rw [hge17]
   refine go ?_;intros
   cases h22
   exact k_cn ⟨_, rfl, pin, pinh⟩
  | cons x13 l14 =>
   have hlt16 := drop_lt hd15
   have hx18 := drop_ix hd15
   have hw19 := drop_wr hd15 hf20
   rw [gl_bu9_1] at h22
   refine go ?_;intros
   rw [hlt16]
   refine go ?_;intros
   refine r_iro rfl rfl hx18 rfl ?_
   refine go ?_;intros
   refine w_cond rfl (fun c => ?_) (fun c => ?_)
   ·replace h22 := itt h22 c
    try rw [c]
    refine go ?_;intros
    cases h22
    replace h : some _ = some _ := h
    cases h
    exact r_end
   replace h22 := itf h22 c
   try rw [c]
   refine go ?_;intros
   refine r_iro rfl rfl hx18 rfl ?_
   refine go ?_;intros
   refine w_cond rfl (fun c => ?_) (fun c => ?_)
   ·replace h22 := itt h22 c
    try rw [c]
    refine go ?_;intros
    cases h22
    replace h : some _ = some _ := h
    cases h
    exact r_end
   replace h22 := itf h22 c
   try rw [c]
   refine go ?_;intros
   rw [hw19]
   exact k_ln2 _ (Nat.lt_succ_self _) ⟨_, _, _, h22, rfl, drop_next hd15, pin, pinh⟩
 rintro t o ⟨q9, rfl, pq1, pq2⟩
 refine pinnedQ pq1 pq2 ?_
 refine go ?_;intros
 cases h
 exact r_end
theorem d_bw9 {G : Gam} (H_ce9 : Has G c_ce9) (a0 : (List Tag)) (a1 : Int) (r : Int) (h : gf_bw9 a0 a1 = some r) : Does G if_bw9 ks_bw9 (c_bw9.args (a0, a1)) [] (c_bw9.ans (a0, a1) r) := by
 refine does_pn (L := [(0, .ro (List.map eTag a0)), (1, .v (.int .i64 a1))]) (fun bs => pin) fun bs t o => ?_
 show vwp _ ib_bw9 _ _
 unfold ib_bw9
 refine w_ir ?_
 unfold gf_bw9 at h
 obtain ⟨hf32, h⟩ := gd h
 obtain ⟨q21, h38, h⟩ := bnd h
 refine go ?_;intros
 refine w_last (fun t o => ∃ q21_, q21 = .inr q21_ ∧ Pin t (ovr [(1, .v (.int .i64 q21_))] t) ∧ PinH o (ovh [] o)) ?_ ?_
 ·refine w_loop2 (fun n t o => ∃ l26 k24 v22 , gl_bw9_1 l26 k24 v22 = some q21 ∧ n = l26.length ∧ (a0).drop k24 = l26 ∧ Pin t (ovr [(0, .ro (List.map eTag a0)), (1, .v (.int .i64 v22)), (5, .v (.int .i64 (k24 : Int)))] t) ∧ PinH o (ovh [] o)) _ ⟨_, _, _, h38, rfl, rfl, pin, pinh⟩ ?_
  rintro n t o ⟨l26, k24, v22, h38, rfl, hd27, pq1, pq2⟩
  refine pinned pq1 pq2 ?_
  cases l26 with
  | nil =>
   have hge29 := drop_ge hd27
   rw [gl_bw9_1] at h38
   refine go ?_;intros
   rw [hge29]
   refine go ?_;intros
   cases h38
   exact k_cn ⟨_, rfl, pin, pinh⟩
  | cons x25 l26 =>
   have hlt28 := drop_lt hd27
   have hx30 := drop_ix hd27
   have hw31 := drop_wr hd27 hf32
   rw [gl_bw9_1] at h38
   refine go ?_;intros
   rw [hlt28]
   refine go ?_;intros
   refine r_iro rfl rfl hx30 rfl ?_
   obtain ⟨x33, h34, h38⟩ := bnd h38
   refine go ?_;intros
   refine c_call (c := c_ce9) (v22) H_ce9 h34 fun ch => ?_
   refine go ?_;intros
   refine w_cond rfl (fun c => ?_) (fun c => ?_)
   ·replace h38 := itt h38 c
    try rw [c]
    refine go ?_;intros
    cases h38
    replace h : some _ = some _ := h
    cases h
    exact r_end
   replace h38 := itf h38 c
   try rw [c]
   refine go ?_;intros
   refine r_iro rfl rfl hx30 rfl ?_
   obtain ⟨x35, h36, h38⟩ := bnd h38
   refine go ?_;intros
   refine c_call (c := c_ce9) ((IntKind.i64.wrap (v22 + 1))) H_ce9 h36 fun ch => ?_
   refine go ?_;intros
   refine w_cond rfl (fun c => ?_) (fun c => ?_)
   ·replace h38 := itt h38 c
    try rw [c]
    refine go ?_;intros
    cases h38
    replace h : some _ = some _ := h
    cases h
    exact r_end
   replace h38 := itf h38 c
   try rw [c]
   refine go ?_;intros
   rw [hw31]
   exact k_ln2 _ (Nat.lt_succ_self _) ⟨_, _, _, h38, rfl, drop_next hd27, pin, pinh⟩
 rintro t o ⟨q21, rfl, pq1, pq2⟩
 refine pinnedQ pq1 pq2 ?_
 refine go ?_;intros
 cases h
 exact r_end
theorem d_bt9 {G : Gam}  (a0 : (List Int)) (a1 : Int) (r : Int) (h : gf_bt9 a0 a1 = some r) : Does G if_bt9 ks_bt9 (c_bt9.args (a0, a1)) [] (c_bt9.ans (a0, a1) r) := by
 refine does_pn (L := [(0, .ro (List.map eInt a0)), (1, .v (.int .i64 a1))]) (fun bs => pin) fun bs t o => ?_
 show vwp _ ib_bt9 _ _
 unfold ib_bt9
 refine w_ir ?_
 unfold gf_bt9 at h
 obtain ⟨hf22, h⟩ := gd h
 obtain ⟨q11, h24, h⟩ := bnd h
 refine go ?_;intros
 refine w_last (fun t o => ∃ q11_, q11 = .inr q11_ ∧ Pin t (ovr [(1, .v (.int .i64 q11_))] t) ∧ PinH o (ovh [] o)) ?_ ?_
 ·refine w_loop2 (fun n t o => ∃ l16 k14 v12 , gl_bt9_1 l16 k14 v12 = some q11 ∧ n = l16.length ∧ (a0).drop k14 = l16 ∧ Pin t (ovr [(0, .ro (List.map eInt a0)), (1, .v (.int .i64 v12)), (5, .v (.int .i64 (k14 : Int)))] t) ∧ PinH o (ovh [] o)) _ ⟨_, _, _, h24, rfl, rfl, pin, pinh⟩ ?_
  rintro n t o ⟨l16, k14, v12, h24, rfl, hd17, pq1, pq2⟩
  refine pinned pq1 pq2 ?_
  cases l16 with
  | nil =>
   have hge19 := drop_ge hd17
   rw [gl_bt9_1] at h24
   refine go ?_;intros
   rw [hge19]
   refine go ?_;intros
   cases h24
   exact k_cn ⟨_, rfl, pin, pinh⟩
  | cons x15 l16 =>
   have hlt18 := drop_lt hd17
   have hx20 := drop_ix hd17
   have hw21 := drop_wr hd17 hf22
   rw [gl_bt9_1] at h24
   refine go ?_;intros
   rw [hlt18]
   refine go ?_;intros
   refine r_iro rfl rfl hx20 rfl ?_
   refine go ?_;intros
   refine w_cond rfl (fun c => ?_) (fun c => ?_)
   ·replace h24 := itt h24 c
    try rw [c]
    refine go ?_;intros
    cases h24
    replace h : some _ = some _ := h
    cases h
    exact r_end
   replace h24 := itf h24 c
   try rw [c]
   refine go ?_;intros
   rw [hw21]
   exact k_ln2 _ (Nat.lt_succ_self _) ⟨_, _, _, h24, rfl, drop_next hd17, pin, pinh⟩
 rintro t o ⟨q11, rfl, pq1, pq2⟩
 refine pinnedQ pq1 pq2 ?_
 refine go ?_;intros
 cases h
 exact r_end
end Go.Proofs.AM
