/- A part of the proofs of this seat's statements (UF4): lemmas on an abstract machine for the program's functions. Conditions: none. -/
import Derived.Test.YtggnnoghnkcmpaaUD
set_option linter.unusedVariables false
set_option maxRecDepth 100000
set_option maxHeartbeats 4000000
namespace Go.Proofs.AM
attribute [local irreducible] vwp vstps vstpLs vstp vdo vret kseq kblk kloop kend kcut kloop2 frzV renV shutK
theorem d_spec_l7In {G : Gam} (H_spec_RepoOk : Has G c_spec_RepoOk) (a0 : Repo) (a1 : Int) (r : Bool) (h : gf_spec_l7In a0 a1 = some r) : Does G if_spec_l7In ks_spec_l7In (c_spec_l7In.args (a0, a1)) [] (c_spec_l7In.ans (a0, a1) r) := by
  refine does_pn (L := [(0, .agg [.ro (List.map (eCommit false) a0.commits), .ro (List.map eHead a0.heads)]), (1, .v (.int .i64 a1))]) (fun bs => pin) fun bs t o => ?_
  show vwp _ ib_spec_l7In _ _
  unfold ib_spec_l7In
  unfold gf_spec_l7In at h
  obtain ⟨x2, h3, h⟩ := bnd h
  refine go ?_; intros
  refine c_call (c := c_spec_RepoOk) (a0) H_spec_RepoOk h3 fun ch => ?_
  refine go ?_; intros
  refine s_split rfl (fun c => ?_) (fun c => ?_)
  · replace h := itt h c
    rw [c]
    refine go ?_; intros
    refine s_split rfl (fun c => ?_) (fun c => ?_)
    · replace h := itt h c
      rw [c]
      refine go ?_; intros
      cases h
      exact r_end
    replace h := itf h c
    rw [c]
    refine go ?_; intros
    cases h
    exact r_end
  replace h := itf h c
  rw [c]
  refine go ?_; intros
  cases h
  exact r_end
theorem d_spec_l7Marks {G : Gam}  (a0 : Repo) (a1 : (List Int)) (r : (List Bool)) (h : gf_spec_l7Marks a0 a1 = some r) : Does G if_spec_l7Marks ks_spec_l7Marks (c_spec_l7Marks.args (a0, a1)) [] (c_spec_l7Marks.ans (a0, a1) r) := by
  refine does_pn (L := [(0, .agg [.ro (List.map (eCommit false) a0.commits), .ro (List.map eHead a0.heads)]), (1, .ro (List.map eInt a1))]) (fun bs => pin) fun bs t o => ?_
  show vwp _ ib_spec_l7Marks _ _
  unfold ib_spec_l7Marks
  unfold gf_spec_l7Marks at h
  obtain ⟨h4, h⟩ := gd h
  refine go ?_; intros
  refine r_mks (f := eBool) (x := false) rfl rfl (band1 h4) (band2 h4) rfl fun b2 => ?_
  obtain ⟨hf39, h⟩ := gd h
  obtain ⟨q25, h268, h⟩ := bnd h
  refine go ?_; intros
  refine w_last (fun t o => ∃ b42 b44 c45, Pin t (ovr [(2, .ptr 16 b42 210 0 0), (5, .ref 96 b44 c45 0 q25.length 33)] t) ∧ PinH o (ovh [(16, ⟨b42, 1, 210, true, [[.sl false 3 (List.map (eCommit false) a0.commits), .sl false 2 (List.map eHead a0.heads)]]⟩), (96, ent b44 c45 33 (List.map eBool q25))] o)) ?_ ?_
  · refine w_loop2 (fun n t o => ∃ l33 k31 v28 b27 b29 c30, gl_spec_l7Marks_1 l33 k31 v28 = some q25 ∧ n = l33.length ∧ (a1).drop k31 = l33 ∧ Pin t (ovr [(1, .ro (List.map eInt a1)), (2, .ptr 16 b27 210 0 0), (5, .ref 96 b29 c30 0 v28.length 33), (6, .v (.int .i64 (k31 : Int)))] t) ∧ PinH o (ovh [(16, ⟨b27, 1, 210, true, [[.sl false 3 (List.map (eCommit false) a0.commits), .sl false 2 (List.map eHead a0.heads)]]⟩), (96, ent b29 c30 33 (List.map eBool v28))] o)) _ ⟨_, _, _, _, _, _, h268, rfl, rfl, pin, pinh⟩ ?_
    rintro n t o ⟨l33, k31, v28, b27, b29, c30, h268, rfl, hd34, q1, q2⟩
    refine pinned q1 q2 ?_
    cases l33 with
    | nil =>
      have hge36 := drop_ge hd34
      rw [gl_spec_l7Marks_1] at h268
      refine go ?_; intros
      rw [hge36]
      refine go ?_; intros
      cases h268
      exact k_cn ⟨_, _, _, pin, pinh⟩
    | cons x32 l33 =>
      have hlt35 := drop_lt hd34
      have hx37 := drop_ix hd34
      have hw38 := drop_wr hd34 hf39
      rw [gl_spec_l7Marks_1] at h268
      refine go ?_; intros
      rw [hlt35]
      refine go ?_; intros
      refine r_iro rfl rfl hx37 rfl ?_
      obtain ⟨x40, h41, h268⟩ := bnd h268
      refine go ?_; intros
      refine r_ire (xs := v28) rfl rfl h41 rfl ?_
      refine go ?_; intros
      refine c_ste (f := eBool) v28 true (idx_get h41).2 ?_
      refine go ?_; intros
      rw [hw38]
      exact k_ln2 _ (Nat.lt_succ_self _) ⟨_, _, _, _, _, _, h268, rfl, drop_next hd34, pin, pinh⟩
  rintro t o ⟨b42, b44, c45, q1, q2⟩
  refine pinnedQ q1 q2 ?_
  obtain ⟨q207, h269, h⟩ := bnd h
  refine go ?_; intros
  refine w_last (fun t o => ∃ b266 c267, Pin t (ovr [(5, .ref 96 b266 c267 0 q207.length 33)] t) ∧ PinH o (ovh [(96, ent b266 c267 33 (List.map eBool q207))] o)) ?_ ?_
  · refine w_loop2 (fun n t o => ∃ n213 v208 v210 b209 b211 c212, gl_spec_l7Marks_5 a0 n213 v208 v210 = some q207 ∧ n213 = n ∧ Pin t (ovr [(2, .ptr 16 b209 210 0 0), (5, .ref 96 b211 c212 0 v210.length 33), (7, .v (.int .i64 v208))] t) ∧ PinH o (ovh [(16, ⟨b209, 1, 210, true, [[.sl false 3 (List.map (eCommit false) a0.commits), .sl false 2 (List.map eHead a0.heads)]]⟩), (96, ent b211 c212 33 (List.map eBool v210))] o)) _ ⟨_, _, _, _, _, _, h269, rfl, pin, pinh⟩ ?_
    rintro n t o ⟨n213, v208, v210, b209, b211, c212, h269, rfl, q1, q2⟩
    refine pinned q1 q2 ?_
    cases n213 with
    | zero => rw [gl_spec_l7Marks_5] at h269; cases h269
    | succ n213 =>
      rw [gl_spec_l7Marks_5] at h269
      refine go ?_; intros
      refine w_cond rfl (fun c => ?_) (fun c => ?_)
      · replace h269 := itt h269 c
        try rw [c]
        obtain ⟨q246, h270, h269⟩ := bnd h269
        refine go ?_; intros
        refine w_last (fun t o => ∃ b261 b263 c264, Pin t (ovr [(2, .ptr 16 b261 210 0 0), (5, .ref 96 b263 c264 0 q246.length 33), (7, .v (.int .i64 v208))] t) ∧ PinH o (ovh [(16, ⟨b261, 1, 210, true, [[.sl false 3 (List.map (eCommit false) a0.commits), .sl false 2 (List.map eHead a0.heads)]]⟩), (96, ent b263 c264 33 (List.map eBool q246))] o)) ?_ ?_
        · refine w_loop2 (fun n t o => ∃ n252 v247 v249 b248 b250 c251, gl_spec_l7Marks_6 a0 v208 n252 v247 v249 = some q246 ∧ n252 = n ∧ Pin t (ovr [(2, .ptr 16 b248 210 0 0), (5, .ref 96 b250 c251 0 v249.length 33), (7, .v (.int .i64 v208)), (8, .v (.int .i64 v247))] t) ∧ PinH o (ovh [(16, ⟨b248, 1, 210, true, [[.sl false 3 (List.map (eCommit false) a0.commits), .sl false 2 (List.map eHead a0.heads)]]⟩), (96, ent b250 c251 33 (List.map eBool v249))] o)) _ ⟨_, _, _, _, _, _, h270, rfl, pin, pinh⟩ ?_
          rintro n t o ⟨n252, v247, v249, b248, b250, c251, h270, rfl, q1, q2⟩
          refine pinned q1 q2 ?_
          cases n252 with
          | zero => rw [gl_spec_l7Marks_6] at h270; cases h270
          | succ n252 =>
            rw [gl_spec_l7Marks_6] at h270
            obtain ⟨x253, h254, h270⟩ := bnd h270
            refine go ?_; intros
            refine r_iro rfl rfl h254 rfl ?_
            refine go ?_; intros
            refine s_split rfl (fun c => ?_) (fun c => ?_)
            · replace h270 := itt h270 c
              rw [c]
              obtain ⟨x255, h256, h270⟩ := bnd h270
              refine go ?_; intros
              refine r_ire (xs := v249) rfl rfl h256 rfl ?_
              refine go ?_; intros
              refine r_lde (f := eBool) (xs := v249) (x := x255) rfl rfl (idx_get h256).2 rfl rfl rfl ?_
              refine go ?_; intros
              refine w_cond rfl (fun c => ?_) (fun c => ?_)
              · replace h270 := itt h270 c
                try rw [c]
                refine go ?_; intros
                refine r_iro rfl rfl h254 rfl ?_
                obtain ⟨x257, h258, h270⟩ := bnd h270
                refine go ?_; intros
                refine r_iro rfl rfl h258 rfl ?_
                obtain ⟨x259, h260, h270⟩ := bnd h270
                refine go ?_; intros
                refine r_ire (xs := v249) rfl rfl h260 rfl ?_
                refine go ?_; intros
                refine c_ste (f := eBool) v249 true (idx_get h260).2 ?_
                refine go ?_; intros
                exact k_ln2 _ (Nat.lt_succ_self _) ⟨_, _, _, _, _, _, h270, rfl, pin, pinh⟩
              replace h270 := itf h270 c
              try rw [c]
              refine go ?_; intros
              cases h270
              exact k_cn ⟨_, _, _, pin, pinh⟩
            replace h270 := itf h270 c
            rw [c]
            refine go ?_; intros
            cases h270
            exact k_cn ⟨_, _, _, pin, pinh⟩
        rintro t o ⟨b261, b263, c264, q1, q2⟩
        refine pinnedQ q1 q2 ?_
        refine go ?_; intros
        exact k_ln2 _ (Nat.lt_succ_self _) ⟨_, _, _, _, _, _, h269, rfl, pin, pinh⟩
      replace h269 := itf h269 c
      try rw [c]
      refine go ?_; intros
      cases h269
      exact k_cn ⟨_, _, pin, pinh⟩
  rintro t o ⟨b266, c267, q1, q2⟩
  refine pinnedQ q1 q2 ?_
  refine go ?_; intros
  cases h
  exact r_end
theorem d_spec_RepoBases {G : Gam} (H_spec_l7In : Has G c_spec_l7In) (H_spec_l7Marks : Has G c_spec_l7Marks) (a0 : Repo) (a1 : Int) (a2 : Int) (r : (List Int)) (h : gf_spec_RepoBases a0 a1 a2 = some r) : Does G if_spec_RepoBases ks_spec_RepoBases (c_spec_RepoBases.args (a0, a1, a2)) [] (c_spec_RepoBases.ans (a0, a1, a2) r) := by
  refine does_pn (L := [(0, .agg [.ro (List.map (eCommit false) a0.commits), .ro (List.map eHead a0.heads)]), (1, .v (.int .i64 a1)), (2, .v (.int .i64 a2))]) (fun bs => pin) fun bs t o => ?_
  show vwp _ ib_spec_RepoBases _ _
  unfold ib_spec_RepoBases
  unfold gf_spec_RepoBases at h
  obtain ⟨x3, h4, h⟩ := bnd h
  refine go ?_; intros
  refine c_call (c := c_spec_l7In) (a0, a1) H_spec_l7In h4 fun ch => ?_
  refine go ?_; intros
  refine s_split rfl (fun c => ?_) (fun c => ?_)
  · replace h := itt h c
    rw [c]
    refine go ?_; intros
    cases h
    exact r_end
  replace h := itf h c
  rw [c]
  obtain ⟨x5, h6, h⟩ := bnd h
  refine go ?_; intros
  refine c_call (c := c_spec_l7In) (a0, a2) H_spec_l7In h6 fun ch => ?_
  refine go ?_; intros
  refine w_cond rfl (fun c => ?_) (fun c => ?_)
  · replace h := itt h c
    try rw [c]
    refine go ?_; intros
    cases h
    exact r_end
  replace h := itf h c
  try rw [c]
  obtain ⟨x8, h9, h⟩ := bnd h
  refine go ?_; intros
  refine c_call (c := c_spec_l7Marks) (a0, ([a1] : (List Int))) H_spec_l7Marks h9 fun ch => ?_
  obtain ⟨x13, h14, h⟩ := bnd h
  refine go ?_; intros
  refine c_call (c := c_spec_l7Marks) (a0, ([a2] : (List Int))) H_spec_l7Marks h14 fun ch => ?_
  obtain ⟨h19, h⟩ := gd h
  refine go ?_; intros
  refine r_mks (f := eBool) (x := false) rfl rfl (band1 h19) (band2 h19) rfl fun b17 => ?_
  obtain ⟨q323, h434, h⟩ := bnd h
  refine go ?_; intros
  refine w_last (fun t o => ∃ b432 c433, Pin t (ovr [(7, .ref 104 b432 c433 0 q323.length 17)] t) ∧ PinH o (ovh [(104, ent b432 c433 17 (List.map eInt q323))] o)) ?_ ?_
  · refine w_loop2 (fun n t o => ∃ n336 v324 v326 v333 b325 b327 c328 b329 c330 b331 c332 b334 c335, gl_spec_RepoBases_4 x8 x13 a0 n336 v324 v326 v333 = some q323 ∧ n336 = n ∧ Pin t (ovr [(3, .ptr 24 b325 210 0 0), (7, .ref 104 b327 c328 0 v326.length 17), (8, .ref 224 b329 c330 0 x8.length 33), (9, .ref 256 b331 c332 0 x13.length 33), (10, .ref 288 b334 c335 0 v333.length 33), (11, .v (.int .i64 v324))] t) ∧ PinH o (ovh [(24, ⟨b325, 1, 210, true, [[.sl false 3 (List.map (eCommit false) a0.commits), .sl false 2 (List.map eHead a0.heads)]]⟩), (104, ent b327 c328 17 (List.map eInt v326)), (224, ent b329 c330 33 (List.map eBool x8)), (256, ent b331 c332 33 (List.map eBool x13)), (288, ent b334 c335 33 (List.map eBool v333))] o)) _ ⟨_, _, _, _, _, _, _, _, _, _, _, _, _, h434, rfl, pin, pinh⟩ ?_
    rintro n t o ⟨n336, v324, v326, v333, b325, b327, c328, b329, c330, b331, c332, b334, c335, h434, rfl, q1, q2⟩
    refine pinned q1 q2 ?_
    cases n336 with
    | zero => rw [gl_spec_RepoBases_4] at h434; cases h434
    | succ n336 =>
      rw [gl_spec_RepoBases_4] at h434
      refine go ?_; intros
      refine w_cond rfl (fun c => ?_) (fun c => ?_)
      · replace h434 := itt h434 c
        try rw [c]
        obtain ⟨x337, h338, h434⟩ := bnd h434
        refine go ?_; intros
        refine r_ire (xs := x8) rfl rfl h338 rfl ?_
        refine go ?_; intros
        refine r_lde (f := eBool) (xs := x8) (x := x337) rfl rfl (idx_get h338).2 rfl rfl rfl ?_
        refine go ?_; intros
        refine s_split rfl (fun c => ?_) (fun c => ?_)
        · replace h434 := itt h434 c
          rw [c]
          refine go ?_; intros
          exact k_ln2 _ (Nat.lt_succ_self _) ⟨_, _, _, _, _, _, _, _, _, _, _, _, _, h434, rfl, pin, pinh⟩
        replace h434 := itf h434 c
        rw [c]
        obtain ⟨x339, h340, h434⟩ := bnd h434
        refine go ?_; intros
        refine r_ire (xs := x13) rfl rfl h340 rfl ?_
        refine go ?_; intros
        refine r_lde (f := eBool) (xs := x13) (x := x339) rfl rfl (idx_get h340).2 rfl rfl rfl ?_
        refine go ?_; intros
        refine w_cond rfl (fun c => ?_) (fun c => ?_)
        · replace h434 := itt h434 c
          try rw [c]
          refine go ?_; intros
          exact k_ln2 _ (Nat.lt_succ_self _) ⟨_, _, _, _, _, _, _, _, _, _, _, _, _, h434, rfl, pin, pinh⟩
        replace h434 := itf h434 c
        try rw [c]
        obtain ⟨q347, h435, h434⟩ := bnd h434
        refine go ?_; intros
        refine w_cut (fun t o => ∃ b354 b356 c357 b358 c359 b360 c361 b362 c363, Pin t (ovr [(3, .ptr 24 b354 210 0 0), (7, .ref 104 b356 c357 0 q347.length 17), (8, .ref 224 b358 c359 0 x8.length 33), (9, .ref 256 b360 c361 0 x13.length 33), (10, .ref 288 b362 c363 0 v333.length 33), (11, .v (.int .i64 v324)), (51, .ref 256 b360 c361 0 x13.length 33), (52, .v (.int .i64 v324)), (54, .v (.bool x339)), (55, .v (.bool false))] t) ∧ PinH o (ovh [(24, ⟨b354, 1, 210, true, [[.sl false 3 (List.map (eCommit false) a0.commits), .sl false 2 (List.map eHead a0.heads)]]⟩), (104, ent b356 c357 17 (List.map eInt q347)), (224, ent b358 c359 33 (List.map eBool x8)), (256, ent b360 c361 33 (List.map eBool x13)), (288, ent b362 c363 33 (List.map eBool v333))] o)) ?_ ?_
        · obtain ⟨x348, h349, h435⟩ := bnd h435
          refine go ?_; intros
          refine r_ire (xs := v333) rfl rfl h349 rfl ?_
          refine go ?_; intros
          refine r_lde (f := eBool) (xs := v333) (x := x348) rfl rfl (idx_get h349).2 rfl rfl rfl ?_
          refine go ?_; intros
          refine w_cond rfl (fun c => ?_) (fun c => ?_)
          · replace h435 := itt h435 c
            try rw [c]
            obtain ⟨h353, h435⟩ := gd h435
            refine go ?_; intros
            refine r_app (f := eInt) (xs := v326) (ys := ([v324] : (List Int))) rfl (src_mv rfl rfl (by first | rfl | simp)) rfl rfl (by first | rfl | simp) h353 fun b351 c352 => ?_
            refine go ?_; intros
            cases h435
            exact k_cn ⟨_, _, _, _, _, _, _, _, _, pin, pinh⟩
          replace h435 := itf h435 c
          try rw [c]
          refine go ?_; intros
          cases h435
          exact k_cn ⟨_, _, _, _, _, _, _, _, _, pin, pinh⟩
        rintro t o ⟨b354, b356, c357, b358, c359, b360, c361, b362, c363, q1, q2⟩
        refine pinned q1 q2 ?_
        obtain ⟨q402, h436, h434⟩ := bnd h434
        refine go ?_; intros
        refine w_last (fun t o => ∃ b421 b422 c423 b424 c425 b426 c427 b429 c430, Pin t (ovr [(3, .ptr 24 b421 210 0 0), (7, .ref 104 b422 c423 0 q347.length 17), (8, .ref 224 b424 c425 0 x8.length 33), (9, .ref 256 b426 c427 0 x13.length 33), (10, .ref 288 b429 c430 0 q402.length 33), (11, .v (.int .i64 v324)), (51, .ref 256 b426 c427 0 x13.length 33), (52, .v (.int .i64 v324)), (54, .v (.bool x339)), (55, .v (.bool false))] t) ∧ PinH o (ovh [(24, ⟨b421, 1, 210, true, [[.sl false 3 (List.map (eCommit false) a0.commits), .sl false 2 (List.map eHead a0.heads)]]⟩), (104, ent b422 c423 17 (List.map eInt q347)), (224, ent b424 c425 33 (List.map eBool x8)), (256, ent b426 c427 33 (List.map eBool x13)), (288, ent b429 c430 33 (List.map eBool q402))] o)) ?_ ?_
        · refine w_loop2 (fun n t o => ∃ n414 v403 v411 b404 b405 c406 b407 c408 b409 c410 b412 c413, gl_spec_RepoBases_5 a0 v324 n414 v403 v411 = some q402 ∧ n414 = n ∧ Pin t (ovr [(3, .ptr 24 b404 210 0 0), (7, .ref 104 b405 c406 0 q347.length 17), (8, .ref 224 b407 c408 0 x8.length 33), (9, .ref 256 b409 c410 0 x13.length 33), (10, .ref 288 b412 c413 0 v411.length 33), (11, .v (.int .i64 v324)), (12, .v (.int .i64 v403)), (51, .ref 256 b409 c410 0 x13.length 33), (52, .v (.int .i64 v324)), (54, .v (.bool x339)), (55, .v (.bool false))] t) ∧ PinH o (ovh [(24, ⟨b404, 1, 210, true, [[.sl false 3 (List.map (eCommit false) a0.commits), .sl false 2 (List.map eHead a0.heads)]]⟩), (104, ent b405 c406 17 (List.map eInt q347)), (224, ent b407 c408 33 (List.map eBool x8)), (256, ent b409 c410 33 (List.map eBool x13)), (288, ent b412 c413 33 (List.map eBool v411))] o)) _ ⟨_, _, _, _, _, _, _, _, _, _, _, _, h436, rfl, pin, pinh⟩ ?_
          rintro n t o ⟨n414, v403, v411, b404, b405, c406, b407, c408, b409, c410, b412, c413, h436, rfl, q1, q2⟩
          refine pinned q1 q2 ?_
          cases n414 with
          | zero => rw [gl_spec_RepoBases_5] at h436; cases h436
          | succ n414 =>
            rw [gl_spec_RepoBases_5] at h436
            obtain ⟨x415, h416, h436⟩ := bnd h436
            refine go ?_; intros
            refine r_iro rfl rfl h416 rfl ?_
            refine go ?_; intros
            refine w_cond rfl (fun c => ?_) (fun c => ?_)
            · replace h436 := itt h436 c
              try rw [c]
              refine go ?_; intros
              refine r_iro rfl rfl h416 rfl ?_
              obtain ⟨x417, h418, h436⟩ := bnd h436
              refine go ?_; intros
              refine r_iro rfl rfl h418 rfl ?_
              obtain ⟨x419, h420, h436⟩ := bnd h436
              refine go ?_; intros
              refine r_ire (xs := v411) rfl rfl h420 rfl ?_
              refine go ?_; intros
              refine c_ste (f := eBool) v411 true (idx_get h420).2 ?_
              refine go ?_; intros
              exact k_ln2 _ (Nat.lt_succ_self _) ⟨_, _, _, _, _, _, _, _, _, _, _, _, h436, rfl, pin, pinh⟩
            replace h436 := itf h436 c
            try rw [c]
            refine go ?_; intros
            cases h436
            exact k_cn ⟨_, _, _, _, _, _, _, _, _, pin, pinh⟩
        rintro t o ⟨b421, b422, c423, b424, c425, b426, c427, b429, c430, q1, q2⟩
        refine pinnedQ q1 q2 ?_
        refine go ?_; intros
        exact k_ln2 _ (Nat.lt_succ_self _) ⟨_, _, _, _, _, _, _, _, _, _, _, _, _, h434, rfl, pin, pinh⟩
      replace h434 := itf h434 c
      try rw [c]
      refine go ?_; intros
      cases h434
      exact k_cn ⟨_, _, pin, pinh⟩
  rintro t o ⟨b432, c433, q1, q2⟩
  refine pinnedQ q1 q2 ?_
  refine go ?_; intros
  cases h
  exact r_end
end Go.Proofs.AM
