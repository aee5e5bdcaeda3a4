/- Lemmas of the proof (KFF18), on an abstract machine. Conditions: none. -/
import Derived.Test.YtknajiljcemblaaGreatKFD
set_option linter.unusedVariables false
set_option linter.unusedSimpArgs false
set_option maxRecDepth 100000
set_option maxHeartbeats 4000000
namespace Go.Proofs.AM
attribute [local irreducible] vwp vstps vstpLs vstp vdo vret kseq kblk kloop kend kcut kloop2 frzV renV shutK pfzV trnV unrV
theorem d_cj9 {G : Gam} (H_dz9 : Has G c_dz9) (H_ck9 : Has G c_ck9) (H_ec9 : Has G c_ec9) (a0 : Repo) (a1 : Repo) (a2 : Int) (r : (Repo × Int)) (h : gf_cj9 a0 a1 a2 = some r) : Does G if_cj9 ks_cj9 (c_cj9.args (a0, a1, a2)) (c_cj9.ins (a0, a1, a2)) (c_cj9.ans (a0, a1, a2) r) := by
 refine does_pg (L := fun bs => [(0, .agg [.ref 0 (bs 0).1 (bs 0).2 0 a0.commits.length 115, .ref 8 (bs 1).1 (bs 1).2 0 a0.heads.length 130]), (1, .agg [.ro (List.map (eCommit false) a1.commits), .ro (List.map eHead a1.heads)]), (2, .v (.int .i64 a2))]) (H := fun bs => [(0, ent (bs 0).1 (bs 0).2 115 (List.map (eCommit true) a0.commits)), (8, ent (bs 1).1 (bs 1).2 130 (List.map eHead a0.heads))]) (fun bs => pin) (fun bs => pinh) fun bs t o => ?_
 show vwp _ ib_cj9 _ _
 unfold ib_cj9
 refine w_ir ?_
 unfold gf_cj9 at h
 obtain ⟨x5, h6, h⟩ := bnd h
 refine go ?_;intros
 refine c_call (c := c_dz9) (a1, ([a2] : (List Int))) H_dz9 h6 fun ch => ?_
 obtain ⟨h11, h⟩ := gd h
 refine go ?_;intros
 refine r_mks (f := eInt) (x := 0) rfl rfl (band1 h11) (band2 h11) rfl fun b9 => ?_
 obtain ⟨q421, h577, h⟩ := bnd h
 refine go ?_;intros
 refine w_last (fun t o => ∃ b566 b567 c568 b569 c570 b571 b573 c574, Pin t (ovr [(2, .v (.int .i64 a2)), (3, .ptr 24 b566 210 0 0), (6, .ptr 48 b571 210 0 0), (9, .ref 160 b573 c574 0 q421.2.length 17)] t) ∧ PinH o (ovh [(1000384, ent (bs 0).1 (bs 0).2 115 (List.map (eCommit true) q421.1)), (1000385, ent (bs 1).1 (bs 1).2 130 (List.map eHead a0.heads)), (24, ⟨b566, 1, 210, true, [[.al 1000384 (bs 0).1 (bs 0).2 0 q421.1.length 115, .al 1000385 (bs 1).1 (bs 1).2 0 a0.heads.length 130]]⟩), (1000768, ent b567 c568 115 (List.map (eCommit true) [])), (1000769, ent b569 c570 130 (List.map eHead [])), (48, ⟨b571, 1, 210, true, [[.al 1000768 b567 c568 0 ([] : List Commit).length 115, .al 1000769 b569 c570 0 ([] : List Head).length 130]]⟩), (160, ent b573 c574 17 (List.map eInt q421.2))] o)) ?_ ?_
 ·refine w_loop2 (fun n t o => ∃ n436 v422 v423 v433 b424 b425 b426 c427 b428 c429 b430 b431 c432 b434 c435, gl_cj9_4 a2 x5 a0 a1 n436 v422 v423 v433 = some q421 ∧ n436 = n ∧ Pin t (ovr [(2, .v (.int .i64 a2)), (3, .ptr 24 b424 210 0 0), (4, .ptr 32 b425 210 0 0), (6, .ptr 48 b430 210 0 0), (8, .ref 128 b431 c432 0 x5.length 33), (9, .ref 160 b434 c435 0 v433.length 17), (10, .v (.int .i64 v422))] t) ∧ PinH o (ovh [(1000384, ent (bs 0).1 (bs 0).2 115 (List.map (eCommit true) v423)), (1000385, ent (bs 1).1 (bs 1).2 130 (List.map eHead a0.heads)), (24, ⟨b424, 1, 210, true, [[.al 1000384 (bs 0).1 (bs 0).2 0 v423.length 115, .al 1000385 (bs 1).1 (bs 1).2 0 a0.heads.length 130]]⟩), (32, ⟨b425, 1, 210, true, [[.sl false 3 (List.map (eCommit false) a1.commits), .sl false 2 (List.map eHead a1.heads)]]⟩), (1000768, ent b426 c427 115 (List.map (eCommit true) [])), (1000769, ent b428 c429 130 (List.map eHead [])), (48, ⟨b430, 1, 210, true, [[.al 1000768 b426 c427 0 ([] : List Commit).length 115, .al 1000769 b428 c429 0 ([] : List Head).length 130]]⟩), (128, ent b431 c432 33 (List.map eBool x5)), (160, ent b434 c435 17 (List.map eInt v433))] o)) _ ⟨_, _, _, _, _, _, _, _, _, _, _, _, _, _, _, h577, rfl, pin, pinh⟩ ?_
  rintro n t o ⟨n436, v422, v423, v433, b424, b425, b426, c427, b428, c429, b430, b431, c432, b434, c435, h577, rfl, pq1, pq2⟩
  refine pinned pq1 pq2 ?_
  cases n436 with
  | zero => rw [gl_cj9_4] at h577; cases h577
  | succ n436 =>
   rw [gl_cj9_4] at h577
   refine go ?_;intros
   refine w_cond rfl (fun c => ?_) (fun c => ?_)
   ·replace h577 := itt h577 c
    try rw [c]
    obtain ⟨x437, h438, h577⟩ := bnd h577
    refine go ?_;intros
    refine r_ire (xs := x5) rfl rfl h438 rfl ?_
    refine go ?_;intros
    refine r_lde (f := eBool) (xs := x5) (x := x437) rfl rfl (idx_get h438).2 rfl rfl rfl ?_
    refine go ?_;intros
    refine w_cond rfl (fun c => ?_) (fun c => ?_)
    ·replace h577 := itt h577 c
     try rw [c]
     refine go ?_;intros
     exact k_ln2 _ (Nat.lt_succ_self _) ⟨_, _, _, _, _, _, _, _, _, _, _, _, _, _, _, h577, rfl, pin, pinh⟩
    replace h577 := itf h577 c
    try rw [c]
    obtain ⟨x439, h440, h577⟩ := bnd h577
    refine go ?_;intros
    refine c_call (c := c_ck9) ((⟨v423, a0.heads⟩ : Repo), a1, v422) H_ck9 h440 fun ch => ?_
    obtain ⟨x441, h442, h577⟩ := bnd h577
    refine go ?_;intros
    refine r_ire (xs := v433) rfl rfl h442 rfl ?_
    refine go ?_;intros
    refine c_ste (f := eInt) v433 x439 (idx_get h442).2 ?_
    obtain ⟨x443, h444, h577⟩ := bnd h577
    refine go ?_;intros
    refine r_ire (xs := (List.set v433 v422.toNat x439)) rfl rfl h444 rfl ?_
    refine go ?_;intros
    refine r_lde (f := eInt) (xs := (List.set v433 v422.toNat x439)) (x := x443) rfl rfl (idx_get h444).2 rfl rfl rfl ?_
    refine go ?_;intros
    refine w_cond rfl (fun c => ?_) (fun c => ?_)
    ·replace h577 := itt h577 c
     try rw [c]
     refine go ?_;intros
     exact k_ln2 _ (Nat.lt_succ_self _) ⟨_, _, _, _, _, _, _, _, _, _, _, _, _, _, _, h577, rfl, pin, pinh⟩
    replace h577 := itf h577 c
    try rw [c]
    obtain ⟨q445, h578, h577⟩ := bnd h577
    refine go ?_;intros
    refine w_cut (fun t o => ∃ b455 b456 b457 c458 b459 c460 b461 b462 c463 b464 c465 b467 c468 b470 c471 b473, Pin t (ovr [(2, .v (.int .i64 a2)), (3, .ptr 24 b455 210 0 0), (4, .ptr 32 b456 210 0 0), (6, .ptr 48 b461 210 0 0), (8, .ref 128 b462 c463 0 x5.length 33), (9, .ref 160 b464 c465 0 (List.set v433 v422.toNat x439).length 17), (10, .v (.int .i64 v422)), (11, .ptr 88 b473 115 0 0)] t) ∧ PinH o (ovh [(1000384, ent (bs 0).1 (bs 0).2 115 (List.map (eCommit true) v423)), (1000385, ent (bs 1).1 (bs 1).2 130 (List.map eHead a0.heads)), (24, ⟨b455, 1, 210, true, [[.al 1000384 (bs 0).1 (bs 0).2 0 v423.length 115, .al 1000385 (bs 1).1 (bs 1).2 0 a0.heads.length 130]]⟩), (32, ⟨b456, 1, 210, true, [[.sl false 3 (List.map (eCommit false) a1.commits), .sl false 2 (List.map eHead a1.heads)]]⟩), (1000768, ent b457 c458 115 (List.map (eCommit true) [])), (1000769, ent b459 c460 130 (List.map eHead [])), (48, ⟨b461, 1, 210, true, [[.al 1000768 b457 c458 0 ([] : List Commit).length 115, .al 1000769 b459 c460 0 ([] : List Head).length 130]]⟩), (128, ent b462 c463 33 (List.map eBool x5)), (160, ent b464 c465 17 (List.map eInt (List.set v433 v422.toNat x439))), (1001408, ent b467 c468 17 (List.map eInt q445.1)), (1001409, ent b470 c471 100 (List.map (eFeat true) q445.2.1)), (88, ⟨b473, 1, 115, true, [[.al 1001408 b467 c468 0 q445.1.length 17, .al 1001409 b470 c471 0 q445.2.1.length 100, .v (.string q445.2.2)]]⟩)] o)) ?_ ?_
    ·obtain ⟨x446, h447, h578⟩ := bnd h578
     refine go ?_;intros
     refine r_iro rfl rfl h447 rfl ?_
     obtain ⟨x448, h449, h578⟩ := bnd h578
     refine go ?_;intros
     refine c_call (c := c_ec9) (x446) H_ec9 h449 fun ch => ?_
     refine go ?_;intros
     cases h578
     exact k_cn ⟨_, _, _, _, _, _, _, _, _, _, _, _, _, _, _, _, pin, pinh⟩
    rintro t o ⟨b455, b456, b457, c458, b459, c460, b461, b462, c463, b464, c465, b467, c468, b470, c471, b473, pq1, pq2⟩
    refine pinned pq1 pq2 ?_
    obtain ⟨q520, h579, h577⟩ := bnd h577
    refine go ?_;intros
    refine w_last (fun t o => ∃ b544 b545 b546 c547 b548 c549 b550 b551 c552 b553 c554 b556 c557 b558 c559 b560, Pin t (ovr [(2, .v (.int .i64 a2)), (3, .ptr 24 b544 210 0 0), (4, .ptr 32 b545 210 0 0), (6, .ptr 48 b550 210 0 0), (8, .ref 128 b551 c552 0 x5.length 33), (9, .ref 160 b553 c554 0 (List.set v433 v422.toNat x439).length 17), (10, .v (.int .i64 v422)), (11, .ptr 88 b560 115 0 0)] t) ∧ PinH o (ovh [(1000384, ent (bs 0).1 (bs 0).2 115 (List.map (eCommit true) v423)), (1000385, ent (bs 1).1 (bs 1).2 130 (List.map eHead a0.heads)), (24, ⟨b544, 1, 210, true, [[.al 1000384 (bs 0).1 (bs 0).2 0 v423.length 115, .al 1000385 (bs 1).1 (bs 1).2 0 a0.heads.length 130]]⟩), (32, ⟨b545, 1, 210, true, [[.sl false 3 (List.map (eCommit false) a1.commits), .sl false 2 (List.map eHead a1.heads)]]⟩), (1000768, ent b546 c547 115 (List.map (eCommit true) [])), (1000769, ent b548 c549 130 (List.map eHead [])), (48, ⟨b550, 1, 210, true, [[.al 1000768 b546 c547 0 ([] : List Commit).length 115, .al 1000769 b548 c549 0 ([] : List Head).length 130]]⟩), (128, ent b551 c552 33 (List.map eBool x5)), (160, ent b553 c554 17 (List.map eInt (List.set v433 v422.toNat x439))), (1001408, ent b556 c557 17 (List.map eInt q520)), (1001409, ent b558 c559 100 (List.map (eFeat true) q445.2.1)), (88, ⟨b560, 1, 115, true, [[.al 1001408 b556 c557 0 q520.length 17, .al 1001409 b558 c559 0 q445.2.1.length 100, .v (.string q445.2.2)]]⟩)] o)) ?_ ?_
    ·refine w_loop2 (fun n t o => ∃ n539 v521 v533 b522 b523 b524 c525 b526 c527 b528 b529 c530 b531 c532 b534 c535 b536 c537 b538, gl_cj9_5 v433 v422 x439 n539 v521 v533 = some q520 ∧ n539 = n ∧ Pin t (ovr [(2, .v (.int .i64 a2)), (3, .ptr 24 b522 210 0 0), (4, .ptr 32 b523 210 0 0), (6, .ptr 48 b528 210 0 0), (8, .ref 128 b529 c530 0 x5.length 33), (9, .ref 160 b531 c532 0 (List.set v433 v422.toNat x439).length 17), (10, .v (.int .i64 v422)), (11, .ptr 88 b538 115 0 0), (12, .v (.int .i64 v521))] t) ∧ PinH o (ovh [(1000384, ent (bs 0).1 (bs 0).2 115 (List.map (eCommit true) v423)), (1000385, ent (bs 1).1 (bs 1).2 130 (List.map eHead a0.heads)), (24, ⟨b522, 1, 210, true, [[.al 1000384 (bs 0).1 (bs 0).2 0 v423.length 115, .al 1000385 (bs 1).1 (bs 1).2 0 a0.heads.length 130]]⟩), (32, ⟨b523, 1, 210, true, [[.sl false 3 (List.map (eCommit false) a1.commits), .sl false 2 (List.map eHead a1.heads)]]⟩), (1000768, ent b524 c525 115 (List.map (eCommit true) [])), (1000769, ent b526 c527 130 (List.map eHead [])), (48, ⟨b528, 1, 210, true, [[.al 1000768 b524 c525 0 ([] : List Commit).length 115, .al 1000769 b526 c527 0 ([] : List Head).length 130]]⟩), (128, ent b529 c530 33 (List.map eBool x5)), (160, ent b531 c532 17 (List.map eInt (List.set v433 v422.toNat x439))), (1001408, ent b534 c535 17 (List.map eInt v533)), (1001409, ent b536 c537 100 (List.map (eFeat true) q445.2.1)), (88, ⟨b538, 1, 115, true, [[.al 1001408 b534 c535 0 v533.length 17, .al 1001409 b536 c537 0 q445.2.1.length 100, .v (.string q445.2.2)]]⟩)] o)) _ ⟨_, _, _, _, _, _, _, _, _, _, _, _, _, _, _, _, _, _, _, h579, rfl, pin, pinh⟩ ?_
     rintro n t o ⟨n539, v521, v533, b522, b523, b524, c525, b526, c527, b528, b529, c530, b531, c532, b534, c535, b536, c537, b538, h579, rfl, pq1, pq2⟩
     refine pinned pq1 pq2 ?_
     cases n539 with
     | zero => rw [gl_cj9_5] at h579; cases h579
     | succ n539 =>
      rw [gl_cj9_5] at h579
      refine go ?_;intros
      refine w_cond rfl (fun c => ?_) (fun c => ?_)
      ·replace h579 := itt h579 (by first | exact c | (have c2 := c; simp only [List.length_map] at c2; exact c2))
       try rw [c]
       obtain ⟨x540, h541, h579⟩ := bnd h579
       refine go ?_;intros
       refine r_ire (xs := v533) rfl rfl h541 rfl ?_
       refine go ?_;intros
       refine r_lde (f := eInt) (xs := v533) (x := x540) rfl rfl (idx_get h541).2 rfl rfl rfl ?_
       obtain ⟨x542, h543, h579⟩ := bnd h579
       refine go ?_;intros
       refine r_ire (xs := (List.set v433 v422.toNat x439)) rfl rfl h543 rfl ?_
       refine go ?_;intros
       refine r_lde (f := eInt) (xs := (List.set v433 v422.toNat x439)) (x := x542) rfl rfl (idx_get h543).2 rfl rfl rfl ?_
       refine go ?_;intros
       refine r_ire (xs := v533) rfl rfl h541 rfl ?_
       refine go ?_;intros
       refine c_ste (f := eInt) v533 x542 (idx_get h541).2 ?_
       refine go ?_;intros
       exact k_ln2 _ (Nat.lt_succ_self _) ⟨_, _, _, _, _, _, _, _, _, _, _, _, _, _, _, _, _, _, _, h579, rfl, pin, pinh⟩
      replace h579 := itf h579 (by first | exact c | (have c2 := c; simp only [List.length_map] at c2; exact c2))
      try rw [c]
      refine go ?_;intros
      cases h579
      exact k_cn ⟨_, _, _, _, _, _, _, _, _, _, _, _, _, _, _, _, pin, pinh⟩
    rintro t o ⟨b544, b545, b546, c547, b548, c549, b550, b551, c552, b553, c554, b556, c557, b558, c559, b560, pq1, pq2⟩
    refine pinnedQ pq1 pq2 ?_
    refine go ?_;intros
    refine r_ire (xs := (List.set v433 v422.toNat x439)) rfl rfl h444 rfl ?_
    refine go ?_;intros
    refine c_ste (f := eInt) (List.set v433 v422.toNat x439) (v423.length : Int) (idx_get h444).2 ?_
    refine go ?_;intros
    try simp only [take_map_len, take_ent]
    obtain ⟨h564, h577⟩ := gd h577
    refine go ?_;intros
    refine r_app (f := (eCommit true)) (xs := v423) (ys := ([(⟨q520, q445.2.1, q445.2.2⟩ : Commit)] : (List Commit))) rfl (src_mv rfl rfl (by first | rfl | simp)) rfl rfl (by first | rfl | simp) h564 fun b562 c563 => ?_
    refine go ?_;intros
    exact k_ln2 _ (Nat.lt_succ_self _) ⟨_, _, _, _, _, _, _, _, _, _, _, _, _, _, _, h577, rfl, pin, pinh⟩
   replace h577 := itf h577 c
   try rw [c]
   refine go ?_;intros
   cases h577
   exact k_cn ⟨_, _, _, _, _, _, _, _, pin, pinh⟩
 rintro t o ⟨b566, b567, c568, b569, c570, b571, b573, c574, pq1, pq2⟩
 refine pinnedQ pq1 pq2 ?_
 refine go ?_;intros
 refine w_cond rfl (fun c => ?_) (fun c => ?_)
 ·replace h := itt h (by first | exact c | (have c2 := c; simp only [List.length_map] at c2; exact c2))
  try rw [c]
  refine go ?_;intros
  cases h
  exact r_endg
 replace h := itf h (by first | exact c | (have c2 := c; simp only [List.length_map] at c2; exact c2))
 try rw [c]
 obtain ⟨x575, h576, h⟩ := bnd h
 refine go ?_;intros
 refine r_ire (xs := q421.2) rfl rfl h576 rfl ?_
 refine go ?_;intros
 refine r_lde (f := eInt) (xs := q421.2) (x := x575) rfl rfl (idx_get h576).2 rfl rfl rfl ?_
 refine go ?_;intros
 cases h
 exact r_endg
theorem d_ch9 {G : Gam} (H_cc9 : Has G c_cc9) (H_bz9 : Has G c_bz9) (H_ck9 : Has G c_ck9) (H_dt9 : Has G c_dt9) (H_cj9 : Has G c_cj9) (H_dw9 : Has G c_dw9) (H_by9 : Has G c_by9) (a0 : Repo) (a1 : Repo) (a2 : Str) (r : (Repo × Int)) (h : gf_ch9 a0 a1 a2 = some r) : Does G if_ch9 ks_ch9 (c_ch9.args (a0, a1, a2)) [] (c_ch9.ans (a0, a1, a2) r) := by
 refine does_pn (L := [(0, .agg [.ro (List.map (eCommit false) a0.commits), .ro (List.map eHead a0.heads)]), (1, .agg [.ro (List.map (eCommit false) a1.commits), .ro (List.map eHead a1.heads)]), (2, .v (.string a2))]) (fun bs => pin) fun bs t o => ?_
 show vwp _ ib_ch9 _ _
 unfold ib_ch9
 refine w_ir ?_
 unfold gf_ch9 at h
 obtain ⟨x4, h5, h⟩ := bnd h
 refine go ?_;intros
 refine c_call (c := c_cc9) (a0) H_cc9 h5 fun ch => ?_
 refine go ?_;intros
 refine s_split rfl (fun c => ?_) (fun c => ?_)
 ·replace h := itt h c
  rw [c]
  refine go ?_;intros
  cases h
  exact r_end
 replace h := itf h c
 rw [c]
 obtain ⟨x6, h7, h⟩ := bnd h
 refine go ?_;intros
 refine c_call (c := c_cc9) (a1) H_cc9 h7 fun ch => ?_
 refine go ?_;intros
 refine w_cond rfl (fun c => ?_) (fun c => ?_)
 ·replace h := itt h c
  try rw [c]
  refine go ?_;intros
  cases h
  exact r_end
 replace h := itf h c
 try rw [c]
 obtain ⟨x8, h9, h⟩ := bnd h
 refine go ?_;intros
 refine c_call (c := c_bz9) (a1, a2) H_bz9 h9 fun ch => ?_
 obtain ⟨q10, h86, h⟩ := bnd h
 refine go ?_;intros
 refine w_cut (fun t o => ∃ b14 b15 b16 c17 b18 c19 b20, Pin t (ovr [(2, .v (.string a2)), (3, .ptr 24 b14 210 0 0), (4, .ptr 32 b15 210 0 0), (6, .ptr 48 b20 210 0 0), (8, .v (.int .i64 x8)), (31, .v (.bool q10))] t) ∧ PinH o (ovh [(24, ⟨b14, 1, 210, true, [[.sl false 3 (List.map (eCommit false) a0.commits), .sl false 2 (List.map eHead a0.heads)]]⟩), (32, ⟨b15, 1, 210, true, [[.sl false 3 (List.map (eCommit false) a1.commits), .sl false 2 (List.map eHead a1.heads)]]⟩), (1000768, ent b16 c17 115 (List.map (eCommit true) [])), (1000769, ent b18 c19 130 (List.map eHead [])), (48, ⟨b20, 1, 210, true, [[.al 1000768 b16 c17 0 ([] : List Commit).length 115, .al 1000769 b18 c19 0 ([] : List Head).length 130]]⟩)] o)) ?_ ?_
 ·refine go ?_;intros
  refine s_split rfl (fun c => ?_) (fun c => ?_)
  ·replace h86 := itt h86 c
   rw [c]
   refine go ?_;intros
   cases h86
   exact k_cn ⟨_, _, _, _, _, _, _, pin, pinh⟩
  replace h86 := itf h86 c
  rw [c]
  obtain ⟨x11, h12, h86⟩ := bnd h86
  refine go ?_;intros
  refine c_call (c := c_ck9) (a0, a1, 0) H_ck9 h12 fun ch => ?_
  refine go ?_;intros
  cases h86
  exact k_cn ⟨_, _, _, _, _, _, _, pin, pinh⟩
 rintro t o ⟨b14, b15, b16, c17, b18, c19, b20, pq1, pq2⟩
 refine pinned pq1 pq2 ?_
 refine go ?_;intros
 refine w_cond rfl (fun c => ?_) (fun c => ?_)
 ·replace h := itt h c
  try rw [c]
  obtain ⟨x21, h22, h⟩ := bnd h
  refine go ?_;intros
  refine c_call (c := c_dt9) (a0) H_dt9 h22 fun ch => ?_
  refine go ?_;intros
  cases h
  exact r_end
 replace h := itf h c
 try rw [c]
 obtain ⟨x27, h28, h⟩ := bnd h
 refine go ?_;intros
 refine c_call (c := c_dt9) (a0) H_dt9 h28 fun ch => ?_
 obtain ⟨x33, h34, h⟩ := bnd h
 refine go ?_;intros
 refine c_callg (c := c_cj9) (x27, a1, x8) H_cj9 h34 fun ch => ?_
 obtain ⟨x40, h41, h⟩ := bnd h
 refine go ?_;intros
 refine c_call (c := c_dw9) (a0, a2) H_dw9 h41 fun ch => ?_
 refine go ?_;intros
 refine s_split rfl (fun c => ?_) (fun c => ?_)
 ·replace h := itt h c
  rw [c]
  obtain ⟨x42, h43, h⟩ := bnd h
  refine go ?_;intros
  refine c_call (c := c_dt9) (a0) H_dt9 h43 fun ch => ?_
  refine go ?_;intros
  cases h
  exact r_end
 replace h := itf h c
 rw [c]
 refine go ?_;intros
 refine s_split rfl (fun c => ?_) (fun c => ?_)
 ·replace h := itt h c
  rw [c]
  refine go ?_;intros
  refine w_cond rfl (fun c => ?_) (fun c => ?_)
  ·replace h := itt h (by first | exact c | (have c2 := c; simp only [List.length_map] at c2; exact c2))
   try rw [c]
   obtain ⟨x48, h49, h⟩ := bnd h
   refine go ?_;intros
   refine c_call (c := c_dt9) (a0) H_dt9 h49 fun ch => ?_
   refine go ?_;intros
   cases h
   exact r_end
  replace h := itf h (by first | exact c | (have c2 := c; simp only [List.length_map] at c2; exact c2))
  try rw [c]
  refine go ?_;intros
  refine w_cond rfl (fun c => ?_) (fun c => ?_)
  ·replace h := itt h c
   try rw [c]
   obtain ⟨h57, h⟩ := gd h
   refine go ?_;intros
   refine r_app (f := eHead) (xs := x33.1.heads) (ys := ([(⟨a2, x33.2⟩ : Head)] : (List Head))) rfl (src_mv rfl rfl (by first | rfl | simp)) rfl rfl (by first | rfl | simp) h57 fun b55 c56 => ?_
   refine go ?_;intros
   cases h
   exact r_end
  replace h := itf h c
  try rw [c]
  obtain ⟨x58, h59, h⟩ := bnd h
  refine go ?_;intros
  refine r_ire (xs := x33.1.heads) rfl rfl h59 rfl ?_
  refine go ?_;intros
  refine r_lde (f := eHead) (xs := x33.1.heads) (x := x58) rfl rfl (idx_get h59).2 rfl rfl rfl ?_
  obtain ⟨x60, h61, h⟩ := bnd h
  refine go ?_;intros
  refine c_call (c := c_by9) (x33.1, x33.2, x58.at_) H_by9 h61 fun ch => ?_
  refine go ?_;intros
  refine w_cond rfl (fun c => ?_) (fun c => ?_)
  ·replace h := itt h c
   try rw [c]
   refine go ?_;intros
   cases h
   exact r_end
  replace h := itf h c
  try rw [c]
  refine go ?_;intros
  refine r_ire (xs := x33.1.heads) rfl rfl h59 rfl ?_
  refine go ?_;intros
  refine r_lde (f := eHead) (xs := x33.1.heads) (x := x58) rfl rfl (idx_get h59).2 rfl rfl rfl ?_
  obtain ⟨x62, h63, h⟩ := bnd h
  refine go ?_;intros
  refine c_call (c := c_by9) (x33.1, x58.at_, x33.2) H_by9 h63 fun ch => ?_
  refine go ?_;intros
  refine w_cond rfl (fun c => ?_) (fun c => ?_)
  ·replace h := itt h c
   try rw [c]
   refine go ?_;intros
   refine r_ire (xs := x33.1.heads) rfl rfl h59 rfl ?_
   refine go ?_;intros
   refine c_ste (f := eHead) x33.1.heads (⟨x58.name, x33.2⟩ : Head) (idx_get h59).2 ?_
   refine go ?_;intros
   cases h
   exact r_end
  replace h := itf h c
  try rw [c]
  obtain ⟨x64, h65, h⟩ := bnd h
  refine go ?_;intros
  refine c_call (c := c_dt9) (a0) H_dt9 h65 fun ch => ?_
  refine go ?_;intros
  cases h
  exact r_end
 replace h := itf h c
 rw [c]
 refine go ?_;intros
 refine w_cond rfl (fun c => ?_) (fun c => ?_)
 ·replace h := itt h c
  try rw [c]
  obtain ⟨h73, h⟩ := gd h
  refine go ?_;intros
  refine r_app (f := eHead) (xs := x33.1.heads) (ys := ([(⟨a2, x33.2⟩ : Head)] : (List Head))) rfl (src_mv rfl rfl (by first | rfl | simp)) rfl rfl (by first | rfl | simp) h73 fun b71 c72 => ?_
  refine go ?_;intros
  cases h
  exact r_end
 replace h := itf h c
 try rw [c]
 obtain ⟨x74, h75, h⟩ := bnd h
 refine go ?_;intros
 refine r_ire (xs := x33.1.heads) rfl rfl h75 rfl ?_
 refine go ?_;intros
 refine r_lde (f := eHead) (xs := x33.1.heads) (x := x74) rfl rfl (idx_get h75).2 rfl rfl rfl ?_
 obtain ⟨x76, h77, h⟩ := bnd h
 refine go ?_;intros
 refine c_call (c := c_by9) (x33.1, x33.2, x74.at_) H_by9 h77 fun ch => ?_
 refine go ?_;intros
 refine w_cond rfl (fun c => ?_) (fun c => ?_)
 ·replace h := itt h c
  try rw [c]
  refine go ?_;intros
  cases h
  exact r_end
 replace h := itf h c
 try rw [c]
 refine go ?_;intros
 refine r_ire (xs := x33.1.heads) rfl rfl h75 rfl ?_
 refine go ?_;intros
 refine r_lde (f := eHead) (xs := x33.1.heads) (x := x74) rfl rfl (idx_get h75).2 rfl rfl rfl ?_
 obtain ⟨x78, h79, h⟩ := bnd h
 refine go ?_;intros
 refine c_call (c := c_by9) (x33.1, x74.at_, x33.2) H_by9 h79 fun ch => ?_
 refine go ?_;intros
 refine w_cond rfl (fun c => ?_) (fun c => ?_)
 ·replace h := itt h c
  try rw [c]
  refine go ?_;intros
  refine r_ire (xs := x33.1.heads) rfl rfl h75 rfl ?_
  refine go ?_;intros
  refine c_ste (f := eHead) x33.1.heads (⟨x74.name, x33.2⟩ : Head) (idx_get h75).2 ?_
  refine go ?_;intros
  cases h
  exact r_end
 replace h := itf h c
 try rw [c]
 obtain ⟨x80, h81, h⟩ := bnd h
 refine go ?_;intros
 refine c_call (c := c_dt9) (a0) H_dt9 h81 fun ch => ?_
 refine go ?_;intros
 cases h
 exact r_end
theorem d_be9 {G : Gam} (H_bv9 : Has G c_bv9) (H_at9 : Has G c_at9) (H_ch9 : Has G c_ch9) (H_ae9 : Has G c_ae9) (H_ar9 : Has G c_ar9) (H_cc9 : Has G c_cc9) (H_ap9 : Has G c_ap9) (H_as9 : Has G c_as9) (H_ac9 : Has G c_ac9) (a0 : (List UInt8)) (g0 : Option Addr) (g1 : Nat) (r : Bool) (h : gf_be9 a0 = some r) : Does G if_be9 ks_be9 (c_be9.args (a0, g0, g1)) [] (c_be9.ans (a0, g0, g1) r) := by
 refine does_pn (L := [(0, .raw g0 g1 (List.map eU8 a0))]) (fun bs => pin) fun bs t o => ?_
 show vwp _ ib_be9 _ _
 unfold ib_be9
 refine w_ir ?_
 unfold gf_be9 at h
 refine go ?_;intros
 refine w_cond rfl (fun c => ?_) (fun c => ?_)
 ·replace h := itt h (by first | exact c | (have c2 := c; simp only [List.length_map] at c2; exact c2))
  try rw [c]
  refine go ?_;intros
  cases h
  exact r_end
 replace h := itf h (by first | exact c | (have c2 := c; simp only [List.length_map] at c2; exact c2))
 try rw [c]
 obtain ⟨q1, h111, h⟩ := bnd h
 refine go ?_;intros
 refine w_cut (fun t o => ∃ b9, Pin t (ovr [(3, .ptr 24 b9 210 0 0), (5, .v (.string q1.1))] t) ∧ PinH o (ovh [(24, ⟨b9, 1, 210, true, [[.sl false 3 (List.map (eCommit false) q1.2.1), .sl false 2 (List.map eHead q1.2.2)]]⟩)] o)) ?_ ?_
 ·refine go ?_;intros
  refine r_frz ?_
  obtain ⟨x2, h3, h111⟩ := bnd h111
  refine go ?_;intros
  refine c_call (c := c_bv9) (a0, g0, g1) H_bv9 h3 fun ch => ?_
  refine go ?_;intros
  refine c_fz ?_
  refine go ?_;intros
  cases h111
  exact k_cn ⟨_, pin, pinh⟩
 rintro t o ⟨b9, pq1, pq2⟩
 refine pinned pq1 pq2 ?_
 obtain ⟨x10, h11, h⟩ := bnd h
 refine go ?_;intros
 refine c_call (c := c_at9) ((⟨q1.2.1, q1.2.2⟩ : Repo), (⟨q1.2.1, q1.2.2⟩ : Repo), q1.1) H_at9 h11 fun ch => ?_
 obtain ⟨q17, h112, h⟩ := bnd h
 refine go ?_;intros
 refine w_cut (fun t o => ∃ b26 b27 c28 b29 c30 b31 b33 c34 b36 c37 b38, Pin t (ovr [(3, .ptr 24 b26 210 0 0), (5, .v (.string q1.1)), (6, .ptr 48 b31 210 0 0), (7, .v (.int .i64 x10.2)), (8, .ptr 64 b38 210 0 0), (9, .v (.int .i64 q17.1))] t) ∧ PinH o (ovh [(24, ⟨b26, 1, 210, true, [[.sl false 3 (List.map (eCommit false) q1.2.1), .sl false 2 (List.map eHead q1.2.2)]]⟩), (1000768, ent b27 c28 115 (List.map (eCommit true) x10.1.commits)), (1000769, ent b29 c30 130 (List.map eHead x10.1.heads)), (48, ⟨b31, 1, 210, true, [[.al 1000768 b27 c28 0 x10.1.commits.length 115, .al 1000769 b29 c30 0 x10.1.heads.length 130]]⟩), (1001024, ent b33 c34 115 (List.map (eCommit true) q17.2.1)), (1001025, ent b36 c37 130 (List.map eHead q17.2.2)), (64, ⟨b38, 1, 210, true, [[.al 1001024 b33 c34 0 q17.2.1.length 115, .al 1001025 b36 c37 0 q17.2.2.length 130]]⟩)] o)) ?_ ?_
 ·obtain ⟨x18, h19, h112⟩ := bnd h112
  refine go ?_;intros
  refine c_call (c := c_ch9) ((⟨q1.2.1, q1.2.2⟩ : Repo), (⟨q1.2.1, q1.2.2⟩ : Repo), q1.1) H_ch9 h19 fun ch => ?_
  refine go ?_;intros
  cases h112
  exact k_cn ⟨_, _, _, _, _, _, _, _, _, _, _, pin, pinh⟩
 rintro t o ⟨b26, b27, c28, b29, c30, b31, b33, c34, b36, c37, b38, pq1, pq2⟩
 refine pinned pq1 pq2 ?_
 refine go ?_;intros
 refine s_split rfl (fun c => ?_) (fun c => ?_)
 ·replace h := itt h c
  rw [c]
  refine go ?_;intros
  cases h
  exact r_end
 replace h := itf h c
 rw [c]
 obtain ⟨x39, h40, h⟩ := bnd h
 refine go ?_;intros
 refine c_call (c := c_ae9) (x10.1, (⟨q17.2.1, q17.2.2⟩ : Repo)) H_ae9 h40 fun ch => ?_
 refine go ?_;intros
 refine s_split rfl (fun c => ?_) (fun c => ?_)
 ·replace h := itt h c
  rw [c]
  refine go ?_;intros
  cases h
  exact r_end
 replace h := itf h c
 rw [c]
 obtain ⟨x41, h42, h⟩ := bnd h
 refine go ?_;intros
 refine c_call (c := c_ar9) ((⟨q1.2.1, q1.2.2⟩ : Repo), (⟨q1.2.1, q1.2.2⟩ : Repo), q1.1) H_ar9 h42 fun ch => ?_
 refine go ?_;intros
 refine w_cond rfl (fun c => ?_) (fun c => ?_)
 ·replace h := itt h (by first | exact c | (have c2 := c; simp only [List.length_map] at c2; exact c2))
  try rw [c]
  refine go ?_;intros
  cases h
  exact r_end
 replace h := itf h (by first | exact c | (have c2 := c; simp only [List.length_map] at c2; exact c2))
 try rw [c]
 obtain ⟨x45, h46, h⟩ := bnd h
 refine go ?_;intros
 refine c_call (c := c_cc9) ((⟨q1.2.1, q1.2.2⟩ : Repo)) H_cc9 h46 fun ch => ?_
 refine go ?_;intros
 refine w_cond rfl (fun c => ?_) (fun c => ?_)
 ·replace h := itt h c
  try rw [c]
  refine go ?_;intros
  cases h
  exact r_end
 replace h := itf h c
 try rw [c]
 obtain ⟨hf94, h⟩ := gd h
 obtain ⟨q78, h113, h⟩ := bnd h
 refine go ?_;intros
 refine w_last (fun t o => ∃ q78_, q78 = .inr q78_ ∧ ∃ b101 b102 c103 b104 c105 b106, Pin t (ovr [(3, .ptr 24 b101 210 0 0), (5, .v (.string q1.1)), (6, .ptr 48 b106 210 0 0), (7, .v (.int .i64 x10.2))] t) ∧ PinH o (ovh [(24, ⟨b101, 1, 210, true, [[.sl false 3 (List.map (eCommit false) q1.2.1), .sl false 2 (List.map eHead q1.2.2)]]⟩), (1000768, ent b102 c103 115 (List.map (eCommit true) x10.1.commits)), (1000769, ent b104 c105 130 (List.map eHead x10.1.heads)), (48, ⟨b106, 1, 210, true, [[.al 1000768 b102 c103 0 x10.1.commits.length 115, .al 1000769 b104 c105 0 x10.1.heads.length 130]]⟩)] o)) ?_ ?_
 ·refine w_loop2 (fun n t o => ∃ l88 k86  b80 b81 c82 b83 c84 b85, gl_be9_1 q1 l88 k86  = some q78 ∧ n = l88.length ∧ (q1.2.1).drop k86 = l88 ∧ Pin t (ovr [(3, .ptr 24 b80 210 0 0), (5, .v (.string q1.1)), (6, .ptr 48 b85 210 0 0), (7, .v (.int .i64 x10.2)), (10, .v (.int .i64 (k86 : Int)))] t) ∧ PinH o (ovh [(24, ⟨b80, 1, 210, true, [[.sl false 3 (List.map (eCommit false) q1.2.1), .sl false 2 (List.map eHead q1.2.2)]]⟩), (1000768, ent b81 c82 115 (List.map (eCommit true) x10.1.commits)), (1000769, ent b83 c84 130 (List.map eHead x10.1.heads)), (48, ⟨b85, 1, 210, true, [[.al 1000768 b81 c82 0 x10.1.commits.length 115, .al 1000769 b83 c84 0 x10.1.heads.length 130]]⟩)] o)) _ ⟨_, _, _, _, _, _, _, _, h113, rfl, rfl, pin, pinh⟩ ?_
  rintro n t o ⟨l88, k86, b80, b81, c82, b83, c84, b85, h113, rfl, hd89, pq1, pq2⟩
  refine pinned pq1 pq2 ?_
  cases l88 with
  | nil =>
   have hge91 := drop_ge hd89
   rw [gl_be9_1] at h113
   refine go ?_;intros
   rw [hge91]
   refine go ?_;intros
   cases h113
   exact k_cn ⟨_, rfl, _, _, _, _, _, _, pin, pinh⟩
  | cons x87 l88 =>
   have hlt90 := drop_lt hd89
   have hx92 := drop_ix hd89
   have hw93 := drop_wr hd89 hf94
   rw [gl_be9_1] at h113
   refine go ?_;intros
   rw [hlt90]
   obtain ⟨x95, h96, h113⟩ := bnd h113
   refine go ?_;intros
   refine c_call (c := c_ap9) ((⟨q1.2.1, q1.2.2⟩ : Repo), (⟨q1.2.1, q1.2.2⟩ : Repo), (k86 : Int)) H_ap9 h96 fun ch => ?_
   refine go ?_;intros
   refine s_split rfl (fun c => ?_) (fun c => ?_)
   ·replace h113 := itt h113 c
    rw [c]
    refine go ?_;intros
    cases h113
    replace h : some _ = some _ := h
    cases h
    exact r_end
   replace h113 := itf h113 c
   rw [c]
   refine go ?_;intros
   refine s_split rfl (fun c => ?_) (fun c => ?_)
   ·replace h113 := itt h113 c
    rw [c]
    refine go ?_;intros
    cases h113
    replace h : some _ = some _ := h
    cases h
    exact r_end
   replace h113 := itf h113 c
   rw [c]
   obtain ⟨x97, h98, h113⟩ := bnd h113
   refine go ?_;intros
   refine c_call (c := c_as9) ((⟨q1.2.1, q1.2.2⟩ : Repo), x95, (⟨q1.2.1, q1.2.2⟩ : Repo), (k86 : Int)) H_as9 h98 fun ch => ?_
   refine go ?_;intros
   refine s_split rfl (fun c => ?_) (fun c => ?_)
   ·replace h113 := itt h113 c
    rw [c]
    refine go ?_;intros
    cases h113
    replace h : some _ = some _ := h
    cases h
    exact r_end
   replace h113 := itf h113 c
   rw [c]
   obtain ⟨x99, h100, h113⟩ := bnd h113
   refine go ?_;intros
   refine c_call (c := c_as9) ((⟨q1.2.1, q1.2.2⟩ : Repo), (k86 : Int), (⟨q1.2.1, q1.2.2⟩ : Repo), (k86 : Int)) H_as9 h100 fun ch => ?_
   refine go ?_;intros
   refine w_cond rfl (fun c => ?_) (fun c => ?_)
   ·replace h113 := itt h113 c
    try rw [c]
    refine go ?_;intros
    cases h113
    replace h : some _ = some _ := h
    cases h
    exact r_end
   replace h113 := itf h113 c
   try rw [c]
   refine go ?_;intros
   rw [hw93]
   exact k_ln2 _ (Nat.lt_succ_self _) ⟨_, _, _, _, _, _, _, _, h113, rfl, drop_next hd89, pin, pinh⟩
 rintro t o ⟨q78, rfl, b101, b102, c103, b104, c105, b106, pq1, pq2⟩
 refine pinnedQ pq1 pq2 ?_
 obtain ⟨x107, h108, h⟩ := bnd h
 refine go ?_;intros
 refine c_call (c := c_ae9) (x10.1, (⟨q1.2.1, q1.2.2⟩ : Repo)) H_ae9 h108 fun ch => ?_
 refine go ?_;intros
 refine s_split rfl (fun c => ?_) (fun c => ?_)
 ·replace h := itt h c
  rw [c]
  refine go ?_;intros
  refine s_split rfl (fun c => ?_) (fun c => ?_)
  ·replace h := itt h c
   rw [c]
   refine go ?_;intros
   cases h
   exact r_end
  replace h := itf h c
  rw [c]
  refine go ?_;intros
  refine s_split rfl (fun c => ?_) (fun c => ?_)
  ·replace h := itt h c
   rw [c]
   obtain ⟨x109, h110, h⟩ := bnd h
   refine go ?_;intros
   refine c_call (c := c_ac9) ((⟨q1.2.1, q1.2.2⟩ : Repo), q1.1) H_ac9 h110 fun ch => ?_
   refine go ?_;intros
   cases h
   exact r_end
  replace h := itf h c
  rw [c]
  refine go ?_;intros
  cases h
  exact r_end
 replace h := itf h c
 rw [c]
 refine go ?_;intros
 cases h
 exact r_end
end Go.Proofs.AM
