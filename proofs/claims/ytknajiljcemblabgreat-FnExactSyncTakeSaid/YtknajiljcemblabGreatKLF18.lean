/- A part of the proofs of this seat's statements (KLF18): lemmas on an abstract machine for the program's functions. Conditions: none. -/
import Derived.Test.YtknajiljcemblabGreatKLD
set_option linter.unusedVariables false
set_option linter.unusedSimpArgs false
set_option maxRecDepth 100000
set_option maxHeartbeats 4000000
namespace Go.Proofs.AM
attribute [local irreducible] vwp vstps vstpLs vstp vdo vret kseq kblk kloop kend kcut kloop2 frzV renV shutK pfzV trnV unrV
theorem d_spec_l10Copy {G : Gam} (H_spec_l7Marks : Has G c_spec_l7Marks) (H_spec_l10Find : Has G c_spec_l10Find) (H_spec_l7One : Has G c_spec_l7One) (a0 : Repo) (a1 : Repo) (a2 : Int) (r : (Repo × Int)) (h : gf_spec_l10Copy a0 a1 a2 = some r) : Does G if_spec_l10Copy ks_spec_l10Copy (c_spec_l10Copy.args (a0, a1, a2)) (c_spec_l10Copy.ins (a0, a1, a2)) (c_spec_l10Copy.ans (a0, a1, a2) r) := by
  refine does_pg (L := fun bs => [(0, .agg [.ref 0 (bs 0).1 (bs 0).2 0 a0.commits.length 115, .ref 8 (bs 1).1 (bs 1).2 0 a0.heads.length 130]), (1, .agg [.ro (List.map (eCommit false) a1.commits), .ro (List.map eHead a1.heads)]), (2, .v (.int .i64 a2))]) (H := fun bs => [(0, ent (bs 0).1 (bs 0).2 115 (List.map (eCommit true) a0.commits)), (8, ent (bs 1).1 (bs 1).2 130 (List.map eHead a0.heads))]) (fun bs => pin) (fun bs => pinh) fun bs t o => ?_
  show vwp _ ib_spec_l10Copy _ _
  unfold ib_spec_l10Copy
  refine w_ir ?_
  unfold gf_spec_l10Copy at h
  obtain ⟨x5, h6, h⟩ := bnd h
  refine go ?_; intros
  refine c_call (c := c_spec_l7Marks) (a1, ([a2] : (List Int))) H_spec_l7Marks h6 fun ch => ?_
  obtain ⟨h11, h⟩ := gd h
  refine go ?_; intros
  refine r_mks (f := eInt) (x := 0) rfl rfl (band1 h11) (band2 h11) rfl fun b9 => ?_
  obtain ⟨q421, h577, h⟩ := bnd h
  refine go ?_; intros
  refine w_last (fun t o => ∃ b566 b567 c568 b569 c570 b571 b573 c574, Pin t (ovr [(2, .v (.int .i64 a2)), (3, .ptr 24 b566 210 0 0), (6, .ptr 48 b571 210 0 0), (9, .ref 160 b573 c574 0 q421.2.length 17)] t) ∧ PinH o (ovh [(1000384, ent (bs 0).1 (bs 0).2 115 (List.map (eCommit true) q421.1)), (1000385, ent (bs 1).1 (bs 1).2 130 (List.map eHead a0.heads)), (24, ⟨b566, 1, 210, true, [[.al 1000384 (bs 0).1 (bs 0).2 0 q421.1.length 115, .al 1000385 (bs 1).1 (bs 1).2 0 a0.heads.length 130]]⟩), (1000768, ent b567 c568 115 (List.map (eCommit true) [])), (1000769, ent b569 c570 130 (List.map eHead [])), (48, ⟨b571, 1, 210, true, [[.al 1000768 b567 c568 0 ([] : List Commit).length 115, .al 1000769 b569 c570 0 ([] : List Head).length 130]]⟩), (160, ent b573 c574 17 (List.map eInt q421.2))] o)) ?_ ?_
  · refine w_loop2 (fun n t o => ∃ n436 v422 v423 v433 b424 b425 b426 c427 b428 c429 b430 b431 c432 b434 c435, gl_spec_l10Copy_4 a2 x5 a0 a1 n436 v422 v423 v433 = some q421 ∧ n436 = n ∧ Pin t (ovr [(2, .v (.int .i64 a2)), (3, .ptr 24 b424 210 0 0), (4, .ptr 32 b425 210 0 0), (6, .ptr 48 b430 210 0 0), (8, .ref 128 b431 c432 0 x5.length 33), (9, .ref 160 b434 c435 0 v433.length 17), (10, .v (.int .i64 v422))] t) ∧ PinH o (ovh [(1000384, ent (bs 0).1 (bs 0).2 115 (List.map (eCommit true) v423)), (1000385, ent (bs 1).1 (bs 1).2 130 (List.map eHead a0.heads)), (24, ⟨b424, 1, 210, true, [[.al 1000384 (bs 0).1 (bs 0).2 0 v423.length 115, .al 1000385 (bs 1).1 (bs 1).2 0 a0.heads.length 130]]⟩), (32, ⟨b425, 1, 210, true, [[.sl false 3 (List.map (eCommit false) a1.commits), .sl false 2 (List.map eHead a1.heads)]]⟩), (1000768, ent b426 c427 115 (List.map (eCommit true) [])), (1000769, ent b428 c429 130 (List.map eHead [])), (48, ⟨b430, 1, 210, true, [[.al 1000768 b426 c427 0 ([] : List Commit).length 115, .al 1000769 b428 c429 0 ([] : List Head).length 130]]⟩), (128, ent b431 c432 33 (List.map eBool x5)), (160, ent b434 c435 17 (List.map eInt v433))] o)) _ ⟨_, _, _, _, _, _, _, _, _, _, _, _, _, _, _, h577, rfl, pin, pinh⟩ ?_
    rintro n t o ⟨n436, v422, v423, v433, b424, b425, b426, c427, b428, c429, b430, b431, c432, b434, c435, h577, rfl, pq1, pq2⟩
    refine pinned pq1 pq2 ?_
    cases n436 with
    | zero => rw [gl_spec_l10Copy_4] at h577; cases h577
    | succ n436 =>
      rw [gl_spec_l10Copy_4] at h577
      refine go ?_; intros
      refine w_cond rfl (fun c => ?_) (fun c => ?_)
      · replace h577 := itt h577 c
        try rw [c]
        obtain ⟨x437, h438, h577⟩ := bnd h577
        refine go ?_; intros
        refine r_ire (xs := x5) rfl rfl h438 rfl ?_
        refine go ?_; intros
        refine r_lde (f := eBool) (xs := x5) (x := x437) rfl rfl (idx_get h438).2 rfl rfl rfl ?_
        refine go ?_; intros
        refine w_cond rfl (fun c => ?_) (fun c => ?_)
        · replace h577 := itt h577 c
          try rw [c]
          refine go ?_; intros
          exact k_ln2 _ (Nat.lt_succ_self _) ⟨_, _, _, _, _, _, _, _, _, _, _, _, _, _, _, h577, rfl, pin, pinh⟩
        replace h577 := itf h577 c
        try rw [c]
        obtain ⟨x439, h440, h577⟩ := bnd h577
        refine go ?_; intros
        refine c_call (c := c_spec_l10Find) ((⟨v423, a0.heads⟩ : Repo), a1, v422) H_spec_l10Find h440 fun ch => ?_
        obtain ⟨x441, h442, h577⟩ := bnd h577
        refine go ?_; intros
        refine r_ire (xs := v433) rfl rfl h442 rfl ?_
        refine go ?_; intros
        refine c_ste (f := eInt) v433 x439 (idx_get h442).2 ?_
        obtain ⟨x443, h444, h577⟩ := bnd h577
        refine go ?_; intros
        refine r_ire (xs := (List.set v433 v422.toNat x439)) rfl rfl h444 rfl ?_
        refine go ?_; intros
        refine r_lde (f := eInt) (xs := (List.set v433 v422.toNat x439)) (x := x443) rfl rfl (idx_get h444).2 rfl rfl rfl ?_
        refine go ?_; intros
        refine w_cond rfl (fun c => ?_) (fun c => ?_)
        · replace h577 := itt h577 c
          try rw [c]
          refine go ?_; intros
          exact k_ln2 _ (Nat.lt_succ_self _) ⟨_, _, _, _, _, _, _, _, _, _, _, _, _, _, _, h577, rfl, pin, pinh⟩
        replace h577 := itf h577 c
        try rw [c]
        obtain ⟨q445, h578, h577⟩ := bnd h577
        refine go ?_; intros
        refine w_cut (fun t o => ∃ b455 b456 b457 c458 b459 c460 b461 b462 c463 b464 c465 b467 c468 b470 c471 b473, Pin t (ovr [(2, .v (.int .i64 a2)), (3, .ptr 24 b455 210 0 0), (4, .ptr 32 b456 210 0 0), (6, .ptr 48 b461 210 0 0), (8, .ref 128 b462 c463 0 x5.length 33), (9, .ref 160 b464 c465 0 (List.set v433 v422.toNat x439).length 17), (10, .v (.int .i64 v422)), (11, .ptr 88 b473 115 0 0)] t) ∧ PinH o (ovh [(1000384, ent (bs 0).1 (bs 0).2 115 (List.map (eCommit true) v423)), (1000385, ent (bs 1).1 (bs 1).2 130 (List.map eHead a0.heads)), (24, ⟨b455, 1, 210, true, [[.al 1000384 (bs 0).1 (bs 0).2 0 v423.length 115, .al 1000385 (bs 1).1 (bs 1).2 0 a0.heads.length 130]]⟩), (32, ⟨b456, 1, 210, true, [[.sl false 3 (List.map (eCommit false) a1.commits), .sl false 2 (List.map eHead a1.heads)]]⟩), (1000768, ent b457 c458 115 (List.map (eCommit true) [])), (1000769, ent b459 c460 130 (List.map eHead [])), (48, ⟨b461, 1, 210, true, [[.al 1000768 b457 c458 0 ([] : List Commit).length 115, .al 1000769 b459 c460 0 ([] : List Head).length 130]]⟩), (128, ent b462 c463 33 (List.map eBool x5)), (160, ent b464 c465 17 (List.map eInt (List.set v433 v422.toNat x439))), (1001408, ent b467 c468 17 (List.map eInt q445.1)), (1001409, ent b470 c471 100 (List.map (eFeat true) q445.2.1)), (88, ⟨b473, 1, 115, true, [[.al 1001408 b467 c468 0 q445.1.length 17, .al 1001409 b470 c471 0 q445.2.1.length 100, .v (.string q445.2.2)]]⟩)] o)) ?_ ?_
        · obtain ⟨x446, h447, h578⟩ := bnd h578
          refine go ?_; intros
          refine r_iro rfl rfl h447 rfl ?_
          obtain ⟨x448, h449, h578⟩ := bnd h578
          refine go ?_; intros
          refine c_call (c := c_spec_l7One) (x446) H_spec_l7One h449 fun ch => ?_
          refine go ?_; intros
          cases h578
          exact k_cn ⟨_, _, _, _, _, _, _, _, _, _, _, _, _, _, _, _, pin, pinh⟩
        rintro t o ⟨b455, b456, b457, c458, b459, c460, b461, b462, c463, b464, c465, b467, c468, b470, c471, b473, pq1, pq2⟩
        refine pinned pq1 pq2 ?_
        obtain ⟨q520, h579, h577⟩ := bnd h577
        refine go ?_; intros
        refine w_last (fun t o => ∃ b544 b545 b546 c547 b548 c549 b550 b551 c552 b553 c554 b556 c557 b558 c559 b560, Pin t (ovr [(2, .v (.int .i64 a2)), (3, .ptr 24 b544 210 0 0), (4, .ptr 32 b545 210 0 0), (6, .ptr 48 b550 210 0 0), (8, .ref 128 b551 c552 0 x5.length 33), (9, .ref 160 b553 c554 0 (List.set v433 v422.toNat x439).length 17), (10, .v (.int .i64 v422)), (11, .ptr 88 b560 115 0 0)] t) ∧ PinH o (ovh [(1000384, ent (bs 0).1 (bs 0).2 115 (List.map (eCommit true) v423)), (1000385, ent (bs 1).1 (bs 1).2 130 (List.map eHead a0.heads)), (24, ⟨b544, 1, 210, true, [[.al 1000384 (bs 0).1 (bs 0).2 0 v423.length 115, .al 1000385 (bs 1).1 (bs 1).2 0 a0.heads.length 130]]⟩), (32, ⟨b545, 1, 210, true, [[.sl false 3 (List.map (eCommit false) a1.commits), .sl false 2 (List.map eHead a1.heads)]]⟩), (1000768, ent b546 c547 115 (List.map (eCommit true) [])), (1000769, ent b548 c549 130 (List.map eHead [])), (48, ⟨b550, 1, 210, true, [[.al 1000768 b546 c547 0 ([] : List Commit).length 115, .al 1000769 b548 c549 0 ([] : List Head).length 130]]⟩), (128, ent b551 c552 33 (List.map eBool x5)), (160, ent b553 c554 17 (List.map eInt (List.set v433 v422.toNat x439))), (1001408, ent b556 c557 17 (List.map eInt q520)), (1001409, ent b558 c559 100 (List.map (eFeat true) q445.2.1)), (88, ⟨b560, 1, 115, true, [[.al 1001408 b556 c557 0 q520.length 17, .al 1001409 b558 c559 0 q445.2.1.length 100, .v (.string q445.2.2)]]⟩)] o)) ?_ ?_
        · refine w_loop2 (fun n t o => ∃ n539 v521 v533 b522 b523 b524 c525 b526 c527 b528 b529 c530 b531 c532 b534 c535 b536 c537 b538, gl_spec_l10Copy_5 v433 v422 x439 n539 v521 v533 = some q520 ∧ n539 = n ∧ Pin t (ovr [(2, .v (.int .i64 a2)), (3, .ptr 24 b522 210 0 0), (4, .ptr 32 b523 210 0 0), (6, .ptr 48 b528 210 0 0), (8, .ref 128 b529 c530 0 x5.length 33), (9, .ref 160 b531 c532 0 (List.set v433 v422.toNat x439).length 17), (10, .v (.int .i64 v422)), (11, .ptr 88 b538 115 0 0), (12, .v (.int .i64 v521))] t) ∧ PinH o (ovh [(1000384, ent (bs 0).1 (bs 0).2 115 (List.map (eCommit true) v423)), (1000385, ent (bs 1).1 (bs 1).2 130 (List.map eHead a0.heads)), (24, ⟨b522, 1, 210, true, [[.al 1000384 (bs 0).1 (bs 0).2 0 v423.length 115, .al 1000385 (bs 1).1 (bs 1).2 0 a0.heads.length 130]]⟩), (32, ⟨b523, 1, 210, true, [[.sl false 3 (List.map (eCommit false) a1.commits), .sl false 2 (List.map eHead a1.heads)]]⟩), (1000768, ent b524 c525 115 (List.map (eCommit true) [])), (1000769, ent b526 c527 130 (List.map eHead [])), (48, ⟨b528, 1, 210, true, [[.al 1000768 b524 c525 0 ([] : List Commit).length 115, .al 1000769 b526 c527 0 ([] : List Head).length 130]]⟩), (128, ent b529 c530 33 (List.map eBool x5)), (160, ent b531 c532 17 (List.map eInt (List.set v433 v422.toNat x439))), (1001408, ent b534 c535 17 (List.map eInt v533)), (1001409, ent b536 c537 100 (List.map (eFeat true) q445.2.1)), (88, ⟨b538, 1, 115, true, [[.al 1001408 b534 c535 0 v533.length 17, .al 1001409 b536 c537 0 q445.2.1.length 100, .v (.string q445.2.2)]]⟩)] o)) _ ⟨_, _, _, _, _, _, _, _, _, _, _, _, _, _, _, _, _, _, _, h579, rfl, pin, pinh⟩ ?_
          rintro n t o ⟨n539, v521, v533, b522, b523, b524, c525, b526, c527, b528, b529, c530, b531, c532, b534, c535, b536, c537, b538, h579, rfl, pq1, pq2⟩
          refine pinned pq1 pq2 ?_
          cases n539 with
          | zero => rw [gl_spec_l10Copy_5] at h579; cases h579
          | succ n539 =>
            rw [gl_spec_l10Copy_5] at h579
            refine go ?_; intros
            refine w_cond rfl (fun c => ?_) (fun c => ?_)
            · replace h579 := itt h579 (by first | exact c | (have c2 := c; simp only [List.length_map] at c2; exact c2))
              try rw [c]
              obtain ⟨x540, h541, h579⟩ := bnd h579
              refine go ?_; intros
              refine r_ire (xs := v533) rfl rfl h541 rfl ?_
              refine go ?_; intros
              refine r_lde (f := eInt) (xs := v533) (x := x540) rfl rfl (idx_get h541).2 rfl rfl rfl ?_
              obtain ⟨x542, h543, h579⟩ := bnd h579
              refine go ?_; intros
              refine r_ire (xs := (List.set v433 v422.toNat x439)) rfl rfl h543 rfl ?_
              refine go ?_; intros
              refine r_lde (f := eInt) (xs := (List.set v433 v422.toNat x439)) (x := x542) rfl rfl (idx_get h543).2 rfl rfl rfl ?_
              refine go ?_; intros
              refine r_ire (xs := v533) rfl rfl h541 rfl ?_
              refine go ?_; intros
              refine c_ste (f := eInt) v533 x542 (idx_get h541).2 ?_
              refine go ?_; intros
              exact k_ln2 _ (Nat.lt_succ_self _) ⟨_, _, _, _, _, _, _, _, _, _, _, _, _, _, _, _, _, _, _, h579, rfl, pin, pinh⟩
            replace h579 := itf h579 (by first | exact c | (have c2 := c; simp only [List.length_map] at c2; exact c2))
            try rw [c]
            refine go ?_; intros
            cases h579
            exact k_cn ⟨_, _, _, _, _, _, _, _, _, _, _, _, _, _, _, _, pin, pinh⟩
        rintro t o ⟨b544, b545, b546, c547, b548, c549, b550, b551, c552, b553, c554, b556, c557, b558, c559, b560, pq1, pq2⟩
        refine pinnedQ pq1 pq2 ?_
        refine go ?_; intros
        refine r_ire (xs := (List.set v433 v422.toNat x439)) rfl rfl h444 rfl ?_
        refine go ?_; intros
        refine c_ste (f := eInt) (List.set v433 v422.toNat x439) (v423.length : Int) (idx_get h444).2 ?_
        refine go ?_; intros
        try simp only [take_map_len, take_ent]
        obtain ⟨h564, h577⟩ := gd h577
        refine go ?_; intros
        refine r_app (f := (eCommit true)) (xs := v423) (ys := ([(⟨q520, q445.2.1, q445.2.2⟩ : Commit)] : (List Commit))) rfl (src_mv rfl rfl (by first | rfl | simp)) rfl rfl (by first | rfl | simp) h564 fun b562 c563 => ?_
        refine go ?_; intros
        exact k_ln2 _ (Nat.lt_succ_self _) ⟨_, _, _, _, _, _, _, _, _, _, _, _, _, _, _, h577, rfl, pin, pinh⟩
      replace h577 := itf h577 c
      try rw [c]
      refine go ?_; intros
      cases h577
      exact k_cn ⟨_, _, _, _, _, _, _, _, pin, pinh⟩
  rintro t o ⟨b566, b567, c568, b569, c570, b571, b573, c574, pq1, pq2⟩
  refine pinnedQ pq1 pq2 ?_
  refine go ?_; intros
  refine w_cond rfl (fun c => ?_) (fun c => ?_)
  · replace h := itt h (by first | exact c | (have c2 := c; simp only [List.length_map] at c2; exact c2))
    try rw [c]
    refine go ?_; intros
    cases h
    exact r_endg
  replace h := itf h (by first | exact c | (have c2 := c; simp only [List.length_map] at c2; exact c2))
  try rw [c]
  obtain ⟨x575, h576, h⟩ := bnd h
  refine go ?_; intros
  refine r_ire (xs := q421.2) rfl rfl h576 rfl ?_
  refine go ?_; intros
  refine r_lde (f := eInt) (xs := q421.2) (x := x575) rfl rfl (idx_get h576).2 rfl rfl rfl ?_
  refine go ?_; intros
  cases h
  exact r_endg
theorem d_spec_SyncTake {G : Gam} (H_spec_RepoOk : Has G c_spec_RepoOk) (H_spec_RepoAt : Has G c_spec_RepoAt) (H_spec_l10Find : Has G c_spec_l10Find) (H_spec_l7Copy : Has G c_spec_l7Copy) (H_spec_l10Copy : Has G c_spec_l10Copy) (H_spec_l7Head : Has G c_spec_l7Head) (H_spec_RepoAhead : Has G c_spec_RepoAhead) (a0 : Repo) (a1 : Repo) (a2 : Str) (r : (Repo × Int)) (h : gf_spec_SyncTake a0 a1 a2 = some r) : Does G if_spec_SyncTake ks_spec_SyncTake (c_spec_SyncTake.args (a0, a1, a2)) [] (c_spec_SyncTake.ans (a0, a1, a2) r) := by
  refine does_pn (L := [(0, .agg [.ro (List.map (eCommit false) a0.commits), .ro (List.map eHead a0.heads)]), (1, .agg [.ro (List.map (eCommit false) a1.commits), .ro (List.map eHead a1.heads)]), (2, .v (.string a2))]) (fun bs => pin) fun bs t o => ?_
  show vwp _ ib_spec_SyncTake _ _
  unfold ib_spec_SyncTake
  refine w_ir ?_
  unfold gf_spec_SyncTake at h
  obtain ⟨x4, h5, h⟩ := bnd h
  refine go ?_; intros
  refine c_call (c := c_spec_RepoOk) (a0) H_spec_RepoOk h5 fun ch => ?_
  refine go ?_; intros
  refine s_split rfl (fun c => ?_) (fun c => ?_)
  · replace h := itt h c
    rw [c]
    refine go ?_; intros
    cases h
    exact r_end
  replace h := itf h c
  rw [c]
  obtain ⟨x6, h7, h⟩ := bnd h
  refine go ?_; intros
  refine c_call (c := c_spec_RepoOk) (a1) H_spec_RepoOk h7 fun ch => ?_
  refine go ?_; intros
  refine w_cond rfl (fun c => ?_) (fun c => ?_)
  · replace h := itt h c
    try rw [c]
    refine go ?_; intros
    cases h
    exact r_end
  replace h := itf h c
  try rw [c]
  obtain ⟨x8, h9, h⟩ := bnd h
  refine go ?_; intros
  refine c_call (c := c_spec_RepoAt) (a1, a2) H_spec_RepoAt h9 fun ch => ?_
  obtain ⟨q10, h86, h⟩ := bnd h
  refine go ?_; intros
  refine w_cut (fun t o => ∃ b14 b15 b16 c17 b18 c19 b20, Pin t (ovr [(2, .v (.string a2)), (3, .ptr 24 b14 210 0 0), (4, .ptr 32 b15 210 0 0), (6, .ptr 48 b20 210 0 0), (8, .v (.int .i64 x8)), (31, .v (.bool q10))] t) ∧ PinH o (ovh [(24, ⟨b14, 1, 210, true, [[.sl false 3 (List.map (eCommit false) a0.commits), .sl false 2 (List.map eHead a0.heads)]]⟩), (32, ⟨b15, 1, 210, true, [[.sl false 3 (List.map (eCommit false) a1.commits), .sl false 2 (List.map eHead a1.heads)]]⟩), (1000768, ent b16 c17 115 (List.map (eCommit true) [])), (1000769, ent b18 c19 130 (List.map eHead [])), (48, ⟨b20, 1, 210, true, [[.al 1000768 b16 c17 0 ([] : List Commit).length 115, .al 1000769 b18 c19 0 ([] : List Head).length 130]]⟩)] o)) ?_ ?_
  · refine go ?_; intros
    refine s_split rfl (fun c => ?_) (fun c => ?_)
    · replace h86 := itt h86 c
      rw [c]
      refine go ?_; intros
      cases h86
      exact k_cn ⟨_, _, _, _, _, _, _, pin, pinh⟩
    replace h86 := itf h86 c
    rw [c]
    obtain ⟨x11, h12, h86⟩ := bnd h86
    refine go ?_; intros
    refine c_call (c := c_spec_l10Find) (a0, a1, 0) H_spec_l10Find h12 fun ch => ?_
    refine go ?_; intros
    cases h86
    exact k_cn ⟨_, _, _, _, _, _, _, pin, pinh⟩
  rintro t o ⟨b14, b15, b16, c17, b18, c19, b20, pq1, pq2⟩
  refine pinned pq1 pq2 ?_
  refine go ?_; intros
  refine w_cond rfl (fun c => ?_) (fun c => ?_)
  · replace h := itt h c
    try rw [c]
    obtain ⟨x21, h22, h⟩ := bnd h
    refine go ?_; intros
    refine c_call (c := c_spec_l7Copy) (a0) H_spec_l7Copy h22 fun ch => ?_
    refine go ?_; intros
    cases h
    exact r_end
  replace h := itf h c
  try rw [c]
  obtain ⟨x27, h28, h⟩ := bnd h
  refine go ?_; intros
  refine c_call (c := c_spec_l7Copy) (a0) H_spec_l7Copy h28 fun ch => ?_
  obtain ⟨x33, h34, h⟩ := bnd h
  refine go ?_; intros
  refine c_callg (c := c_spec_l10Copy) (x27, a1, x8) H_spec_l10Copy h34 fun ch => ?_
  obtain ⟨x40, h41, h⟩ := bnd h
  refine go ?_; intros
  refine c_call (c := c_spec_l7Head) (a0, a2) H_spec_l7Head h41 fun ch => ?_
  refine go ?_; intros
  refine s_split rfl (fun c => ?_) (fun c => ?_)
  · replace h := itt h c
    rw [c]
    obtain ⟨x42, h43, h⟩ := bnd h
    refine go ?_; intros
    refine c_call (c := c_spec_l7Copy) (a0) H_spec_l7Copy h43 fun ch => ?_
    refine go ?_; intros
    cases h
    exact r_end
  replace h := itf h c
  rw [c]
  refine go ?_; intros
  refine s_split rfl (fun c => ?_) (fun c => ?_)
  · replace h := itt h c
    rw [c]
    refine go ?_; intros
    refine w_cond rfl (fun c => ?_) (fun c => ?_)
    · replace h := itt h (by first | exact c | (have c2 := c; simp only [List.length_map] at c2; exact c2))
      try rw [c]
      obtain ⟨x48, h49, h⟩ := bnd h
      refine go ?_; intros
      refine c_call (c := c_spec_l7Copy) (a0) H_spec_l7Copy h49 fun ch => ?_
      refine go ?_; intros
      cases h
      exact r_end
    replace h := itf h (by first | exact c | (have c2 := c; simp only [List.length_map] at c2; exact c2))
    try rw [c]
    refine go ?_; intros
    refine w_cond rfl (fun c => ?_) (fun c => ?_)
    · replace h := itt h c
      try rw [c]
      obtain ⟨h57, h⟩ := gd h
      refine go ?_; intros
      refine r_app (f := eHead) (xs := x33.1.heads) (ys := ([(⟨a2, x33.2⟩ : Head)] : (List Head))) rfl (src_mv rfl rfl (by first | rfl | simp)) rfl rfl (by first | rfl | simp) h57 fun b55 c56 => ?_
      refine go ?_; intros
      cases h
      exact r_end
    replace h := itf h c
    try rw [c]
    obtain ⟨x58, h59, h⟩ := bnd h
    refine go ?_; intros
    refine r_ire (xs := x33.1.heads) rfl rfl h59 rfl ?_
    refine go ?_; intros
    refine r_lde (f := eHead) (xs := x33.1.heads) (x := x58) rfl rfl (idx_get h59).2 rfl rfl rfl ?_
    obtain ⟨x60, h61, h⟩ := bnd h
    refine go ?_; intros
    refine c_call (c := c_spec_RepoAhead) (x33.1, x33.2, x58.at_) H_spec_RepoAhead h61 fun ch => ?_
    refine go ?_; intros
    refine w_cond rfl (fun c => ?_) (fun c => ?_)
    · replace h := itt h c
      try rw [c]
      refine go ?_; intros
      cases h
      exact r_end
    replace h := itf h c
    try rw [c]
    refine go ?_; intros
    refine r_ire (xs := x33.1.heads) rfl rfl h59 rfl ?_
    refine go ?_; intros
    refine r_lde (f := eHead) (xs := x33.1.heads) (x := x58) rfl rfl (idx_get h59).2 rfl rfl rfl ?_
    obtain ⟨x62, h63, h⟩ := bnd h
    refine go ?_; intros
    refine c_call (c := c_spec_RepoAhead) (x33.1, x58.at_, x33.2) H_spec_RepoAhead h63 fun ch => ?_
    refine go ?_; intros
    refine w_cond rfl (fun c => ?_) (fun c => ?_)
    · replace h := itt h c
      try rw [c]
      refine go ?_; intros
      refine r_ire (xs := x33.1.heads) rfl rfl h59 rfl ?_
      refine go ?_; intros
      refine c_ste (f := eHead) x33.1.heads (⟨x58.name, x33.2⟩ : Head) (idx_get h59).2 ?_
      refine go ?_; intros
      cases h
      exact r_end
    replace h := itf h c
    try rw [c]
    obtain ⟨x64, h65, h⟩ := bnd h
    refine go ?_; intros
    refine c_call (c := c_spec_l7Copy) (a0) H_spec_l7Copy h65 fun ch => ?_
    refine go ?_; intros
    cases h
    exact r_end
  replace h := itf h c
  rw [c]
  refine go ?_; intros
  refine w_cond rfl (fun c => ?_) (fun c => ?_)
  · replace h := itt h c
    try rw [c]
    obtain ⟨h73, h⟩ := gd h
    refine go ?_; intros
    refine r_app (f := eHead) (xs := x33.1.heads) (ys := ([(⟨a2, x33.2⟩ : Head)] : (List Head))) rfl (src_mv rfl rfl (by first | rfl | simp)) rfl rfl (by first | rfl | simp) h73 fun b71 c72 => ?_
    refine go ?_; intros
    cases h
    exact r_end
  replace h := itf h c
  try rw [c]
  obtain ⟨x74, h75, h⟩ := bnd h
  refine go ?_; intros
  refine r_ire (xs := x33.1.heads) rfl rfl h75 rfl ?_
  refine go ?_; intros
  refine r_lde (f := eHead) (xs := x33.1.heads) (x := x74) rfl rfl (idx_get h75).2 rfl rfl rfl ?_
  obtain ⟨x76, h77, h⟩ := bnd h
  refine go ?_; intros
  refine c_call (c := c_spec_RepoAhead) (x33.1, x33.2, x74.at_) H_spec_RepoAhead h77 fun ch => ?_
  refine go ?_; intros
  refine w_cond rfl (fun c => ?_) (fun c => ?_)
  · replace h := itt h c
    try rw [c]
    refine go ?_; intros
    cases h
    exact r_end
  replace h := itf h c
  try rw [c]
  refine go ?_; intros
  refine r_ire (xs := x33.1.heads) rfl rfl h75 rfl ?_
  refine go ?_; intros
  refine r_lde (f := eHead) (xs := x33.1.heads) (x := x74) rfl rfl (idx_get h75).2 rfl rfl rfl ?_
  obtain ⟨x78, h79, h⟩ := bnd h
  refine go ?_; intros
  refine c_call (c := c_spec_RepoAhead) (x33.1, x74.at_, x33.2) H_spec_RepoAhead h79 fun ch => ?_
  refine go ?_; intros
  refine w_cond rfl (fun c => ?_) (fun c => ?_)
  · replace h := itt h c
    try rw [c]
    refine go ?_; intros
    refine r_ire (xs := x33.1.heads) rfl rfl h75 rfl ?_
    refine go ?_; intros
    refine c_ste (f := eHead) x33.1.heads (⟨x74.name, x33.2⟩ : Head) (idx_get h75).2 ?_
    refine go ?_; intros
    cases h
    exact r_end
  replace h := itf h c
  try rw [c]
  obtain ⟨x80, h81, h⟩ := bnd h
  refine go ?_; intros
  refine c_call (c := c_spec_l7Copy) (a0) H_spec_l7Copy h81 fun ch => ?_
  refine go ?_; intros
  cases h
  exact r_end
theorem d_laws_FnExactSyncTake {G : Gam} (H_laws_szRepo : Has G c_laws_szRepo) (H_laws_toRepo : Has G c_laws_toRepo) (H_spec_SyncTake : Has G c_spec_SyncTake) (H_impl_SyncTake : Has G c_impl_SyncTake) (H_laws_eqRepo : Has G c_laws_eqRepo) (H_laws_markRepo : Has G c_laws_markRepo) (H_laws_heldRepo : Has G c_laws_heldRepo) (a0 : Repo) (a1 : Repo) (a2 : Str) (r : Bool) (h : gf_laws_FnExactSyncTake a0 a1 a2 = some r) : Does G if_laws_FnExactSyncTake ks_laws_FnExactSyncTake (c_laws_FnExactSyncTake.args (a0, a1, a2)) [] (c_laws_FnExactSyncTake.ans (a0, a1, a2) r) := by
  refine does_pn (L := [(0, .agg [.ro (List.map (eCommit false) a0.commits), .ro (List.map eHead a0.heads)]), (1, .agg [.ro (List.map (eCommit false) a1.commits), .ro (List.map eHead a1.heads)]), (2, .v (.string a2))]) (fun bs => pin) fun bs t o => ?_
  show vwp _ ib_laws_FnExactSyncTake _ _
  unfold ib_laws_FnExactSyncTake
  refine w_ir ?_
  unfold gf_laws_FnExactSyncTake at h
  refine go ?_; intros
  refine w_cond rfl (fun c => ?_) (fun c => ?_)
  · replace h := itt h c
    try rw [c]
    refine go ?_; intros
    cases h
    exact r_end
  replace h := itf h c
  try rw [c]
  obtain ⟨x3, h4, h⟩ := bnd h
  refine go ?_; intros
  refine c_call (c := c_laws_szRepo) (a0, 1048576) H_laws_szRepo h4 fun ch => ?_
  refine go ?_; intros
  refine w_cond rfl (fun c => ?_) (fun c => ?_)
  · replace h := itt h c
    try rw [c]
    refine go ?_; intros
    cases h
    exact r_end
  replace h := itf h c
  try rw [c]
  obtain ⟨x5, h6, h⟩ := bnd h
  refine go ?_; intros
  refine c_call (c := c_laws_szRepo) (a1, x3) H_laws_szRepo h6 fun ch => ?_
  refine go ?_; intros
  refine w_cond rfl (fun c => ?_) (fun c => ?_)
  · replace h := itt h c
    try rw [c]
    refine go ?_; intros
    cases h
    exact r_end
  replace h := itf h c
  try rw [c]
  obtain ⟨x7, h8, h⟩ := bnd h
  refine go ?_; intros
  refine c_call (c := c_laws_toRepo) (a0) H_laws_toRepo h8 fun ch => ?_
  obtain ⟨x13, h14, h⟩ := bnd h
  refine go ?_; intros
  refine c_call (c := c_laws_toRepo) (a1) H_laws_toRepo h14 fun ch => ?_
  obtain ⟨x19, h20, h⟩ := bnd h
  refine go ?_; intros
  refine c_call (c := c_spec_SyncTake) (x7, x13, a2) H_spec_SyncTake h20 fun ch => ?_
  obtain ⟨q26, h139, h⟩ := bnd h
  refine go ?_; intros
  refine w_cut (fun t o => ∃ b34 b35 b36 c37 b38 c39 b40 b42 c43 b45 c46 b47, Pin t (ovr [(2, .v (.string a2)), (3, .ptr 24 b34 466 0 0), (4, .ptr 32 b35 466 0 0), (8, .ptr 64 b40 210 0 0), (9, .v (.int .i64 x19.2)), (10, .ptr 80 b47 210 0 0)] t) ∧ PinH o (ovh [(24, ⟨b34, 1, 466, true, [[.sl false 3 (List.map (eCommit false) a0.commits), .sl false 2 (List.map eHead a0.heads)]]⟩), (32, ⟨b35, 1, 466, true, [[.sl false 3 (List.map (eCommit false) a1.commits), .sl false 2 (List.map eHead a1.heads)]]⟩), (1001024, ent b36 c37 115 (List.map (eCommit true) x19.1.commits)), (1001025, ent b38 c39 130 (List.map eHead x19.1.heads)), (64, ⟨b40, 1, 210, true, [[.al 1001024 b36 c37 0 x19.1.commits.length 115, .al 1001025 b38 c39 0 x19.1.heads.length 130]]⟩), (1001280, ent b42 c43 115 (List.map (eCommit true) q26.1)), (1001281, ent b45 c46 130 (List.map eHead q26.2)), (80, ⟨b47, 1, 210, true, [[.al 1001280 b42 c43 0 q26.1.length 115, .al 1001281 b45 c46 0 q26.2.length 130]]⟩)] o)) ?_ ?_
  · obtain ⟨x27, h28, h139⟩ := bnd h139
    refine go ?_; intros
    refine c_call (c := c_laws_toRepo) (a0) H_laws_toRepo h28 fun ch => ?_
    refine go ?_; intros
    cases h139
    exact k_cn ⟨_, _, _, _, _, _, _, _, _, _, _, _, pin, pinh⟩
  rintro t o ⟨b34, b35, b36, c37, b38, c39, b40, b42, c43, b45, c46, b47, pq1, pq2⟩
  refine pinned pq1 pq2 ?_
  obtain ⟨x48, h49, h⟩ := bnd h
  refine go ?_; intros
  refine c_call (c := c_laws_toRepo) (a1) H_laws_toRepo h49 fun ch => ?_
  obtain ⟨q55, h140, h⟩ := bnd h
  refine go ?_; intros
  refine w_cut (fun t o => ∃ b64 b65 b66 c67 b68 c69 b70 b71 c72 b73 c74 b75 b76 c77 b78 c79 b80 b82 c83 b85 c86 b87, Pin t (ovr [(2, .v (.string a2)), (3, .ptr 24 b64 466 0 0), (4, .ptr 32 b65 466 0 0), (8, .ptr 64 b70 210 0 0), (9, .v (.int .i64 x19.2)), (10, .ptr 80 b75 210 0 0), (11, .ptr 88 b80 210 0 0), (12, .ptr 96 b87 210 0 0), (13, .v (.int .i64 q55.1))] t) ∧ PinH o (ovh [(24, ⟨b64, 1, 466, true, [[.sl false 3 (List.map (eCommit false) a0.commits), .sl false 2 (List.map eHead a0.heads)]]⟩), (32, ⟨b65, 1, 466, true, [[.sl false 3 (List.map (eCommit false) a1.commits), .sl false 2 (List.map eHead a1.heads)]]⟩), (1001024, ent b66 c67 115 (List.map (eCommit true) x19.1.commits)), (1001025, ent b68 c69 130 (List.map eHead x19.1.heads)), (64, ⟨b70, 1, 210, true, [[.al 1001024 b66 c67 0 x19.1.commits.length 115, .al 1001025 b68 c69 0 x19.1.heads.length 130]]⟩), (1001280, ent b71 c72 115 (List.map (eCommit true) q26.1)), (1001281, ent b73 c74 130 (List.map eHead q26.2)), (80, ⟨b75, 1, 210, true, [[.al 1001280 b71 c72 0 q26.1.length 115, .al 1001281 b73 c74 0 q26.2.length 130]]⟩), (1001408, ent b76 c77 115 (List.map (eCommit true) x48.commits)), (1001409, ent b78 c79 130 (List.map eHead x48.heads)), (88, ⟨b80, 1, 210, true, [[.al 1001408 b76 c77 0 x48.commits.length 115, .al 1001409 b78 c79 0 x48.heads.length 130]]⟩), (1001536, ent b82 c83 115 (List.map (eCommit true) q55.2.1)), (1001537, ent b85 c86 130 (List.map eHead q55.2.2)), (96, ⟨b87, 1, 210, true, [[.al 1001536 b82 c83 0 q55.2.1.length 115, .al 1001537 b85 c86 0 q55.2.2.length 130]]⟩)] o)) ?_ ?_
  · obtain ⟨x56, h57, h140⟩ := bnd h140
    refine go ?_; intros
    refine c_call (c := c_impl_SyncTake) ((⟨q26.1, q26.2⟩ : Repo), x48, a2) H_impl_SyncTake h57 fun ch => ?_
    refine go ?_; intros
    cases h140
    exact k_cn ⟨_, _, _, _, _, _, _, _, _, _, _, _, _, _, _, _, _, _, _, _, _, _, pin, pinh⟩
  rintro t o ⟨b64, b65, b66, c67, b68, c69, b70, b71, c72, b73, c74, b75, b76, c77, b78, c79, b80, b82, c83, b85, c86, b87, pq1, pq2⟩
  refine pinned pq1 pq2 ?_
  obtain ⟨x88, h89, h⟩ := bnd h
  refine go ?_; intros
  refine c_call (c := c_laws_eqRepo) ((⟨q55.2.1, q55.2.2⟩ : Repo), x19.1) H_laws_eqRepo h89 fun ch => ?_
  refine go ?_; intros
  refine s_split rfl (fun c => ?_) (fun c => ?_)
  · replace h := itt h c
    rw [c]
    refine go ?_; intros
    cases h
    exact r_end
  replace h := itf h c
  rw [c]
  refine go ?_; intros
  refine w_cond rfl (fun c => ?_) (fun c => ?_)
  · replace h := itt h c
    try rw [c]
    refine go ?_; intros
    cases h
    exact r_end
  replace h := itf h c
  try rw [c]
  obtain ⟨x90, h91, h⟩ := bnd h
  refine go ?_; intros
  refine c_call (c := c_laws_toRepo) (a0) H_laws_toRepo h91 fun ch => ?_
  obtain ⟨x96, h97, h⟩ := bnd h
  refine go ?_; intros
  refine c_call (c := c_laws_eqRepo) ((⟨q26.1, q26.2⟩ : Repo), x90) H_laws_eqRepo h97 fun ch => ?_
  refine go ?_; intros
  refine w_cond rfl (fun c => ?_) (fun c => ?_)
  · replace h := itt h c
    try rw [c]
    refine go ?_; intros
    cases h
    exact r_end
  replace h := itf h c
  try rw [c]
  obtain ⟨x98, h99, h⟩ := bnd h
  refine go ?_; intros
  refine c_call (c := c_laws_toRepo) (a1) H_laws_toRepo h99 fun ch => ?_
  obtain ⟨x104, h105, h⟩ := bnd h
  refine go ?_; intros
  refine c_call (c := c_laws_eqRepo) (x48, x98) H_laws_eqRepo h105 fun ch => ?_
  refine go ?_; intros
  refine w_cond rfl (fun c => ?_) (fun c => ?_)
  · replace h := itt h c
    try rw [c]
    refine go ?_; intros
    cases h
    exact r_end
  replace h := itf h c
  try rw [c]
  obtain ⟨x106, h107, h⟩ := bnd h
  refine go ?_; intros
  have L107 := l_laws_markRepo h107; (try dsimp only at L107); refine c_callg (c := c_laws_markRepo) ((⟨q26.1, q26.2⟩ : Repo), 1) H_laws_markRepo h107 fun ch => ?_
  obtain ⟨x108, h109, h⟩ := bnd h
  refine go ?_; intros
  have L109 := l_laws_markRepo h109; (try dsimp only at L109); refine c_callg (c := c_laws_markRepo) (x48, x106.1) H_laws_markRepo h109 fun ch => ?_
  refine go ?_; intros
  refine s_split rfl (fun c => ?_) (fun c => ?_)
  · replace h := itt h c
    rw [c]
    refine go ?_; intros
    cases h
    exact r_end
  replace h := itf h c
  rw [c]
  obtain ⟨x110, h111, h⟩ := bnd h
  refine go ?_; intros
  refine c_call (c := c_laws_eqRepo) ((⟨q55.2.1, q55.2.2⟩ : Repo), x19.1) H_laws_eqRepo h111 fun ch => ?_
  refine go ?_; intros
  refine s_split rfl (fun c => ?_) (fun c => ?_)
  · replace h := itt h c
    rw [c]
    refine go ?_; intros
    cases h
    exact r_end
  replace h := itf h c
  rw [c]
  refine go ?_; intros
  refine w_cond rfl (fun c => ?_) (fun c => ?_)
  · replace h := itt h c
    try rw [c]
    refine go ?_; intros
    cases h
    exact r_end
  replace h := itf h c
  try rw [c]
  obtain ⟨x112, h113, h⟩ := bnd h
  refine go ?_; intros
  have L113 := l_laws_markRepo h113; (try dsimp only at L113); refine c_callg (c := c_laws_markRepo) ((⟨q55.2.1, q55.2.2⟩ : Repo), 1) H_laws_markRepo h113 fun ch => ?_
  obtain ⟨x114, h115, h⟩ := bnd h
  refine go ?_; intros
  refine c_call (c := c_laws_heldRepo) (x112.2, 1) H_laws_heldRepo h115 fun ch => ?_
  refine go ?_; intros
  refine w_cond rfl (fun c => ?_) (fun c => ?_)
  · replace h := itt h c
    try rw [c]
    refine go ?_; intros
    cases h
    exact r_end
  replace h := itf h c
  try rw [c]
  refine go ?_; intros
  refine w_cond rfl (fun c => ?_) (fun c => ?_)
  · replace h := itt h c
    try rw [c]
    refine go ?_; intros
    cases h
    exact r_end
  replace h := itf h c
  try rw [c]
  obtain ⟨x116, h117, h⟩ := bnd h
  refine go ?_; intros
  refine c_call (c := c_laws_toRepo) (a0) H_laws_toRepo h117 fun ch => ?_
  obtain ⟨x122, h123, h⟩ := bnd h
  refine go ?_; intros
  refine c_call (c := c_laws_toRepo) (a1) H_laws_toRepo h123 fun ch => ?_
  obtain ⟨x128, h129, h⟩ := bnd h
  refine go ?_; intros
  refine c_call (c := c_impl_SyncTake) (x116, x122, a2) H_impl_SyncTake h129 fun ch => ?_
  obtain ⟨x135, h136, h⟩ := bnd h
  refine go ?_; intros
  refine c_call (c := c_laws_eqRepo) (x128.1, x19.1) H_laws_eqRepo h136 fun ch => ?_
  refine go ?_; intros
  refine s_split rfl (fun c => ?_) (fun c => ?_)
  · replace h := itt h c
    rw [c]
    refine go ?_; intros
    cases h
    exact r_end
  replace h := itf h c
  rw [c]
  refine go ?_; intros
  refine w_cond rfl (fun c => ?_) (fun c => ?_)
  · replace h := itt h c
    try rw [c]
    refine go ?_; intros
    cases h
    exact r_end
  replace h := itf h c
  try rw [c]
  obtain ⟨x137, h138, h⟩ := bnd h
  refine go ?_; intros
  refine c_call (c := c_laws_heldRepo) (x112.2, 1) H_laws_heldRepo h138 fun ch => ?_
  refine go ?_; intros
  refine w_cond rfl (fun c => ?_) (fun c => ?_)
  · replace h := itt h c
    try rw [c]
    refine go ?_; intros
    cases h
    exact r_end
  replace h := itf h c
  try rw [c]
  refine go ?_; intros
  refine w_cond rfl (fun c => ?_) (fun c => ?_)
  · replace h := itt h c
    try rw [c]
    refine go ?_; intros
    cases h
    exact r_end
  replace h := itf h c
  try rw [c]
  refine go ?_; intros
  cases h
  exact r_end
end Go.Proofs.AM
