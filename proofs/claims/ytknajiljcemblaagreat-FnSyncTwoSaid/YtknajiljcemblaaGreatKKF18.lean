/- Lemmas of the proof (KKF18), on an abstract machine. Conditions: none. -/
import Derived.Test.YtknajiljcemblaaGreatKKD
set_option linter.unusedVariables false
set_option linter.unusedSimpArgs false
set_option maxRecDepth 100000
set_option maxHeartbeats 4000000
namespace Go.Proofs.AM
attribute [local irreducible] vwp vstps vstpLs vstp vdo vret kseq kblk kloop kend kcut kloop2 frzV renV shutK pfzV trnV unrV
theorem d_bs9 {G : Gam} (H_br9 : Has G c_br9) (a0 : (List UInt8)) (g0 : Option Addr) (g1 : Nat) (r : (Repo × Repo × Str)) (h : gf_bs9 a0 = some r) : Does G if_bs9 ks_bs9 (c_bs9.args (a0, g0, g1)) [] (c_bs9.ans (a0, g0, g1) r) := by
 refine does_pn (L := [(0, .raw g0 g1 (List.map eU8 a0))]) (fun bs => pin) fun bs t o => ?_
 show vwp _ ib_bs9 _ _
 unfold ib_bs9
 refine w_ir ?_
 unfold gf_bs9 at h
 obtain ⟨x3, h4, h⟩ := bnd h
 refine go ?_;intros
 refine c_call (c := c_br9) (a0, g0, g1) H_br9 h4 fun ch => ?_
 refine go ?_;intros
 cases h
 exact r_end
theorem d_cg9 {G : Gam} (H_dw9 : Has G c_dw9) (H_ch9 : Has G c_ch9) (H_dz9 : Has G c_dz9) (a0 : Repo) (a1 : Repo) (a2 : Int) (r : (Repo × Int)) (h : gf_cg9 a0 a1 a2 = some r) : Does G if_cg9 ks_cg9 (c_cg9.args (a0, a1, a2)) (c_cg9.ins (a0, a1, a2)) (c_cg9.ans (a0, a1, a2) r) := by
 refine does_pg (L := fun bs => [(0, .agg [.ref 0 (bs 0).1 (bs 0).2 0 a0.commits.length 115, .ref 8 (bs 1).1 (bs 1).2 0 a0.heads.length 130]), (1, .agg [.ro (List.map (eCommit false) a1.commits), .ro (List.map eHead a1.heads)]), (2, .v (.int .i64 a2))]) (H := fun bs => [(0, ent (bs 0).1 (bs 0).2 115 (List.map (eCommit true) a0.commits)), (8, ent (bs 1).1 (bs 1).2 130 (List.map eHead a0.heads))]) (fun bs => pin) (fun bs => pinh) fun bs t o => ?_
 show vwp _ ib_cg9 _ _
 unfold ib_cg9
 refine w_ir ?_
 unfold gf_cg9 at h
 obtain ⟨x5, h6, h⟩ := bnd h
 refine go ?_;intros
 refine c_call (c := c_dw9) (a1, ([a2] : (List Int))) H_dw9 h6 fun ch => ?_
 obtain ⟨h11, h⟩ := gd h
 refine go ?_;intros
 refine r_mks (f := eInt) (x := 0) rfl rfl (band1 h11) (band2 h11) rfl fun b9 => ?_
 obtain ⟨q443, h613, h⟩ := bnd h
 refine go ?_;intros
 refine w_last (fun t o => ∃ b600 c601 b602 b603 c604 b605 c606 b607 b609 c610, Pin t (ovr [(2, .v (.int .i64 a2)), (3, .ptr 24 b602 210 0 0), (6, .ptr 48 b607 210 0 0), (9, .ref 160 b609 c610 0 q443.2.length 17)] t) ∧ PinH o (ovh [(1000384, ent b600 c601 115 (List.map (eCommit true) q443.1)), (1000385, ent (bs 1).1 (bs 1).2 130 (List.map eHead a0.heads)), (24, ⟨b602, 1, 210, true, [[.al 1000384 b600 c601 0 q443.1.length 115, .al 1000385 (bs 1).1 (bs 1).2 0 a0.heads.length 130]]⟩), (1000768, ent b603 c604 115 (List.map (eCommit true) [])), (1000769, ent b605 c606 130 (List.map eHead [])), (48, ⟨b607, 1, 210, true, [[.al 1000768 b603 c604 0 ([] : List Commit).length 115, .al 1000769 b605 c606 0 ([] : List Head).length 130]]⟩), (160, ent b609 c610 17 (List.map eInt q443.2))] o)) ?_ ?_
 ·refine w_loop2 (fun n t o => ∃ n460 v444 v445 v457 b446 c447 b448 b449 b450 c451 b452 c453 b454 b455 c456 b458 c459, gl_cg9_4 a2 x5 a0 a1 n460 v444 v445 v457 = some q443 ∧ n460 = n ∧ Pin t (ovr [(2, .v (.int .i64 a2)), (3, .ptr 24 b448 210 0 0), (4, .ptr 32 b449 210 0 0), (6, .ptr 48 b454 210 0 0), (8, .ref 128 b455 c456 0 x5.length 33), (9, .ref 160 b458 c459 0 v457.length 17), (10, .v (.int .i64 v444))] t) ∧ PinH o (ovh [(1000384, ent b446 c447 115 (List.map (eCommit true) v445)), (1000385, ent (bs 1).1 (bs 1).2 130 (List.map eHead a0.heads)), (24, ⟨b448, 1, 210, true, [[.al 1000384 b446 c447 0 v445.length 115, .al 1000385 (bs 1).1 (bs 1).2 0 a0.heads.length 130]]⟩), (32, ⟨b449, 1, 210, true, [[.sl false 3 (List.map (eCommit false) a1.commits), .sl false 2 (List.map eHead a1.heads)]]⟩), (1000768, ent b450 c451 115 (List.map (eCommit true) [])), (1000769, ent b452 c453 130 (List.map eHead [])), (48, ⟨b454, 1, 210, true, [[.al 1000768 b450 c451 0 ([] : List Commit).length 115, .al 1000769 b452 c453 0 ([] : List Head).length 130]]⟩), (128, ent b455 c456 33 (List.map eBool x5)), (160, ent b458 c459 17 (List.map eInt v457))] o)) _ ⟨_, _, _, _, _, _, _, _, _, _, _, _, _, _, _, _, _, h613, rfl, pin, pinh⟩ ?_
  rintro n t o ⟨n460, v444, v445, v457, b446, c447, b448, b449, b450, c451, b452, c453, b454, b455, c456, b458, c459, h613, rfl, pq1, pq2⟩
  refine pinned pq1 pq2 ?_
  cases n460 with
  | zero => rw [gl_cg9_4] at h613; cases h613
  | succ n460 =>
   rw [gl_cg9_4] at h613
   refine go ?_;intros
   refine w_cond rfl (fun c => ?_) (fun c => ?_)
   ·replace h613 := itt h613 c
    try rw [c]
    obtain ⟨x461, h462, h613⟩ := bnd h613
    refine go ?_;intros
    refine r_ire (xs := x5) rfl rfl h462 rfl ?_
    refine go ?_;intros
    refine r_lde (f := eBool) (xs := x5) (x := x461) rfl rfl (idx_get h462).2 rfl rfl rfl ?_
    refine go ?_;intros
    refine w_cond rfl (fun c => ?_) (fun c => ?_)
    ·replace h613 := itt h613 c
     try rw [c]
     refine go ?_;intros
     exact k_ln2 _ (Nat.lt_succ_self _) ⟨_, _, _, _, _, _, _, _, _, _, _, _, _, _, _, _, _, h613, rfl, pin, pinh⟩
    replace h613 := itf h613 c
    try rw [c]
    obtain ⟨x463, h464, h613⟩ := bnd h613
    refine go ?_;intros
    refine c_call (c := c_ch9) ((⟨v445, a0.heads⟩ : Repo), a1, v444) H_ch9 h464 fun ch => ?_
    obtain ⟨x465, h466, h613⟩ := bnd h613
    refine go ?_;intros
    refine r_ire (xs := v457) rfl rfl h466 rfl ?_
    refine go ?_;intros
    refine c_ste (f := eInt) v457 x463 (idx_get h466).2 ?_
    obtain ⟨x467, h468, h613⟩ := bnd h613
    refine go ?_;intros
    refine r_ire (xs := (List.set v457 v444.toNat x463)) rfl rfl h468 rfl ?_
    refine go ?_;intros
    refine r_lde (f := eInt) (xs := (List.set v457 v444.toNat x463)) (x := x467) rfl rfl (idx_get h468).2 rfl rfl rfl ?_
    refine go ?_;intros
    refine w_cond rfl (fun c => ?_) (fun c => ?_)
    ·replace h613 := itt h613 c
     try rw [c]
     refine go ?_;intros
     exact k_ln2 _ (Nat.lt_succ_self _) ⟨_, _, _, _, _, _, _, _, _, _, _, _, _, _, _, _, _, h613, rfl, pin, pinh⟩
    replace h613 := itf h613 c
    try rw [c]
    obtain ⟨q469, h614, h613⟩ := bnd h613
    refine go ?_;intros
    refine w_cut (fun t o => ∃ b479 c480 b481 b482 b483 c484 b485 c486 b487 b488 c489 b490 c491 b493 c494 b496 c497 b499, Pin t (ovr [(2, .v (.int .i64 a2)), (3, .ptr 24 b481 210 0 0), (4, .ptr 32 b482 210 0 0), (6, .ptr 48 b487 210 0 0), (8, .ref 128 b488 c489 0 x5.length 33), (9, .ref 160 b490 c491 0 (List.set v457 v444.toNat x463).length 17), (10, .v (.int .i64 v444)), (11, .ptr 88 b499 115 0 0)] t) ∧ PinH o (ovh [(1000384, ent b479 c480 115 (List.map (eCommit true) v445)), (1000385, ent (bs 1).1 (bs 1).2 130 (List.map eHead a0.heads)), (24, ⟨b481, 1, 210, true, [[.al 1000384 b479 c480 0 v445.length 115, .al 1000385 (bs 1).1 (bs 1).2 0 a0.heads.length 130]]⟩), (32, ⟨b482, 1, 210, true, [[.sl false 3 (List.map (eCommit false) a1.commits), .sl false 2 (List.map eHead a1.heads)]]⟩), (1000768, ent b483 c484 115 (List.map (eCommit true) [])), (1000769, ent b485 c486 130 (List.map eHead [])), (48, ⟨b487, 1, 210, true, [[.al 1000768 b483 c484 0 ([] : List Commit).length 115, .al 1000769 b485 c486 0 ([] : List Head).length 130]]⟩), (128, ent b488 c489 33 (List.map eBool x5)), (160, ent b490 c491 17 (List.map eInt (List.set v457 v444.toNat x463))), (1001408, ent b493 c494 17 (List.map eInt q469.1)), (1001409, ent b496 c497 100 (List.map (eFeat true) q469.2.1)), (88, ⟨b499, 1, 115, true, [[.al 1001408 b493 c494 0 q469.1.length 17, .al 1001409 b496 c497 0 q469.2.1.length 100, .v (.string q469.2.2)]]⟩)] o)) ?_ ?_
    ·obtain ⟨x470, h471, h614⟩ := bnd h614
     refine go ?_;intros
     refine r_iro rfl rfl h471 rfl ?_
     obtain ⟨x472, h473, h614⟩ := bnd h614
     refine go ?_;intros
     refine c_call (c := c_dz9) (x470) H_dz9 h473 fun ch => ?_
     refine go ?_;intros
     cases h614
     exact k_cn ⟨_, _, _, _, _, _, _, _, _, _, _, _, _, _, _, _, _, _, pin, pinh⟩
    rintro t o ⟨b479, c480, b481, b482, b483, c484, b485, c486, b487, b488, c489, b490, c491, b493, c494, b496, c497, b499, pq1, pq2⟩
    refine pinned pq1 pq2 ?_
    obtain ⟨q550, h615, h613⟩ := bnd h613
    refine go ?_;intros
    refine w_last (fun t o => ∃ b576 c577 b578 b579 b580 c581 b582 c583 b584 b585 c586 b587 c588 b590 c591 b592 c593 b594, Pin t (ovr [(2, .v (.int .i64 a2)), (3, .ptr 24 b578 210 0 0), (4, .ptr 32 b579 210 0 0), (6, .ptr 48 b584 210 0 0), (8, .ref 128 b585 c586 0 x5.length 33), (9, .ref 160 b587 c588 0 (List.set v457 v444.toNat x463).length 17), (10, .v (.int .i64 v444)), (11, .ptr 88 b594 115 0 0)] t) ∧ PinH o (ovh [(1000384, ent b576 c577 115 (List.map (eCommit true) v445)), (1000385, ent (bs 1).1 (bs 1).2 130 (List.map eHead a0.heads)), (24, ⟨b578, 1, 210, true, [[.al 1000384 b576 c577 0 v445.length 115, .al 1000385 (bs 1).1 (bs 1).2 0 a0.heads.length 130]]⟩), (32, ⟨b579, 1, 210, true, [[.sl false 3 (List.map (eCommit false) a1.commits), .sl false 2 (List.map eHead a1.heads)]]⟩), (1000768, ent b580 c581 115 (List.map (eCommit true) [])), (1000769, ent b582 c583 130 (List.map eHead [])), (48, ⟨b584, 1, 210, true, [[.al 1000768 b580 c581 0 ([] : List Commit).length 115, .al 1000769 b582 c583 0 ([] : List Head).length 130]]⟩), (128, ent b585 c586 33 (List.map eBool x5)), (160, ent b587 c588 17 (List.map eInt (List.set v457 v444.toNat x463))), (1001408, ent b590 c591 17 (List.map eInt q550)), (1001409, ent b592 c593 100 (List.map (eFeat true) q469.2.1)), (88, ⟨b594, 1, 115, true, [[.al 1001408 b590 c591 0 q550.length 17, .al 1001409 b592 c593 0 q469.2.1.length 100, .v (.string q469.2.2)]]⟩)] o)) ?_ ?_
    ·refine w_loop2 (fun n t o => ∃ n571 v551 v565 b552 c553 b554 b555 b556 c557 b558 c559 b560 b561 c562 b563 c564 b566 c567 b568 c569 b570, gl_cg9_5 v457 v444 x463 n571 v551 v565 = some q550 ∧ n571 = n ∧ Pin t (ovr [(2, .v (.int .i64 a2)), (3, .ptr 24 b554 210 0 0), (4, .ptr 32 b555 210 0 0), (6, .ptr 48 b560 210 0 0), (8, .ref 128 b561 c562 0 x5.length 33), (9, .ref 160 b563 c564 0 (List.set v457 v444.toNat x463).length 17), (10, .v (.int .i64 v444)), (11, .ptr 88 b570 115 0 0), (12, .v (.int .i64 v551))] t) ∧ PinH o (ovh [(1000384, ent b552 c553 115 (List.map (eCommit true) v445)), (1000385, ent (bs 1).1 (bs 1).2 130 (List.map eHead a0.heads)), (24, ⟨b554, 1, 210, true, [[.al 1000384 b552 c553 0 v445.length 115, .al 1000385 (bs 1).1 (bs 1).2 0 a0.heads.length 130]]⟩), (32, ⟨b555, 1, 210, true, [[.sl false 3 (List.map (eCommit false) a1.commits), .sl false 2 (List.map eHead a1.heads)]]⟩), (1000768, ent b556 c557 115 (List.map (eCommit true) [])), (1000769, ent b558 c559 130 (List.map eHead [])), (48, ⟨b560, 1, 210, true, [[.al 1000768 b556 c557 0 ([] : List Commit).length 115, .al 1000769 b558 c559 0 ([] : List Head).length 130]]⟩), (128, ent b561 c562 33 (List.map eBool x5)), (160, ent b563 c564 17 (List.map eInt (List.set v457 v444.toNat x463))), (1001408, ent b566 c567 17 (List.map eInt v565)), (1001409, ent b568 c569 100 (List.map (eFeat true) q469.2.1)), (88, ⟨b570, 1, 115, true, [[.al 1001408 b566 c567 0 v565.length 17, .al 1001409 b568 c569 0 q469.2.1.length 100, .v (.string q469.2.2)]]⟩)] o)) _ ⟨_, _, _, _, _, _, _, _, _, _, _, _, _, _, _, _, _, _, _, _, _, h615, rfl, pin, pinh⟩ ?_
     rintro n t o ⟨n571, v551, v565, b552, c553, b554, b555, b556, c557, b558, c559, b560, b561, c562, b563, c564, b566, c567, b568, c569, b570, h615, rfl, pq1, pq2⟩
     refine pinned pq1 pq2 ?_
     cases n571 with
     | zero => rw [gl_cg9_5] at h615; cases h615
     | succ n571 =>
      rw [gl_cg9_5] at h615
      refine go ?_;intros
      refine w_cond rfl (fun c => ?_) (fun c => ?_)
      ·replace h615 := itt h615 (by first | exact c | (have c2 := c; simp only [List.length_map] at c2; exact c2))
       try rw [c]
       obtain ⟨x572, h573, h615⟩ := bnd h615
       refine go ?_;intros
       refine r_ire (xs := v565) rfl rfl h573 rfl ?_
       refine go ?_;intros
       refine r_lde (f := eInt) (xs := v565) (x := x572) rfl rfl (idx_get h573).2 rfl rfl rfl ?_
       obtain ⟨x574, h575, h615⟩ := bnd h615
       refine go ?_;intros
       refine r_ire (xs := (List.set v457 v444.toNat x463)) rfl rfl h575 rfl ?_
       refine go ?_;intros
       refine r_lde (f := eInt) (xs := (List.set v457 v444.toNat x463)) (x := x574) rfl rfl (idx_get h575).2 rfl rfl rfl ?_
       refine go ?_;intros
       refine r_ire (xs := v565) rfl rfl h573 rfl ?_
       refine go ?_;intros
       refine c_ste (f := eInt) v565 x574 (idx_get h573).2 ?_
       refine go ?_;intros
       exact k_ln2 _ (Nat.lt_succ_self _) ⟨_, _, _, _, _, _, _, _, _, _, _, _, _, _, _, _, _, _, _, _, _, h615, rfl, pin, pinh⟩
      replace h615 := itf h615 (by first | exact c | (have c2 := c; simp only [List.length_map] at c2; exact c2))
      try rw [c]
      refine go ?_;intros
      cases h615
      exact k_cn ⟨_, _, _, _, _, _, _, _, _, _, _, _, _, _, _, _, _, _, pin, pinh⟩
    rintro t o ⟨b576, c577, b578, b579, b580, c581, b582, c583, b584, b585, c586, b587, c588, b590, c591, b592, c593, b594, pq1, pq2⟩
    refine pinnedQ pq1 pq2 ?_
    refine go ?_;intros
    refine r_ire (xs := (List.set v457 v444.toNat x463)) rfl rfl h468 rfl ?_
    refine go ?_;intros
    refine c_ste (f := eInt) (List.set v457 v444.toNat x463) (v445.length : Int) (idx_get h468).2 ?_
    refine go ?_;intros
    try simp only [take_map_len, take_ent]
    obtain ⟨h598, h613⟩ := gd h613
    refine go ?_;intros
    refine r_app (f := (eCommit true)) (xs := v445) (ys := ([(⟨q550, q469.2.1, q469.2.2⟩ : Commit)] : (List Commit))) rfl (src_mv rfl rfl (by first | rfl | simp)) rfl rfl (by first | rfl | simp) h598 fun b596 c597 => ?_
    refine go ?_;intros
    exact k_ln2 _ (Nat.lt_succ_self _) ⟨_, _, _, _, _, _, _, _, _, _, _, _, _, _, _, _, _, h613, rfl, pin, pinh⟩
   replace h613 := itf h613 c
   try rw [c]
   refine go ?_;intros
   cases h613
   exact k_cn ⟨_, _, _, _, _, _, _, _, _, _, pin, pinh⟩
 rintro t o ⟨b600, c601, b602, b603, c604, b605, c606, b607, b609, c610, pq1, pq2⟩
 refine pinnedQ pq1 pq2 ?_
 refine go ?_;intros
 refine w_cond rfl (fun c => ?_) (fun c => ?_)
 ·replace h := itt h (by first | exact c | (have c2 := c; simp only [List.length_map] at c2; exact c2))
  try rw [c]
  refine go ?_;intros
  cases h
  exact r_endg
 replace h := itf h (by first | exact c | (have c2 := c; simp only [List.length_map] at c2; exact c2))
 try rw [c]
 obtain ⟨x611, h612, h⟩ := bnd h
 refine go ?_;intros
 refine r_ire (xs := q443.2) rfl rfl h612 rfl ?_
 refine go ?_;intros
 refine r_lde (f := eInt) (xs := q443.2) (x := x611) rfl rfl (idx_get h612).2 rfl rfl rfl ?_
 refine go ?_;intros
 cases h
 exact r_endg
theorem d_ce9 {G : Gam} (H_bz9 : Has G c_bz9) (H_bw9 : Has G c_bw9) (H_ch9 : Has G c_ch9) (H_dq9 : Has G c_dq9) (H_cg9 : Has G c_cg9) (H_dt9 : Has G c_dt9) (H_bv9 : Has G c_bv9) (a0 : Repo) (a1 : Repo) (a2 : Str) (r : (Repo × Int)) (h : gf_ce9 a0 a1 a2 = some r) : Does G if_ce9 ks_ce9 (c_ce9.args (a0, a1, a2)) [] (c_ce9.ans (a0, a1, a2) r) := by
 refine does_pn (L := [(0, .agg [.ro (List.map (eCommit false) a0.commits), .ro (List.map eHead a0.heads)]), (1, .agg [.ro (List.map (eCommit false) a1.commits), .ro (List.map eHead a1.heads)]), (2, .v (.string a2))]) (fun bs => pin) fun bs t o => ?_
 show vwp _ ib_ce9 _ _
 unfold ib_ce9
 refine w_ir ?_
 unfold gf_ce9 at h
 obtain ⟨x4, h5, h⟩ := bnd h
 refine go ?_;intros
 refine c_call (c := c_bz9) (a0) H_bz9 h5 fun ch => ?_
 refine go ?_;intros
 refine s_split rfl (fun c => ?_) (fun c => ?_)
 ·replace h := itt h c
  rw [c]
  refine go ?_;intros
  cases h
  exact r_end
 replace h := itf h c
 rw [c]
 obtain ⟨x6, h7, h⟩ := bnd h
 refine go ?_;intros
 refine c_call (c := c_bz9) (a1) H_bz9 h7 fun ch => ?_
 refine go ?_;intros
 refine w_cond rfl (fun c => ?_) (fun c => ?_)
 ·replace h := itt h c
  try rw [c]
  refine go ?_;intros
  cases h
  exact r_end
 replace h := itf h c
 try rw [c]
 obtain ⟨x8, h9, h⟩ := bnd h
 refine go ?_;intros
 refine c_call (c := c_bw9) (a1, a2) H_bw9 h9 fun ch => ?_
 obtain ⟨q10, h86, h⟩ := bnd h
 refine go ?_;intros
 refine w_cut (fun t o => ∃ b14 b15 b16 c17 b18 c19 b20, Pin t (ovr [(2, .v (.string a2)), (3, .ptr 24 b14 210 0 0), (4, .ptr 32 b15 210 0 0), (6, .ptr 48 b20 210 0 0), (8, .v (.int .i64 x8)), (31, .v (.bool q10))] t) ∧ PinH o (ovh [(24, ⟨b14, 1, 210, true, [[.sl false 3 (List.map (eCommit false) a0.commits), .sl false 2 (List.map eHead a0.heads)]]⟩), (32, ⟨b15, 1, 210, true, [[.sl false 3 (List.map (eCommit false) a1.commits), .sl false 2 (List.map eHead a1.heads)]]⟩), (1000768, ent b16 c17 115 (List.map (eCommit true) [])), (1000769, ent b18 c19 130 (List.map eHead [])), (48, ⟨b20, 1, 210, true, [[.al 1000768 b16 c17 0 ([] : List Commit).length 115, .al 1000769 b18 c19 0 ([] : List Head).length 130]]⟩)] o)) ?_ ?_
 ·refine go ?_;intros
  refine s_split rfl (fun c => ?_) (fun c => ?_)
  ·replace h86 := itt h86 c
   rw [c]
   refine go ?_;intros
   cases h86
   exact k_cn ⟨_, _, _, _, _, _, _, pin, pinh⟩
  replace h86 := itf h86 c
  rw [c]
  obtain ⟨x11, h12, h86⟩ := bnd h86
  refine go ?_;intros
  refine c_call (c := c_ch9) (a0, a1, 0) H_ch9 h12 fun ch => ?_
  refine go ?_;intros
  cases h86
  exact k_cn ⟨_, _, _, _, _, _, _, pin, pinh⟩
 rintro t o ⟨b14, b15, b16, c17, b18, c19, b20, pq1, pq2⟩
 refine pinned pq1 pq2 ?_
 refine go ?_;intros
 refine w_cond rfl (fun c => ?_) (fun c => ?_)
 ·replace h := itt h c
  try rw [c]
  obtain ⟨x21, h22, h⟩ := bnd h
  refine go ?_;intros
  refine c_call (c := c_dq9) (a0) H_dq9 h22 fun ch => ?_
  refine go ?_;intros
  cases h
  exact r_end
 replace h := itf h c
 try rw [c]
 obtain ⟨x27, h28, h⟩ := bnd h
 refine go ?_;intros
 refine c_call (c := c_dq9) (a0) H_dq9 h28 fun ch => ?_
 obtain ⟨x33, h34, h⟩ := bnd h
 refine go ?_;intros
 refine c_callg (c := c_cg9) (x27, a1, x8) H_cg9 h34 fun ch => ?_
 obtain ⟨x40, h41, h⟩ := bnd h
 refine go ?_;intros
 refine c_call (c := c_dt9) (a0, a2) H_dt9 h41 fun ch => ?_
 refine go ?_;intros
 refine s_split rfl (fun c => ?_) (fun c => ?_)
 ·replace h := itt h c
  rw [c]
  obtain ⟨x42, h43, h⟩ := bnd h
  refine go ?_;intros
  refine c_call (c := c_dq9) (a0) H_dq9 h43 fun ch => ?_
  refine go ?_;intros
  cases h
  exact r_end
 replace h := itf h c
 rw [c]
 refine go ?_;intros
 refine s_split rfl (fun c => ?_) (fun c => ?_)
 ·replace h := itt h c
  rw [c]
  refine go ?_;intros
  refine w_cond rfl (fun c => ?_) (fun c => ?_)
  ·replace h := itt h (by first | exact c | (have c2 := c; simp only [List.length_map] at c2; exact c2))
   try rw [c]
   obtain ⟨x48, h49, h⟩ := bnd h
   refine go ?_;intros
   refine c_call (c := c_dq9) (a0) H_dq9 h49 fun ch => ?_
   refine go ?_;intros
   cases h
   exact r_end
  replace h := itf h (by first | exact c | (have c2 := c; simp only [List.length_map] at c2; exact c2))
  try rw [c]
  refine go ?_;intros
  refine w_cond rfl (fun c => ?_) (fun c => ?_)
  ·replace h := itt h c
   try rw [c]
   obtain ⟨h57, h⟩ := gd h
   refine go ?_;intros
   refine r_app (f := eHead) (xs := x33.1.heads) (ys := ([(⟨a2, x33.2⟩ : Head)] : (List Head))) rfl (src_mv rfl rfl (by first | rfl | simp)) rfl rfl (by first | rfl | simp) h57 fun b55 c56 => ?_
   refine go ?_;intros
   cases h
   exact r_end
  replace h := itf h c
  try rw [c]
  obtain ⟨x58, h59, h⟩ := bnd h
  refine go ?_;intros
  refine r_ire (xs := x33.1.heads) rfl rfl h59 rfl ?_
  refine go ?_;intros
  refine r_lde (f := eHead) (xs := x33.1.heads) (x := x58) rfl rfl (idx_get h59).2 rfl rfl rfl ?_
  obtain ⟨x60, h61, h⟩ := bnd h
  refine go ?_;intros
  refine c_call (c := c_bv9) (x33.1, x33.2, x58.at_) H_bv9 h61 fun ch => ?_
  refine go ?_;intros
  refine w_cond rfl (fun c => ?_) (fun c => ?_)
  ·replace h := itt h c
   try rw [c]
   refine go ?_;intros
   cases h
   exact r_end
  replace h := itf h c
  try rw [c]
  refine go ?_;intros
  refine r_ire (xs := x33.1.heads) rfl rfl h59 rfl ?_
  refine go ?_;intros
  refine r_lde (f := eHead) (xs := x33.1.heads) (x := x58) rfl rfl (idx_get h59).2 rfl rfl rfl ?_
  obtain ⟨x62, h63, h⟩ := bnd h
  refine go ?_;intros
  refine c_call (c := c_bv9) (x33.1, x58.at_, x33.2) H_bv9 h63 fun ch => ?_
  refine go ?_;intros
  refine w_cond rfl (fun c => ?_) (fun c => ?_)
  ·replace h := itt h c
   try rw [c]
   refine go ?_;intros
   refine r_ire (xs := x33.1.heads) rfl rfl h59 rfl ?_
   refine go ?_;intros
   refine c_ste (f := eHead) x33.1.heads (⟨x58.name, x33.2⟩ : Head) (idx_get h59).2 ?_
   refine go ?_;intros
   cases h
   exact r_end
  replace h := itf h c
  try rw [c]
  obtain ⟨x64, h65, h⟩ := bnd h
  refine go ?_;intros
  refine c_call (c := c_dq9) (a0) H_dq9 h65 fun ch => ?_
  refine go ?_;intros
  cases h
  exact r_end
 replace h := itf h c
 rw [c]
 refine go ?_;intros
 refine w_cond rfl (fun c => ?_) (fun c => ?_)
 ·replace h := itt h c
  try rw [c]
  obtain ⟨h73, h⟩ := gd h
  refine go ?_;intros
  refine r_app (f := eHead) (xs := x33.1.heads) (ys := ([(⟨a2, x33.2⟩ : Head)] : (List Head))) rfl (src_mv rfl rfl (by first | rfl | simp)) rfl rfl (by first | rfl | simp) h73 fun b71 c72 => ?_
  refine go ?_;intros
  cases h
  exact r_end
 replace h := itf h c
 try rw [c]
 obtain ⟨x74, h75, h⟩ := bnd h
 refine go ?_;intros
 refine r_ire (xs := x33.1.heads) rfl rfl h75 rfl ?_
 refine go ?_;intros
 refine r_lde (f := eHead) (xs := x33.1.heads) (x := x74) rfl rfl (idx_get h75).2 rfl rfl rfl ?_
 obtain ⟨x76, h77, h⟩ := bnd h
 refine go ?_;intros
 refine c_call (c := c_bv9) (x33.1, x33.2, x74.at_) H_bv9 h77 fun ch => ?_
 refine go ?_;intros
 refine w_cond rfl (fun c => ?_) (fun c => ?_)
 ·replace h := itt h c
  try rw [c]
  refine go ?_;intros
  cases h
  exact r_end
 replace h := itf h c
 try rw [c]
 refine go ?_;intros
 refine r_ire (xs := x33.1.heads) rfl rfl h75 rfl ?_
 refine go ?_;intros
 refine r_lde (f := eHead) (xs := x33.1.heads) (x := x74) rfl rfl (idx_get h75).2 rfl rfl rfl ?_
 obtain ⟨x78, h79, h⟩ := bnd h
 refine go ?_;intros
 refine c_call (c := c_bv9) (x33.1, x74.at_, x33.2) H_bv9 h79 fun ch => ?_
 refine go ?_;intros
 refine w_cond rfl (fun c => ?_) (fun c => ?_)
 ·replace h := itt h c
  try rw [c]
  refine go ?_;intros
  refine r_ire (xs := x33.1.heads) rfl rfl h75 rfl ?_
  refine go ?_;intros
  refine c_ste (f := eHead) x33.1.heads (⟨x74.name, x33.2⟩ : Head) (idx_get h75).2 ?_
  refine go ?_;intros
  cases h
  exact r_end
 replace h := itf h c
 try rw [c]
 obtain ⟨x80, h81, h⟩ := bnd h
 refine go ?_;intros
 refine c_call (c := c_dq9) (a0) H_dq9 h81 fun ch => ?_
 refine go ?_;intros
 cases h
 exact r_end
theorem d_bd9 {G : Gam} (H_bs9 : Has G c_bs9) (H_as9 : Has G c_as9) (H_ce9 : Has G c_ce9) (H_ac9 : Has G c_ac9) (H_ar9 : Has G c_ar9) (a0 : (List UInt8)) (g0 : Option Addr) (g1 : Nat) (r : Bool) (h : gf_bd9 a0 = some r) : Does G if_bd9 ks_bd9 (c_bd9.args (a0, g0, g1)) [] (c_bd9.ans (a0, g0, g1) r) := by
 refine does_pn (L := [(0, .raw g0 g1 (List.map eU8 a0))]) (fun bs => pin) fun bs t o => ?_
 show vwp _ ib_bd9 _ _
 unfold ib_bd9
 refine w_ir ?_
 unfold gf_bd9 at h
 refine go ?_;intros
 refine w_cond rfl (fun c => ?_) (fun c => ?_)
 ·replace h := itt h (by first | exact c | (have c2 := c; simp only [List.length_map] at c2; exact c2))
  try rw [c]
  refine go ?_;intros
  cases h
  exact r_end
 replace h := itf h (by first | exact c | (have c2 := c; simp only [List.length_map] at c2; exact c2))
 try rw [c]
 obtain ⟨q1, h143, h⟩ := bnd h
 refine go ?_;intros
 refine w_cut (fun t o => ∃ b8 b11, Pin t (ovr [(3, .ptr 24 b8 210 0 0), (4, .ptr 32 b11 210 0 0)] t) ∧ PinH o (ovh [(24, ⟨b8, 1, 210, true, [[.sl false 3 (List.map (eCommit false) q1.1), .sl false 2 (List.map eHead q1.2.1)]]⟩), (32, ⟨b11, 1, 210, true, [[.sl false 3 (List.map (eCommit false) q1.2.2.1), .sl false 2 (List.map eHead q1.2.2.2)]]⟩)] o)) ?_ ?_
 ·refine go ?_;intros
  refine r_frz ?_
  obtain ⟨x2, h3, h143⟩ := bnd h143
  refine go ?_;intros
  refine c_call (c := c_bs9) (a0, g0, g1) H_bs9 h3 fun ch => ?_
  refine go ?_;intros
  refine c_fz ?_
  refine go ?_;intros
  cases h143
  exact k_cn ⟨_, _, pin, pinh⟩
 rintro t o ⟨b8, b11, pq1, pq2⟩
 refine pinned pq1 pq2 ?_
 obtain ⟨x12, h13, h⟩ := bnd h
 refine go ?_;intros
 refine c_call (c := c_as9) ((⟨q1.1, q1.2.1⟩ : Repo), (⟨q1.2.2.1, q1.2.2.2⟩ : Repo), (⟨#[109, 97, 105, 110]⟩ : Str)) H_as9 h13 fun ch => ?_
 obtain ⟨q19, h144, h⟩ := bnd h
 refine go ?_;intros
 refine w_cut (fun t o => ∃ b28 b29 b30 c31 b32 c33 b34, Pin t (ovr [(3, .ptr 24 b28 210 0 0), (4, .ptr 32 b29 210 0 0), (6, .ptr 48 b34 210 0 0), (7, .v (.int .i64 x12.2)), (9, .v (.int .i64 q19))] t) ∧ PinH o (ovh [(24, ⟨b28, 1, 210, true, [[.sl false 3 (List.map (eCommit false) q1.1), .sl false 2 (List.map eHead q1.2.1)]]⟩), (32, ⟨b29, 1, 210, true, [[.sl false 3 (List.map (eCommit false) q1.2.2.1), .sl false 2 (List.map eHead q1.2.2.2)]]⟩), (1000768, ent b30 c31 115 (List.map (eCommit true) x12.1.commits)), (1000769, ent b32 c33 130 (List.map eHead x12.1.heads)), (48, ⟨b34, 1, 210, true, [[.al 1000768 b30 c31 0 x12.1.commits.length 115, .al 1000769 b32 c33 0 x12.1.heads.length 130]]⟩)] o)) ?_ ?_
 ·obtain ⟨x20, h21, h144⟩ := bnd h144
  refine go ?_;intros
  refine c_call (c := c_ce9) ((⟨q1.1, q1.2.1⟩ : Repo), (⟨q1.2.2.1, q1.2.2.2⟩ : Repo), (⟨#[109, 97, 105, 110]⟩ : Str)) H_ce9 h21 fun ch => ?_
  refine go ?_;intros
  cases h144
  exact k_cn ⟨_, _, _, _, _, _, _, pin, pinh⟩
 rintro t o ⟨b28, b29, b30, c31, b32, c33, b34, pq1, pq2⟩
 refine pinned pq1 pq2 ?_
 obtain ⟨q35, h145, h⟩ := bnd h
 refine go ?_;intros
 refine w_cut (fun t o => ∃ q35_, q35 = .inr q35_ ∧ ∃ b36 b37 b38 c39 b40 c41 b42, Pin t (ovr [(3, .ptr 24 b36 210 0 0), (4, .ptr 32 b37 210 0 0), (6, .ptr 48 b42 210 0 0), (7, .v (.int .i64 x12.2))] t) ∧ PinH o (ovh [(24, ⟨b36, 1, 210, true, [[.sl false 3 (List.map (eCommit false) q1.1), .sl false 2 (List.map eHead q1.2.1)]]⟩), (32, ⟨b37, 1, 210, true, [[.sl false 3 (List.map (eCommit false) q1.2.2.1), .sl false 2 (List.map eHead q1.2.2.2)]]⟩), (1000768, ent b38 c39 115 (List.map (eCommit true) x12.1.commits)), (1000769, ent b40 c41 130 (List.map eHead x12.1.heads)), (48, ⟨b42, 1, 210, true, [[.al 1000768 b38 c39 0 x12.1.commits.length 115, .al 1000769 b40 c41 0 x12.1.heads.length 130]]⟩)] o)) ?_ ?_
 ·refine go ?_;intros
  refine s_split rfl (fun c => ?_) (fun c => ?_)
  ·replace h145 := itt h145 c
   rw [c]
   refine go ?_;intros
   cases h145
   replace h : some _ = some _ := h
   cases h
   exact r_end
  replace h145 := itf h145 c
  rw [c]
  refine go ?_;intros
  refine s_split rfl (fun c => ?_) (fun c => ?_)
  ·replace h145 := itt h145 c
   rw [c]
   refine go ?_;intros
   refine w_cond rfl (fun c => ?_) (fun c => ?_)
   ·replace h145 := itt h145 c
    try rw [c]
    refine go ?_;intros
    cases h145
    replace h : some _ = some _ := h
    cases h
    exact r_end
   replace h145 := itf h145 c
   try rw [c]
   refine go ?_;intros
   cases h145
   exact k_cn ⟨_, rfl, _, _, _, _, _, _, _, pin, pinh⟩
  replace h145 := itf h145 c
  rw [c]
  refine go ?_;intros
  cases h145
  exact k_cn ⟨_, rfl, _, _, _, _, _, _, _, pin, pinh⟩
 rintro t o ⟨q35, rfl, b36, b37, b38, c39, b40, c41, b42, pq1, pq2⟩
 refine pinned pq1 pq2 ?_
 obtain ⟨x43, h44, h⟩ := bnd h
 refine go ?_;intros
 refine c_call (c := c_as9) (x12.1, (⟨q1.2.2.1, q1.2.2.2⟩ : Repo), (⟨#[98, 111, 98]⟩ : Str)) H_as9 h44 fun ch => ?_
 obtain ⟨q50, h146, h⟩ := bnd h
 refine go ?_;intros
 refine w_cut (fun t o => ∃ b59 b60 c61 b62 c63 b64 b66 c67 b69 c70 b71, Pin t (ovr [(4, .ptr 32 b59 210 0 0), (7, .v (.int .i64 x12.2)), (10, .ptr 80 b64 210 0 0), (11, .v (.int .i64 x43.2)), (12, .ptr 96 b71 210 0 0), (13, .v (.int .i64 q50.1))] t) ∧ PinH o (ovh [(32, ⟨b59, 1, 210, true, [[.sl false 3 (List.map (eCommit false) q1.2.2.1), .sl false 2 (List.map eHead q1.2.2.2)]]⟩), (1001280, ent b60 c61 115 (List.map (eCommit true) x43.1.commits)), (1001281, ent b62 c63 130 (List.map eHead x43.1.heads)), (80, ⟨b64, 1, 210, true, [[.al 1001280 b60 c61 0 x43.1.commits.length 115, .al 1001281 b62 c63 0 x43.1.heads.length 130]]⟩), (1001536, ent b66 c67 115 (List.map (eCommit true) q50.2.1)), (1001537, ent b69 c70 130 (List.map eHead q50.2.2)), (96, ⟨b71, 1, 210, true, [[.al 1001536 b66 c67 0 q50.2.1.length 115, .al 1001537 b69 c70 0 q50.2.2.length 130]]⟩)] o)) ?_ ?_
 ·obtain ⟨x51, h52, h146⟩ := bnd h146
  refine go ?_;intros
  refine c_call (c := c_as9) ((⟨q1.1, q1.2.1⟩ : Repo), (⟨q1.2.2.1, q1.2.2.2⟩ : Repo), (⟨#[98, 111, 98]⟩ : Str)) H_as9 h52 fun ch => ?_
  refine go ?_;intros
  cases h146
  exact k_cn ⟨_, _, _, _, _, _, _, _, _, _, _, pin, pinh⟩
 rintro t o ⟨b59, b60, c61, b62, c63, b64, b66, c67, b69, c70, b71, pq1, pq2⟩
 refine pinned pq1 pq2 ?_
 obtain ⟨x72, h73, h⟩ := bnd h
 refine go ?_;intros
 refine c_call (c := c_as9) ((⟨q50.2.1, q50.2.2⟩ : Repo), (⟨q1.2.2.1, q1.2.2.2⟩ : Repo), (⟨#[109, 97, 105, 110]⟩ : Str)) H_as9 h73 fun ch => ?_
 refine go ?_;intros
 refine s_split rfl (fun c => ?_) (fun c => ?_)
 ·replace h := itt h c
  rw [c]
  refine go ?_;intros
  cases h
  exact r_end
 replace h := itf h c
 rw [c]
 refine go ?_;intros
 refine s_split rfl (fun c => ?_) (fun c => ?_)
 ·replace h := itt h c
  rw [c]
  refine go ?_;intros
  cases h
  exact r_end
 replace h := itf h c
 rw [c]
 refine go ?_;intros
 refine w_cond rfl (fun c => ?_) (fun c => ?_)
 ·replace h := itt h c
  try rw [c]
  refine go ?_;intros
  cases h
  exact r_end
 replace h := itf h c
 try rw [c]
 refine go ?_;intros
 refine s_split rfl (fun c => ?_) (fun c => ?_)
 ·replace h := itt h (by first | exact c | (have c2 := c; simp only [List.length_map] at c2; exact c2))
  rw [c]
  refine go ?_;intros
  cases h
  exact r_end
 replace h := itf h (by first | exact c | (have c2 := c; simp only [List.length_map] at c2; exact c2))
 rw [c]
 refine go ?_;intros
 refine w_cond rfl (fun c => ?_) (fun c => ?_)
 ·replace h := itt h (by first | exact c | (have c2 := c; simp only [List.length_map] at c2; exact c2))
  try rw [c]
  refine go ?_;intros
  cases h
  exact r_end
 replace h := itf h (by first | exact c | (have c2 := c; simp only [List.length_map] at c2; exact c2))
 try rw [c]
 obtain ⟨hf138, h⟩ := gd h
 obtain ⟨q118, h147, h⟩ := bnd h
 refine go ?_;intros
 refine w_last (fun t o => ∃ q118_, q118 = .inr q118_ ∧ Pin t (ovr [] t) ∧ PinH o (ovh [] o)) ?_ ?_
 ·refine w_loop2 (fun n t o => ∃ l132 k130  b120 c121 b122 c123 b124 b125 c126 b127 c128 b129, gl_bd9_1 x72 x43 l132 k130  = some q118 ∧ n = l132.length ∧ (x43.1.heads).drop k130 = l132 ∧ Pin t (ovr [(10, .ptr 80 b124 210 0 0), (14, .ptr 112 b129 210 0 0), (16, .v (.int .i64 (k130 : Int)))] t) ∧ PinH o (ovh [(1001280, ent b120 c121 115 (List.map (eCommit true) x43.1.commits)), (1001281, ent b122 c123 130 (List.map eHead x43.1.heads)), (80, ⟨b124, 1, 210, true, [[.al 1001280 b120 c121 0 x43.1.commits.length 115, .al 1001281 b122 c123 0 x43.1.heads.length 130]]⟩), (1001792, ent b125 c126 115 (List.map (eCommit true) x72.1.commits)), (1001793, ent b127 c128 130 (List.map eHead x72.1.heads)), (112, ⟨b129, 1, 210, true, [[.al 1001792 b125 c126 0 x72.1.commits.length 115, .al 1001793 b127 c128 0 x72.1.heads.length 130]]⟩)] o)) _ ⟨_, _, _, _, _, _, _, _, _, _, _, _, h147, rfl, rfl, pin, pinh⟩ ?_
  rintro n t o ⟨l132, k130, b120, c121, b122, c123, b124, b125, c126, b127, c128, b129, h147, rfl, hd133, pq1, pq2⟩
  refine pinned pq1 pq2 ?_
  cases l132 with
  | nil =>
   have hge135 := drop_ge hd133
   rw [gl_bd9_1] at h147
   refine go ?_;intros
   rw [hge135]
   refine go ?_;intros
   cases h147
   exact k_cn ⟨_, rfl, pin, pinh⟩
  | cons x131 l132 =>
   have hlt134 := drop_lt hd133
   have hx136 := drop_ix hd133
   have hw137 := drop_wr hd133 hf138
   rw [gl_bd9_1] at h147
   refine go ?_;intros
   rw [hlt134]
   refine go ?_;intros
   refine r_ire (xs := x43.1.heads) rfl rfl hx136 rfl ?_
   refine go ?_;intros
   refine r_lde (f := eHead) (xs := x43.1.heads) (x := x131) rfl rfl (idx_get hx136).2 rfl rfl rfl ?_
   refine go ?_;intros
   refine r_ire (xs := x43.1.heads) rfl rfl hx136 rfl ?_
   refine go ?_;intros
   refine r_lde (f := eHead) (xs := x43.1.heads) (x := x131) rfl rfl (idx_get hx136).2 rfl rfl rfl ?_
   obtain ⟨x139, h140, h147⟩ := bnd h147
   refine go ?_;intros
   refine c_call (c := c_ac9) (x72.1, x131.name) H_ac9 h140 fun ch => ?_
   obtain ⟨x141, h142, h147⟩ := bnd h147
   refine go ?_;intros
   refine c_call (c := c_ar9) (x43.1, x131.at_, x72.1, x139) H_ar9 h142 fun ch => ?_
   refine go ?_;intros
   refine w_cond rfl (fun c => ?_) (fun c => ?_)
   ·replace h147 := itt h147 c
    try rw [c]
    refine go ?_;intros
    cases h147
    replace h : some _ = some _ := h
    cases h
    exact r_end
   replace h147 := itf h147 c
   try rw [c]
   refine go ?_;intros
   rw [hw137]
   exact k_ln2 _ (Nat.lt_succ_self _) ⟨_, _, _, _, _, _, _, _, _, _, _, _, h147, rfl, drop_next hd133, pin, pinh⟩
 rintro t o ⟨q118, rfl, pq1, pq2⟩
 refine pinnedQ pq1 pq2 ?_
 refine go ?_;intros
 cases h
 exact r_end
end Go.Proofs.AM
