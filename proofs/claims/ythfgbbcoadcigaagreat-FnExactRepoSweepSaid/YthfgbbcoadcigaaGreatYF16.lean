/- A part of the proofs of this seat's statements (YF16): lemmas on an abstract machine for the program's functions. Conditions: none. -/
import Derived.Test.YthfgbbcoadcigaaGreatYD
set_option linter.unusedVariables false
set_option linter.unusedSimpArgs false
set_option maxRecDepth 100000
set_option maxHeartbeats 4000000
namespace Go.Proofs.AM
attribute [local irreducible] vwp vstps vstpLs vstp vdo vret kseq kblk kloop kend kcut kloop2 frzV renV shutK
theorem d_spec_RepoSweep {G : Gam} (H_spec_RepoOk : Has G c_spec_RepoOk) (H_spec_l7Marks : Has G c_spec_l7Marks) (H_spec_l7One : Has G c_spec_l7One) (a0 : Repo) (r : Repo) (h : gf_spec_RepoSweep a0 = some r) : Does G if_spec_RepoSweep ks_spec_RepoSweep (c_spec_RepoSweep.args (a0)) [] (c_spec_RepoSweep.ans (a0) r) := by
  refine does_pn (L := [(0, .agg [.ro (List.map (eCommit false) a0.commits), .ro (List.map eHead a0.heads)])]) (fun bs => pin) fun bs t o => ?_
  show vwp _ ib_spec_RepoSweep _ _
  unfold ib_spec_RepoSweep
  unfold gf_spec_RepoSweep at h
  obtain ⟨x3, h4, h⟩ := bnd h
  refine go ?_; intros
  refine c_call (c := c_spec_RepoOk) (a0) H_spec_RepoOk h4 fun ch => ?_
  refine go ?_; intros
  refine w_cond rfl (fun c => ?_) (fun c => ?_)
  · replace h := itt h c
    try rw [c]
    refine go ?_; intros
    cases h
    exact r_end
  replace h := itf h c
  try rw [c]
  obtain ⟨hf61, h⟩ := gd h
  obtain ⟨q42, h709, h⟩ := bnd h
  refine go ?_; intros
  refine w_last (fun t o => ∃ b66 b67 c68 b69 c70 b71 b73 c74, Pin t (ovr [(1, .ptr 8 b66 210 0 0), (2, .ptr 16 b71 210 0 0), (3, .ref 128 b73 c74 0 q42.length 17)] t) ∧ PinH o (ovh [(8, ⟨b66, 1, 210, true, [[.sl false 3 (List.map (eCommit false) a0.commits), .sl false 2 (List.map eHead a0.heads)]]⟩), (1000256, ent b67 c68 115 (List.map (eCommit true) [])), (1000257, ent b69 c70 130 (List.map eHead [])), (16, ⟨b71, 1, 210, true, [[.al 1000256 b67 c68 0 ([] : List Commit).length 115, .al 1000257 b69 c70 0 ([] : List Head).length 130]]⟩), (128, ent b73 c74 17 (List.map eInt q42))] o)) ?_ ?_
  · refine w_loop2 (fun n t o => ∃ l55 k53 v50 b44 b45 c46 b47 c48 b49 b51 c52, gl_spec_RepoSweep_1 l55 k53 v50 = some q42 ∧ n = l55.length ∧ (a0.heads).drop k53 = l55 ∧ Pin t (ovr [(1, .ptr 8 b44 210 0 0), (2, .ptr 16 b49 210 0 0), (3, .ref 128 b51 c52 0 v50.length 17), (4, .v (.int .i64 (k53 : Int)))] t) ∧ PinH o (ovh [(8, ⟨b44, 1, 210, true, [[.sl false 3 (List.map (eCommit false) a0.commits), .sl false 2 (List.map eHead a0.heads)]]⟩), (1000256, ent b45 c46 115 (List.map (eCommit true) [])), (1000257, ent b47 c48 130 (List.map eHead [])), (16, ⟨b49, 1, 210, true, [[.al 1000256 b45 c46 0 ([] : List Commit).length 115, .al 1000257 b47 c48 0 ([] : List Head).length 130]]⟩), (128, ent b51 c52 17 (List.map eInt v50))] o)) _ ⟨_, _, _, _, _, _, _, _, _, _, _, h709, rfl, rfl, pin, pinh⟩ ?_
    rintro n t o ⟨l55, k53, v50, b44, b45, c46, b47, c48, b49, b51, c52, h709, rfl, hd56, q1, q2⟩
    refine pinned q1 q2 ?_
    cases l55 with
    | nil =>
      have hge58 := drop_ge hd56
      rw [gl_spec_RepoSweep_1] at h709
      refine go ?_; intros
      rw [hge58]
      refine go ?_; intros
      cases h709
      exact k_cn ⟨_, _, _, _, _, _, _, _, pin, pinh⟩
    | cons x54 l55 =>
      have hlt57 := drop_lt hd56
      have hx59 := drop_ix hd56
      have hw60 := drop_wr hd56 hf61
      rw [gl_spec_RepoSweep_1] at h709
      refine go ?_; intros
      rw [hlt57]
      refine go ?_; intros
      refine r_iro rfl rfl hx59 rfl ?_
      obtain ⟨h65, h709⟩ := gd h709
      refine go ?_; intros
      refine r_app (f := eInt) (xs := v50) (ys := ([x54.at_] : (List Int))) rfl (src_mv rfl rfl (by first | rfl | simp)) rfl rfl (by first | rfl | simp) h65 fun b63 c64 => ?_
      refine go ?_; intros
      rw [hw60]
      exact k_ln2 _ (Nat.lt_succ_self _) ⟨_, _, _, _, _, _, _, _, _, _, _, h709, rfl, drop_next hd56, pin, pinh⟩
  rintro t o ⟨b66, b67, c68, b69, c70, b71, b73, c74, q1, q2⟩
  refine pinnedQ q1 q2 ?_
  obtain ⟨x75, h76, h⟩ := bnd h
  refine go ?_; intros
  refine c_call (c := c_spec_l7Marks) (a0, q42) H_spec_l7Marks h76 fun ch => ?_
  obtain ⟨h81, h⟩ := gd h
  refine go ?_; intros
  refine r_mks (f := eInt) (x := 0) rfl rfl (band1 h81) (band2 h81) rfl fun b79 => ?_
  obtain ⟨h85, h⟩ := gd h
  refine go ?_; intros
  refine r_app (f := eHead) (xs := ([] : (List Head))) (ys := a0.heads) rfl (src_ro (fun _ => rfl) (fun _ => rfl)) rfl rfl (by first | rfl | simp) h85 fun b83 c84 => ?_
  obtain ⟨hf507, h⟩ := gd h
  obtain ⟨q480, h710, h⟩ := bnd h
  refine go ?_; intros
  refine w_last (fun t o => ∃ b626 c627 b628 c629 b630 b632 c633 b635 c636 b637 c638 b639, Pin t (ovr [(2, .ptr 16 b630 210 0 0), (6, .ref 312 b632 c633 0 q480.1.length 17), (7, .ptr 56 b639 210 0 0)] t) ∧ PinH o (ovh [(1000256, ent b626 c627 115 (List.map (eCommit true) [])), (1000257, ent b628 c629 130 (List.map eHead [])), (16, ⟨b630, 1, 210, true, [[.al 1000256 b626 c627 0 ([] : List Commit).length 115, .al 1000257 b628 c629 0 ([] : List Head).length 130]]⟩), (312, ent b632 c633 17 (List.map eInt q480.1)), (1000896, ent b635 c636 115 (List.map (eCommit true) q480.2)), (1000897, ent b637 c638 130 (List.map eHead ([] ++ a0.heads))), (56, ⟨b639, 1, 210, true, [[.al 1000896 b635 c636 0 q480.2.length 115, .al 1000897 b637 c638 0 ([] ++ a0.heads).length 130]]⟩)] o)) ?_ ?_
  · refine w_loop2 (fun n t o => ∃ l501 k499 v490 v493 b482 b483 c484 b485 c486 b487 b488 c489 b491 c492 b494 c495 b496 c497 b498, gl_spec_RepoSweep_5 x75 l501 k499 v490 v493 = some q480 ∧ n = l501.length ∧ (a0.commits).drop k499 = l501 ∧ Pin t (ovr [(1, .ptr 8 b482 210 0 0), (2, .ptr 16 b487 210 0 0), (5, .ref 280 b488 c489 0 x75.length 33), (6, .ref 312 b491 c492 0 v490.length 17), (7, .ptr 56 b498 210 0 0), (8, .v (.int .i64 (k499 : Int)))] t) ∧ PinH o (ovh [(8, ⟨b482, 1, 210, true, [[.sl false 3 (List.map (eCommit false) a0.commits), .sl false 2 (List.map eHead a0.heads)]]⟩), (1000256, ent b483 c484 115 (List.map (eCommit true) [])), (1000257, ent b485 c486 130 (List.map eHead [])), (16, ⟨b487, 1, 210, true, [[.al 1000256 b483 c484 0 ([] : List Commit).length 115, .al 1000257 b485 c486 0 ([] : List Head).length 130]]⟩), (280, ent b488 c489 33 (List.map eBool x75)), (312, ent b491 c492 17 (List.map eInt v490)), (1000896, ent b494 c495 115 (List.map (eCommit true) v493)), (1000897, ent b496 c497 130 (List.map eHead ([] ++ a0.heads))), (56, ⟨b498, 1, 210, true, [[.al 1000896 b494 c495 0 v493.length 115, .al 1000897 b496 c497 0 ([] ++ a0.heads).length 130]]⟩)] o)) _ ⟨_, _, _, _, _, _, _, _, _, _, _, _, _, _, _, _, _, _, _, h710, rfl, rfl, pin, pinh⟩ ?_
    rintro n t o ⟨l501, k499, v490, v493, b482, b483, c484, b485, c486, b487, b488, c489, b491, c492, b494, c495, b496, c497, b498, h710, rfl, hd502, q1, q2⟩
    refine pinned q1 q2 ?_
    cases l501 with
    | nil =>
      have hge504 := drop_ge hd502
      rw [gl_spec_RepoSweep_5] at h710
      refine go ?_; intros
      rw [hge504]
      refine go ?_; intros
      cases h710
      exact k_cn ⟨_, _, _, _, _, _, _, _, _, _, _, _, pin, pinh⟩
    | cons x500 l501 =>
      have hlt503 := drop_lt hd502
      have hx505 := drop_ix hd502
      have hw506 := drop_wr hd502 hf507
      rw [gl_spec_RepoSweep_5] at h710
      refine go ?_; intros
      rw [hlt503]
      obtain ⟨x508, h509, h710⟩ := bnd h710
      refine go ?_; intros
      refine r_ire (xs := x75) rfl rfl h509 rfl ?_
      refine go ?_; intros
      refine r_lde (f := eBool) (xs := x75) (x := x508) rfl rfl (idx_get h509).2 rfl rfl rfl ?_
      refine go ?_; intros
      refine w_cond rfl (fun c => ?_) (fun c => ?_)
      · replace h710 := itt h710 c
        try rw [c]
        refine go ?_; intros
        rw [hw506]
        exact k_ln2 _ (Nat.lt_succ_self _) ⟨_, _, _, _, _, _, _, _, _, _, _, _, _, _, _, _, _, _, _, h710, rfl, drop_next hd502, pin, pinh⟩
      replace h710 := itf h710 c
      try rw [c]
      refine go ?_; intros
      refine r_iro rfl rfl hx505 rfl ?_
      obtain ⟨x510, h511, h710⟩ := bnd h710
      refine go ?_; intros
      refine c_call (c := c_spec_l7One) (x500) H_spec_l7One h511 fun ch => ?_
      obtain ⟨q571, h711, h710⟩ := bnd h710
      refine go ?_; intros
      refine w_last (fun t o => ∃ b599 b600 c601 b602 c603 b604 b605 c606 b607 c608 b609 c610 b611 c612 b613 b615 c616 b617 c618 b619, Pin t (ovr [(1, .ptr 8 b599 210 0 0), (2, .ptr 16 b604 210 0 0), (5, .ref 280 b605 c606 0 x75.length 33), (6, .ref 312 b607 c608 0 v490.length 17), (7, .ptr 56 b613 210 0 0), (8, .v (.int .i64 (k499 : Int))), (9, .ptr 72 b619 115 0 0)] t) ∧ PinH o (ovh [(8, ⟨b599, 1, 210, true, [[.sl false 3 (List.map (eCommit false) a0.commits), .sl false 2 (List.map eHead a0.heads)]]⟩), (1000256, ent b600 c601 115 (List.map (eCommit true) [])), (1000257, ent b602 c603 130 (List.map eHead [])), (16, ⟨b604, 1, 210, true, [[.al 1000256 b600 c601 0 ([] : List Commit).length 115, .al 1000257 b602 c603 0 ([] : List Head).length 130]]⟩), (280, ent b605 c606 33 (List.map eBool x75)), (312, ent b607 c608 17 (List.map eInt v490)), (1000896, ent b609 c610 115 (List.map (eCommit true) v493)), (1000897, ent b611 c612 130 (List.map eHead ([] ++ a0.heads))), (56, ⟨b613, 1, 210, true, [[.al 1000896 b609 c610 0 v493.length 115, .al 1000897 b611 c612 0 ([] ++ a0.heads).length 130]]⟩), (1001152, ent b615 c616 17 (List.map eInt q571)), (1001153, ent b617 c618 100 (List.map (eFeat true) x510.sheet)), (72, ⟨b619, 1, 115, true, [[.al 1001152 b615 c616 0 q571.length 17, .al 1001153 b617 c618 0 x510.sheet.length 100, .v (.string x510.note)]]⟩)] o)) ?_ ?_
      · refine w_loop2 (fun n t o => ∃ n594 v572 v588 b573 b574 c575 b576 c577 b578 b579 c580 b581 c582 b583 c584 b585 c586 b587 b589 c590 b591 c592 b593, gl_spec_RepoSweep_6 v490 n594 v572 v588 = some q571 ∧ n594 = n ∧ Pin t (ovr [(1, .ptr 8 b573 210 0 0), (2, .ptr 16 b578 210 0 0), (5, .ref 280 b579 c580 0 x75.length 33), (6, .ref 312 b581 c582 0 v490.length 17), (7, .ptr 56 b587 210 0 0), (8, .v (.int .i64 (k499 : Int))), (9, .ptr 72 b593 115 0 0), (10, .v (.int .i64 v572))] t) ∧ PinH o (ovh [(8, ⟨b573, 1, 210, true, [[.sl false 3 (List.map (eCommit false) a0.commits), .sl false 2 (List.map eHead a0.heads)]]⟩), (1000256, ent b574 c575 115 (List.map (eCommit true) [])), (1000257, ent b576 c577 130 (List.map eHead [])), (16, ⟨b578, 1, 210, true, [[.al 1000256 b574 c575 0 ([] : List Commit).length 115, .al 1000257 b576 c577 0 ([] : List Head).length 130]]⟩), (280, ent b579 c580 33 (List.map eBool x75)), (312, ent b581 c582 17 (List.map eInt v490)), (1000896, ent b583 c584 115 (List.map (eCommit true) v493)), (1000897, ent b585 c586 130 (List.map eHead ([] ++ a0.heads))), (56, ⟨b587, 1, 210, true, [[.al 1000896 b583 c584 0 v493.length 115, .al 1000897 b585 c586 0 ([] ++ a0.heads).length 130]]⟩), (1001152, ent b589 c590 17 (List.map eInt v588)), (1001153, ent b591 c592 100 (List.map (eFeat true) x510.sheet)), (72, ⟨b593, 1, 115, true, [[.al 1001152 b589 c590 0 v588.length 17, .al 1001153 b591 c592 0 x510.sheet.length 100, .v (.string x510.note)]]⟩)] o)) _ ⟨_, _, _, _, _, _, _, _, _, _, _, _, _, _, _, _, _, _, _, _, _, _, _, h711, rfl, pin, pinh⟩ ?_
        rintro n t o ⟨n594, v572, v588, b573, b574, c575, b576, c577, b578, b579, c580, b581, c582, b583, c584, b585, c586, b587, b589, c590, b591, c592, b593, h711, rfl, q1, q2⟩
        refine pinned q1 q2 ?_
        cases n594 with
        | zero => rw [gl_spec_RepoSweep_6] at h711; cases h711
        | succ n594 =>
          rw [gl_spec_RepoSweep_6] at h711
          refine go ?_; intros
          refine w_cond rfl (fun c => ?_) (fun c => ?_)
          · replace h711 := itt h711 c
            try rw [c]
            obtain ⟨x595, h596, h711⟩ := bnd h711
            refine go ?_; intros
            refine r_ire (xs := v588) rfl rfl h596 rfl ?_
            refine go ?_; intros
            refine r_lde (f := eInt) (xs := v588) (x := x595) rfl rfl (idx_get h596).2 rfl rfl rfl ?_
            obtain ⟨x597, h598, h711⟩ := bnd h711
            refine go ?_; intros
            refine r_ire (xs := v490) rfl rfl h598 rfl ?_
            refine go ?_; intros
            refine r_lde (f := eInt) (xs := v490) (x := x597) rfl rfl (idx_get h598).2 rfl rfl rfl ?_
            refine go ?_; intros
            refine r_ire (xs := v588) rfl rfl h596 rfl ?_
            refine go ?_; intros
            refine c_ste (f := eInt) v588 x597 (idx_get h596).2 ?_
            refine go ?_; intros
            exact k_ln2 _ (Nat.lt_succ_self _) ⟨_, _, _, _, _, _, _, _, _, _, _, _, _, _, _, _, _, _, _, _, _, _, _, h711, rfl, pin, pinh⟩
          replace h711 := itf h711 c
          try rw [c]
          refine go ?_; intros
          cases h711
          exact k_cn ⟨_, _, _, _, _, _, _, _, _, _, _, _, _, _, _, _, _, _, _, _, pin, pinh⟩
      rintro t o ⟨b599, b600, c601, b602, c603, b604, b605, c606, b607, c608, b609, c610, b611, c612, b613, b615, c616, b617, c618, b619, q1, q2⟩
      refine pinnedQ q1 q2 ?_
      obtain ⟨x620, h621, h710⟩ := bnd h710
      refine go ?_; intros
      refine r_ire (xs := v490) rfl rfl h621 rfl ?_
      refine go ?_; intros
      refine c_ste (f := eInt) v490 (v493.length : Int) (idx_get h621).2 ?_
      refine go ?_; intros
      simp only [take_map_len, take_ent]
      obtain ⟨h625, h710⟩ := gd h710
      refine go ?_; intros
      refine r_app (f := (eCommit true)) (xs := v493) (ys := ([(⟨q571, x510.sheet, x510.note⟩ : Commit)] : (List Commit))) rfl (src_mv rfl rfl (by first | rfl | simp)) rfl rfl (by first | rfl | simp) h625 fun b623 c624 => ?_
      refine go ?_; intros
      rw [hw506]
      exact k_ln2 _ (Nat.lt_succ_self _) ⟨_, _, _, _, _, _, _, _, _, _, _, _, _, _, _, _, _, _, _, h710, rfl, drop_next hd502, pin, pinh⟩
  rintro t o ⟨b626, c627, b628, c629, b630, b632, c633, b635, c636, b637, c638, b639, q1, q2⟩
  refine pinnedQ q1 q2 ?_
  obtain ⟨q678, h712, h⟩ := bnd h
  refine go ?_; intros
  refine w_last (fun t o => ∃ b698 c699 b700 c701 b702 b703 c704 b706 c707 b708, Pin t (ovr [(2, .ptr 16 b702 210 0 0), (7, .ptr 56 b708 210 0 0)] t) ∧ PinH o (ovh [(1000256, ent b698 c699 115 (List.map (eCommit true) [])), (1000257, ent b700 c701 130 (List.map eHead [])), (16, ⟨b702, 1, 210, true, [[.al 1000256 b698 c699 0 ([] : List Commit).length 115, .al 1000257 b700 c701 0 ([] : List Head).length 130]]⟩), (1000896, ent b703 c704 115 (List.map (eCommit true) q480.2)), (1000897, ent b706 c707 130 (List.map eHead q678)), (56, ⟨b708, 1, 210, true, [[.al 1000896 b703 c704 0 q480.2.length 115, .al 1000897 b706 c707 0 q678.length 130]]⟩)] o)) ?_ ?_
  · refine w_loop2 (fun n t o => ∃ n693 v679 v689 b680 c681 b682 c683 b684 b685 c686 b687 c688 b690 c691 b692, gl_spec_RepoSweep_7 q480 n693 v679 v689 = some q678 ∧ n693 = n ∧ Pin t (ovr [(2, .ptr 16 b684 210 0 0), (6, .ref 312 b685 c686 0 q480.1.length 17), (7, .ptr 56 b692 210 0 0), (11, .v (.int .i64 v679))] t) ∧ PinH o (ovh [(1000256, ent b680 c681 115 (List.map (eCommit true) [])), (1000257, ent b682 c683 130 (List.map eHead [])), (16, ⟨b684, 1, 210, true, [[.al 1000256 b680 c681 0 ([] : List Commit).length 115, .al 1000257 b682 c683 0 ([] : List Head).length 130]]⟩), (312, ent b685 c686 17 (List.map eInt q480.1)), (1000896, ent b687 c688 115 (List.map (eCommit true) q480.2)), (1000897, ent b690 c691 130 (List.map eHead v689)), (56, ⟨b692, 1, 210, true, [[.al 1000896 b687 c688 0 q480.2.length 115, .al 1000897 b690 c691 0 v689.length 130]]⟩)] o)) _ ⟨_, _, _, _, _, _, _, _, _, _, _, _, _, _, _, h712, rfl, pin, pinh⟩ ?_
    rintro n t o ⟨n693, v679, v689, b680, c681, b682, c683, b684, b685, c686, b687, c688, b690, c691, b692, h712, rfl, q1, q2⟩
    refine pinned q1 q2 ?_
    cases n693 with
    | zero => rw [gl_spec_RepoSweep_7] at h712; cases h712
    | succ n693 =>
      rw [gl_spec_RepoSweep_7] at h712
      refine go ?_; intros
      refine w_cond rfl (fun c => ?_) (fun c => ?_)
      · replace h712 := itt h712 c
        try rw [c]
        obtain ⟨x694, h695, h712⟩ := bnd h712
        refine go ?_; intros
        refine r_ire (xs := v689) rfl rfl h695 rfl ?_
        refine go ?_; intros
        refine r_lde (f := eHead) (xs := v689) (x := x694) rfl rfl (idx_get h695).2 rfl rfl rfl ?_
        obtain ⟨x696, h697, h712⟩ := bnd h712
        refine go ?_; intros
        refine r_ire (xs := q480.1) rfl rfl h697 rfl ?_
        refine go ?_; intros
        refine r_lde (f := eInt) (xs := q480.1) (x := x696) rfl rfl (idx_get h697).2 rfl rfl rfl ?_
        refine go ?_; intros
        refine r_ire (xs := v689) rfl rfl h695 rfl ?_
        refine go ?_; intros
        refine c_ste (f := eHead) v689 (⟨x694.name, x696⟩ : Head) (idx_get h695).2 ?_
        refine go ?_; intros
        exact k_ln2 _ (Nat.lt_succ_self _) ⟨_, _, _, _, _, _, _, _, _, _, _, _, _, _, _, h712, rfl, pin, pinh⟩
      replace h712 := itf h712 c
      try rw [c]
      refine go ?_; intros
      cases h712
      exact k_cn ⟨_, _, _, _, _, _, _, _, _, _, pin, pinh⟩
  rintro t o ⟨b698, c699, b700, c701, b702, b703, c704, b706, c707, b708, q1, q2⟩
  refine pinnedQ q1 q2 ?_
  refine go ?_; intros
  cases h
  exact r_end
end Go.Proofs.AM
