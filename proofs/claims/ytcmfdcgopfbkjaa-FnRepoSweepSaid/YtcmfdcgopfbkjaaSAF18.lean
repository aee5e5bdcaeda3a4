/- A part of the proofs of this seat's statements (SAF18): lemmas on an abstract machine for the program's functions. Conditions: none. -/
import Derived.Test.YtcmfdcgopfbkjaaSAD
set_option linter.unusedVariables false
set_option maxRecDepth 100000
set_option maxHeartbeats 4000000
namespace Go.Proofs.AM
attribute [local irreducible] vwp vstps vstpLs vstp vdo vret kseq kblk kloop kend kcut kloop2 frzV renV shutK pfzV trnV unrV
theorem d_laws_FnRepoSweep {G : Gam} (H_spec_DrawRepoSweep : Has G c_spec_DrawRepoSweep) (H_impl_RepoSweep : Has G c_impl_RepoSweep) (H_spec_RepoSweep : Has G c_spec_RepoSweep) (H_impl_RepoSame : Has G c_impl_RepoSame) (H_spec_RepoOk : Has G c_spec_RepoOk) (H_impl_RepoPast : Has G c_impl_RepoPast) (H_impl_SheetSame : Has G c_impl_SheetSame) (H_impl_RepoOk : Has G c_impl_RepoOk) (a0 : (List UInt8)) (g0 : Option Addr) (g1 : Nat) (r : Bool) (h : gf_laws_FnRepoSweep a0 = some r) : Does G if_laws_FnRepoSweep ks_laws_FnRepoSweep (c_laws_FnRepoSweep.args (a0, g0, g1)) [] (c_laws_FnRepoSweep.ans (a0, g0, g1) r) := by
  refine does_pn (L := [(0, .raw g0 g1 (List.map eU8 a0))]) (fun bs => pin) fun bs t o => ?_
  show vwp _ ib_laws_FnRepoSweep _ _
  unfold ib_laws_FnRepoSweep
  refine w_ir ?_
  unfold gf_laws_FnRepoSweep at h
  refine go ?_; intros
  refine w_cond rfl (fun c => ?_) (fun c => ?_)
  · replace h := itt h (by first | exact c | (have c2 := c; simp only [List.length_map] at c2; exact c2))
    try rw [c]
    refine go ?_; intros
    cases h
    exact r_end
  replace h := itf h (by first | exact c | (have c2 := c; simp only [List.length_map] at c2; exact c2))
  try rw [c]
  refine go ?_; intros
  refine r_frz ?_
  obtain ⟨x1, h2, h⟩ := bnd h
  refine go ?_; intros
  refine c_call (c := c_spec_DrawRepoSweep) (a0, g0, g1) H_spec_DrawRepoSweep h2 fun ch => ?_
  refine go ?_; intros
  refine c_fz ?_
  obtain ⟨x8, h9, h⟩ := bnd h
  refine go ?_; intros
  refine c_call (c := c_impl_RepoSweep) (x1) H_impl_RepoSweep h9 fun ch => ?_
  obtain ⟨x15, h16, h⟩ := bnd h
  refine go ?_; intros
  refine c_call (c := c_spec_RepoSweep) (x1) H_spec_RepoSweep h16 fun ch => ?_
  obtain ⟨x21, h22, h⟩ := bnd h
  refine go ?_; intros
  refine c_call (c := c_impl_RepoSame) (x8, x15) H_impl_RepoSame h22 fun ch => ?_
  refine go ?_; intros
  refine w_cond rfl (fun c => ?_) (fun c => ?_)
  · replace h := itt h c
    try rw [c]
    refine go ?_; intros
    cases h
    exact r_end
  replace h := itf h c
  try rw [c]
  obtain ⟨x23, h24, h⟩ := bnd h
  refine go ?_; intros
  refine c_call (c := c_spec_RepoOk) (x1) H_spec_RepoOk h24 fun ch => ?_
  refine go ?_; intros
  refine w_cond rfl (fun c => ?_) (fun c => ?_)
  · replace h := itt h c
    try rw [c]
    refine go ?_; intros
    cases h
    exact r_end
  replace h := itf h c
  try rw [c]
  obtain ⟨h27, h⟩ := gd h
  refine go ?_; intros
  refine r_mks (f := eBool) (x := false) rfl rfl (band1 h27) (band2 h27) rfl fun b25 => ?_
  obtain ⟨hf440, h⟩ := gd h
  obtain ⟨q421, h629, h⟩ := bnd h
  refine go ?_; intros
  refine w_last (fun t o => ∃ q421_, q421 = .inr q421_ ∧ ∃ b564 c565 b566 c567 b568 b570 c571, Pin t (ovr [(4, .ptr 32 b568 210 0 0), (5, .ref 288 b570 c571 0 q421_.length 33)] t) ∧ PinH o (ovh [(1000512, ent b564 c565 115 (List.map (eCommit true) x8.commits)), (1000513, ent b566 c567 130 (List.map eHead x8.heads)), (32, ⟨b568, 1, 210, true, [[.al 1000512 b564 c565 0 x8.commits.length 115, .al 1000513 b566 c567 0 x8.heads.length 130]]⟩), (288, ent b570 c571 33 (List.map eBool q421_))] o)) ?_ ?_
  · refine w_loop2 (fun n t o => ∃ l434 k432 v429 b423 b424 c425 b426 c427 b428 b430 c431, gl_laws_FnRepoSweep_4 x8 x1 l434 k432 v429 = some q421 ∧ n = l434.length ∧ (x1.heads).drop k432 = l434 ∧ Pin t (ovr [(3, .ptr 24 b423 210 0 0), (4, .ptr 32 b428 210 0 0), (5, .ref 288 b430 c431 0 v429.length 33), (6, .v (.int .i64 (k432 : Int)))] t) ∧ PinH o (ovh [(24, ⟨b423, 1, 210, true, [[.sl false 3 (List.map (eCommit false) x1.commits), .sl false 2 (List.map eHead x1.heads)]]⟩), (1000512, ent b424 c425 115 (List.map (eCommit true) x8.commits)), (1000513, ent b426 c427 130 (List.map eHead x8.heads)), (32, ⟨b428, 1, 210, true, [[.al 1000512 b424 c425 0 x8.commits.length 115, .al 1000513 b426 c427 0 x8.heads.length 130]]⟩), (288, ent b430 c431 33 (List.map eBool v429))] o)) _ ⟨_, _, _, _, _, _, _, _, _, _, _, h629, rfl, rfl, pin, pinh⟩ ?_
    rintro n t o ⟨l434, k432, v429, b423, b424, c425, b426, c427, b428, b430, c431, h629, rfl, hd435, pq1, pq2⟩
    refine pinned pq1 pq2 ?_
    cases l434 with
    | nil =>
      have hge437 := drop_ge hd435
      rw [gl_laws_FnRepoSweep_4] at h629
      refine go ?_; intros
      rw [hge437]
      refine go ?_; intros
      cases h629
      exact k_cn ⟨_, rfl, _, _, _, _, _, _, _, pin, pinh⟩
    | cons x433 l434 =>
      have hlt436 := drop_lt hd435
      have hx438 := drop_ix hd435
      have hw439 := drop_wr hd435 hf440
      rw [gl_laws_FnRepoSweep_4] at h629
      refine go ?_; intros
      rw [hlt436]
      refine go ?_; intros
      refine r_iro rfl rfl hx438 rfl ?_
      obtain ⟨x441, h442, h629⟩ := bnd h629
      refine go ?_; intros
      refine r_ire (xs := x8.heads) rfl rfl h442 rfl ?_
      refine go ?_; intros
      refine r_lde (f := eHead) (xs := x8.heads) (x := x441) rfl rfl (idx_get h442).2 rfl rfl rfl ?_
      obtain ⟨x443, h444, h629⟩ := bnd h629
      refine go ?_; intros
      refine c_call (c := c_impl_RepoPast) (x1, x433.at_) H_impl_RepoPast h444 fun ch => ?_
      obtain ⟨x447, h448, h629⟩ := bnd h629
      refine go ?_; intros
      refine c_call (c := c_impl_RepoPast) (x8, x441.at_) H_impl_RepoPast h448 fun ch => ?_
      refine go ?_; intros
      refine s_split rfl (fun c => ?_) (fun c => ?_)
      · replace h629 := itt h629 (by first | exact c | (have c2 := c; simp only [List.length_map] at c2; exact c2))
        rw [c]
        refine go ?_; intros
        cases h629
        replace h : some _ = some _ := h
        cases h
        exact r_end
      replace h629 := itf h629 (by first | exact c | (have c2 := c; simp only [List.length_map] at c2; exact c2))
      rw [c]
      refine go ?_; intros
      refine r_ire (xs := x8.heads) rfl rfl h442 rfl ?_
      refine go ?_; intros
      refine r_lde (f := eHead) (xs := x8.heads) (x := x441) rfl rfl (idx_get h442).2 rfl rfl rfl ?_
      refine go ?_; intros
      refine r_iro rfl rfl hx438 rfl ?_
      refine go ?_; intros
      refine w_cond rfl (fun c => ?_) (fun c => ?_)
      · replace h629 := itt h629 c
        try rw [c]
        refine go ?_; intros
        cases h629
        replace h : some _ = some _ := h
        cases h
        exact r_end
      replace h629 := itf h629 c
      try rw [c]
      obtain ⟨hf542, h629⟩ := gd h629
      obtain ⟨q519, h630, h629⟩ := bnd h629
      refine go ?_; intros
      refine w_last (fun t o => ∃ q519_, q519 = .inr q519_ ∧ ∃ b555 b556 c557 b558 c559 b560 b562 c563, Pin t (ovr [(3, .ptr 24 b555 210 0 0), (4, .ptr 32 b560 210 0 0), (5, .ref 288 b562 c563 0 q519_.length 33), (6, .v (.int .i64 (k432 : Int))), (68, .ptr 32 b560 210 0 1), (69, .ref 1000513 b558 c559 0 x8.heads.length 130), (70, .v (.int .i64 (k432 : Int))), (73, .v (.string x441.name)), (74, .ptr 24 b555 210 0 1), (75, .ro (List.map eHead x1.heads)), (76, .v (.int .i64 (k432 : Int))), (77, .rptr [.v (.string x433.name), .v (.int .i64 x433.at_)]), (78, .rptr [.v (.string x433.name), .v (.int .i64 x433.at_)]), (79, .v (.string x433.name)), (80, .v (.bool false))] t) ∧ PinH o (ovh [(24, ⟨b555, 1, 210, true, [[.sl false 3 (List.map (eCommit false) x1.commits), .sl false 2 (List.map eHead x1.heads)]]⟩), (1000512, ent b556 c557 115 (List.map (eCommit true) x8.commits)), (1000513, ent b558 c559 130 (List.map eHead x8.heads)), (32, ⟨b560, 1, 210, true, [[.al 1000512 b556 c557 0 x8.commits.length 115, .al 1000513 b558 c559 0 x8.heads.length 130]]⟩), (288, ent b562 c563 33 (List.map eBool q519_))] o)) ?_ ?_
      · refine w_loop2 (fun n t o => ∃ l536 k534 v527 b521 b522 c523 b524 c525 b526 b528 c529 b530 c531 b532 c533, gl_laws_FnRepoSweep_5 x1 x447 x8 l536 k534 v527 = some q519 ∧ n = l536.length ∧ (x443).drop k534 = l536 ∧ Pin t (ovr [(3, .ptr 24 b521 210 0 0), (4, .ptr 32 b526 210 0 0), (5, .ref 288 b528 c529 0 v527.length 33), (6, .v (.int .i64 (k432 : Int))), (9, .ref 464 b530 c531 0 x443.length 17), (10, .ref 488 b532 c533 0 x447.length 17), (11, .v (.int .i64 (k534 : Int))), (68, .ptr 32 b526 210 0 1), (69, .ref 1000513 b524 c525 0 x8.heads.length 130), (70, .v (.int .i64 (k432 : Int))), (73, .v (.string x441.name)), (74, .ptr 24 b521 210 0 1), (75, .ro (List.map eHead x1.heads)), (76, .v (.int .i64 (k432 : Int))), (77, .rptr [.v (.string x433.name), .v (.int .i64 x433.at_)]), (78, .rptr [.v (.string x433.name), .v (.int .i64 x433.at_)]), (79, .v (.string x433.name)), (80, .v (.bool false))] t) ∧ PinH o (ovh [(24, ⟨b521, 1, 210, true, [[.sl false 3 (List.map (eCommit false) x1.commits), .sl false 2 (List.map eHead x1.heads)]]⟩), (1000512, ent b522 c523 115 (List.map (eCommit true) x8.commits)), (1000513, ent b524 c525 130 (List.map eHead x8.heads)), (32, ⟨b526, 1, 210, true, [[.al 1000512 b522 c523 0 x8.commits.length 115, .al 1000513 b524 c525 0 x8.heads.length 130]]⟩), (288, ent b528 c529 33 (List.map eBool v527)), (464, ent b530 c531 17 (List.map eInt x443)), (488, ent b532 c533 17 (List.map eInt x447))] o)) _ ⟨_, _, _, _, _, _, _, _, _, _, _, _, _, _, _, h630, rfl, rfl, pin, pinh⟩ ?_
        rintro n t o ⟨l536, k534, v527, b521, b522, c523, b524, c525, b526, b528, c529, b530, c531, b532, c533, h630, rfl, hd537, pq1, pq2⟩
        refine pinned pq1 pq2 ?_
        cases l536 with
        | nil =>
          have hge539 := drop_ge hd537
          rw [gl_laws_FnRepoSweep_5] at h630
          refine go ?_; intros
          rw [hge539]
          refine go ?_; intros
          cases h630
          exact k_cn ⟨_, rfl, _, _, _, _, _, _, _, _, pin, pinh⟩
        | cons x535 l536 =>
          have hlt538 := drop_lt hd537
          have hx540 := drop_ix hd537
          have hw541 := drop_wr hd537 hf542
          rw [gl_laws_FnRepoSweep_5] at h630
          refine go ?_; intros
          rw [hlt538]
          refine go ?_; intros
          refine r_ire (xs := x443) rfl rfl hx540 rfl ?_
          refine go ?_; intros
          refine r_lde (f := eInt) (xs := x443) (x := x535) rfl rfl (idx_get hx540).2 rfl rfl rfl ?_
          obtain ⟨x543, h544, h630⟩ := bnd h630
          refine go ?_; intros
          refine r_ire (xs := v527) rfl rfl h544 rfl ?_
          refine go ?_; intros
          refine c_ste (f := eBool) v527 true (idx_get h544).2 ?_
          refine go ?_; intros
          refine r_ire (xs := x443) rfl rfl hx540 rfl ?_
          refine go ?_; intros
          refine r_lde (f := eInt) (xs := x443) (x := x535) rfl rfl (idx_get hx540).2 rfl rfl rfl ?_
          obtain ⟨x545, h546, h630⟩ := bnd h630
          refine go ?_; intros
          refine r_iro rfl rfl h546 rfl ?_
          obtain ⟨x547, h548, h630⟩ := bnd h630
          refine go ?_; intros
          refine r_ire (xs := x447) rfl rfl h548 rfl ?_
          refine go ?_; intros
          refine r_lde (f := eInt) (xs := x447) (x := x547) rfl rfl (idx_get h548).2 rfl rfl rfl ?_
          obtain ⟨x549, h550, h630⟩ := bnd h630
          refine go ?_; intros
          refine r_ire (xs := x8.commits) rfl rfl h550 rfl ?_
          refine go ?_; intros
          refine r_lopg (f := (eCommit true)) (g := (eFeat true)) (xs := x8.commits) (x := x549) (ys := x549.sheet) (idx_get h550).2 rfl rfl rfl fun b551 c552 => ?_
          refine go ?_; intros
          refine r_shut ?_
          obtain ⟨x553, h554, h630⟩ := bnd h630
          refine go ?_; intros
          refine c_call (c := c_impl_SheetSame) (x545.sheet, x549.sheet) H_impl_SheetSame h554 fun ch => ?_
          refine go ?_; intros
          refine c_shg0 (f := (eCommit true)) (idx_get h550).2 ?_
          refine go ?_; intros
          refine s_split rfl (fun c => ?_) (fun c => ?_)
          · replace h630 := itt h630 c
            rw [c]
            refine go ?_; intros
            cases h630
            replace h629 : some _ = some _ := h629
            cases h629
            replace h : some _ = some _ := h
            cases h
            exact r_end
          replace h630 := itf h630 c
          rw [c]
          refine go ?_; intros
          refine r_ire (xs := x443) rfl rfl hx540 rfl ?_
          refine go ?_; intros
          refine r_lde (f := eInt) (xs := x443) (x := x535) rfl rfl (idx_get hx540).2 rfl rfl rfl ?_
          refine go ?_; intros
          refine r_iro rfl rfl h546 rfl ?_
          refine go ?_; intros
          refine r_ire (xs := x447) rfl rfl h548 rfl ?_
          refine go ?_; intros
          refine r_lde (f := eInt) (xs := x447) (x := x547) rfl rfl (idx_get h548).2 rfl rfl rfl ?_
          refine go ?_; intros
          refine r_ire (xs := x8.commits) rfl rfl h550 rfl ?_
          refine go ?_; intros
          refine r_lde (f := (eCommit true)) (xs := x8.commits) (x := x549) rfl rfl (idx_get h550).2 rfl rfl rfl ?_
          refine go ?_; intros
          refine w_cond rfl (fun c => ?_) (fun c => ?_)
          · replace h630 := itt h630 c
            try rw [c]
            refine go ?_; intros
            cases h630
            replace h629 : some _ = some _ := h629
            cases h629
            replace h : some _ = some _ := h
            cases h
            exact r_end
          replace h630 := itf h630 c
          try rw [c]
          refine go ?_; intros
          rw [hw541]
          exact k_ln2 _ (Nat.lt_succ_self _) ⟨_, _, _, _, _, _, _, _, _, _, _, _, _, _, _, h630, rfl, drop_next hd537, pin, pinh⟩
      rintro t o ⟨q519, rfl, b555, b556, c557, b558, c559, b560, b562, c563, pq1, pq2⟩
      refine pinnedQ pq1 pq2 ?_
      refine go ?_; intros
      rw [hw439]
      exact k_ln2 _ (Nat.lt_succ_self _) ⟨_, _, _, _, _, _, _, _, _, _, _, h629, rfl, drop_next hd435, pin, pinh⟩
  rintro t o ⟨q421, rfl, b564, c565, b566, c567, b568, b570, c571, pq1, pq2⟩
  refine pinnedQ pq1 pq2 ?_
  obtain ⟨hf612, h⟩ := gd h
  obtain ⟨q594, h631, h⟩ := bnd h
  refine go ?_; intros
  refine w_last (fun t o => ∃ b614 c615 b616 c617 b618, Pin t (ovr [(4, .ptr 32 b618 210 0 0), (12, .v (.int .i64 q594))] t) ∧ PinH o (ovh [(1000512, ent b614 c615 115 (List.map (eCommit true) x8.commits)), (1000513, ent b616 c617 130 (List.map eHead x8.heads)), (32, ⟨b618, 1, 210, true, [[.al 1000512 b614 c615 0 x8.commits.length 115, .al 1000513 b616 c617 0 x8.heads.length 130]]⟩)] o)) ?_ ?_
  · refine w_loop2 (fun n t o => ∃ l606 k604 v595 b597 c598 b599 c600 b601 b602 c603, gl_laws_FnRepoSweep_6 l606 k604 v595 = some q594 ∧ n = l606.length ∧ (q421).drop k604 = l606 ∧ Pin t (ovr [(4, .ptr 32 b601 210 0 0), (5, .ref 288 b602 c603 0 q421.length 33), (12, .v (.int .i64 v595)), (13, .v (.int .i64 (k604 : Int)))] t) ∧ PinH o (ovh [(1000512, ent b597 c598 115 (List.map (eCommit true) x8.commits)), (1000513, ent b599 c600 130 (List.map eHead x8.heads)), (32, ⟨b601, 1, 210, true, [[.al 1000512 b597 c598 0 x8.commits.length 115, .al 1000513 b599 c600 0 x8.heads.length 130]]⟩), (288, ent b602 c603 33 (List.map eBool q421))] o)) _ ⟨_, _, _, _, _, _, _, _, _, _, h631, rfl, rfl, pin, pinh⟩ ?_
    rintro n t o ⟨l606, k604, v595, b597, c598, b599, c600, b601, b602, c603, h631, rfl, hd607, pq1, pq2⟩
    refine pinned pq1 pq2 ?_
    cases l606 with
    | nil =>
      have hge609 := drop_ge hd607
      rw [gl_laws_FnRepoSweep_6] at h631
      refine go ?_; intros
      rw [hge609]
      refine go ?_; intros
      cases h631
      exact k_cn ⟨_, _, _, _, _, pin, pinh⟩
    | cons x605 l606 =>
      have hlt608 := drop_lt hd607
      have hx610 := drop_ix hd607
      have hw611 := drop_wr hd607 hf612
      rw [gl_laws_FnRepoSweep_6] at h631
      refine go ?_; intros
      rw [hlt608]
      refine go ?_; intros
      refine r_ire (xs := q421) rfl rfl hx610 rfl ?_
      refine go ?_; intros
      refine r_lde (f := eBool) (xs := q421) (x := x605) rfl rfl (idx_get hx610).2 rfl rfl rfl ?_
      refine go ?_; intros
      refine w_cond rfl (fun c => ?_) (fun c => ?_)
      · replace h631 := itt h631 c
        try rw [c]
        refine go ?_; intros
        rw [hw611]
        exact k_ln2 _ (Nat.lt_succ_self _) ⟨_, _, _, _, _, _, _, _, _, _, h631, rfl, drop_next hd607, pin, pinh⟩
      replace h631 := itf h631 c
      try rw [c]
      refine go ?_; intros
      rw [hw611]
      exact k_ln2 _ (Nat.lt_succ_self _) ⟨_, _, _, _, _, _, _, _, _, _, h631, rfl, drop_next hd607, pin, pinh⟩
  rintro t o ⟨b614, c615, b616, c617, b618, pq1, pq2⟩
  refine pinnedQ pq1 pq2 ?_
  obtain ⟨x619, h620, h⟩ := bnd h
  refine go ?_; intros
  refine c_call (c := c_impl_RepoOk) (x8) H_impl_RepoOk h620 fun ch => ?_
  refine go ?_; intros
  refine s_split rfl (fun c => ?_) (fun c => ?_)
  · replace h := itt h c
    rw [c]
    refine go ?_; intros
    refine s_split rfl (fun c => ?_) (fun c => ?_)
    · replace h := itt h (by first | exact c | (have c2 := c; simp only [List.length_map] at c2; exact c2))
      rw [c]
      obtain ⟨x621, h622, h⟩ := bnd h
      refine go ?_; intros
      refine c_call (c := c_impl_RepoSweep) (x8) H_impl_RepoSweep h622 fun ch => ?_
      obtain ⟨x627, h628, h⟩ := bnd h
      refine go ?_; intros
      refine c_call (c := c_impl_RepoSame) (x621, x8) H_impl_RepoSame h628 fun ch => ?_
      refine go ?_; intros
      cases h
      exact r_end
    replace h := itf h (by first | exact c | (have c2 := c; simp only [List.length_map] at c2; exact c2))
    rw [c]
    refine go ?_; intros
    cases h
    exact r_end
  replace h := itf h c
  rw [c]
  refine go ?_; intros
  cases h
  exact r_end
end Go.Proofs.AM
