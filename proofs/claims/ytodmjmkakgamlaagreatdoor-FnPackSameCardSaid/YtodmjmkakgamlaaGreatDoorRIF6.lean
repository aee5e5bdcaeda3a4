/- Lemmas of the proof (RIF6), on an abstract machine. Conditions: none. -/
import Derived.Test.YtodmjmkakgamlaaGreatDoorRID
set_option linter.unusedVariables false
set_option linter.unusedSimpArgs false
set_option maxRecDepth 100000
set_option maxHeartbeats 4000000
namespace Go.Proofs.AM
attribute [local irreducible] vwp vstps vstpLs vstp vdo vret kseq kblk kloop kend kcut kloop2 frzV renV shutK pfzV trnV unrV
theorem d_em9 : OkC [c_cv9] c_em9 if_em9 ks_em9 := by
 refine ok fun G H ⟨a0, g0, g1⟩ r h => ?_
 refine st1 fun bs t o => ?_
 dsimp only [gf_em9] at h
 exact cls
theorem d_ei9 : OkC [c_el9, c_ej9, c_cw9, c_cj9, c_dz9, c_em9, c_eg9, c_ee9] c_ei9 if_ei9 ks_ei9 := by
 refine ok fun G H ⟨a0, a1, g0, g1, g2, g3, g4, g5⟩ r h => ?_
 have H_el9 := H _ (.head _)
 have H_ej9 := H _ (.tail _ (.head _))
 have H_cw9 := H _ (.tail _ (.tail _ (.head _)))
 have H_cj9 := H _ (.tail _ (.tail _ (.tail _ (.head _))))
 have H_dz9 := H _ (.tail _ (.tail _ (.tail _ (.tail _ (.head _)))))
 have H_em9 := H _ (.tail _ (.tail _ (.tail _ (.tail _ (.tail _ (.head _))))))
 have H_eg9 := H _ (.tail _ (.tail _ (.tail _ (.tail _ (.tail _ (.tail _ (.head _)))))))
 have H_ee9 := H _ (.tail _ (.tail _ (.tail _ (.tail _ (.tail _ (.tail _ (.tail _ (.head _))))))))
 refine st1 fun bs t o => ?_
 dsimp only [gf_ei9] at h
 obtain ⟨x3, h4, h⟩ := bnd h
 refine go ?_;intros
 refine c_callg (c := c_el9) (a0, g0, g1) H_el9 h4 fun ch => ?_
 obtain ⟨x5, h6, h⟩ := bnd h
 refine go ?_;intros
 refine c_call (c := c_ej9) (a1, x3.1) H_ej9 h6 fun ch => ?_
 refine go ?_;intros
 refine w_cond rfl (fun c => ?_) (fun c => ?_)
 ·replace h := itt h c
  try rw [c]
  obtain ⟨x7, h8, h⟩ := bnd h
  refine go ?_;intros
  refine c_callg (c := c_cw9) ((⟨a0.b, x3.2⟩ : Rd), (a1.heads.length : Int), g0, g1) H_cw9 h8 fun ch => ?_
  obtain ⟨x9, h10, h⟩ := bnd h
  refine go ?_;intros
  refine r_iro rfl rfl h10 rfl ?_
  obtain ⟨x11, h12, h⟩ := bnd h
  refine go ?_;intros
  refine c_call (c := c_cj9) (a1, x3.1, x9.name) H_cj9 h12 fun ch => ?_
  refine go ?_;intros
  refine w_cond rfl (fun c => ?_) (fun c => ?_)
  ·replace h := itt h (by first | exact c | (have c2 := c; simp only [List.length_map] at c2; exact c2))
   try rw [c]
   refine go ?_;intros
   cases h
   exact r_endg
  replace h := itf h (by first | exact c | (have c2 := c; simp only [List.length_map] at c2; exact c2))
  try rw [c]
  refine go ?_;intros
  refine r_ldr rfl rfl rfl rfl ?_
  refine go ?_;intros
  cases h
  exact r_endg
 replace h := itf h c
 try rw [c]
 obtain ⟨x18, h19, h⟩ := bnd h
 refine go ?_;intros
 refine r_iro rfl rfl h19 rfl ?_
 obtain ⟨q20, h75, h⟩ := bnd h
 refine go ?_;intros
 refine w_cut (fun t o => ∃ b30 b31 c32 b33 c34 b35 b36 c37 b40, Pin t (ovr [(0, .ptr 0 (bs 0).1 290 0 0), (3, .ptr 24 b30 210 0 0), (4, .ptr 32 b35 210 0 0), (6, .v (.int .i64 x5)), (9, .v (.int .i64 x18.at_)), (10, .ptr 80 b40 115 0 0)] t) ∧ PinH o (ovh [(0, ⟨(bs 0).1, (bs 0).2, 290, true, [[.rw g0 g1 (List.map eU8 a0.b), .v (.int .i64 q20.1)]]⟩), (24, ⟨b30, 1, 210, true, [[.rw g2 g3 (List.map (eCommit false) a1.commits), .rw g4 g5 (List.map eHead a1.heads)]]⟩), (1000512, ent b31 c32 115 (List.map (eCommit true) [])), (1000513, ent b33 c34 130 (List.map eHead [])), (32, ⟨b35, 1, 210, true, [[.al 1000512 b31 c32 0 ([] : List Commit).length 115, .al 1000513 b33 c34 0 ([] : List Head).length 130]]⟩), (1001280, ent b36 c37 17 (List.map eInt [x18.at_])), (80, ⟨b40, 1, 115, true, [[.al 1001280 b36 c37 0 [x18.at_].length 17, .sl false 4 (List.map (eFeat false) q20.2.1), .v (.string q20.2.2)]]⟩)] o)) ?_ ?_
 ·obtain ⟨x22, h23, h75⟩ := bnd h75
  refine go ?_;intros
  refine r_iro rfl rfl h23 rfl ?_
  obtain ⟨x24, h25, h75⟩ := bnd h75
  refine go ?_;intros
  refine c_callg (c := c_dz9) ((⟨a0.b, x3.2⟩ : Rd), x22.sheet, g0, g1) H_dz9 h25 fun ch => ?_
  obtain ⟨x26, h27, h75⟩ := bnd h75
  refine go ?_;intros
  refine c_callg (c := c_em9) ((⟨a0.b, x24.2⟩ : Rd), g0, g1) H_em9 h27 fun ch => ?_
  refine go ?_;intros
  cases h75
  exact k_cn ⟨_, _, _, _, _, _, _, _, _, pin, pinh⟩
 rintro t o ⟨b30, b31, c32, b33, c34, b35, b36, c37, b40, pq1, pq2⟩
 refine pinned pq1 pq2 ?_
 obtain ⟨x41, h42, h⟩ := bnd h
 refine go ?_;intros
 refine c_callg (c := c_cw9) ((⟨a0.b, q20.1⟩ : Rd), (a1.heads.length : Int), g0, g1) H_cw9 h42 fun ch => ?_
 obtain ⟨x43, h44, h⟩ := bnd h
 refine go ?_;intros
 refine r_iro rfl rfl h44 rfl ?_
 obtain ⟨q48, h76, h⟩ := bnd h
 refine go ?_;intros
 refine w_cut (fun t o => ∃ b52 b53 c54 b55 c56 b57 b59 c60 b61, Pin t (ovr [(3, .ptr 24 b52 210 0 0), (4, .ptr 32 b57 210 0 0), (6, .v (.int .i64 x5)), (10, .ptr 80 b61 115 0 0)] t) ∧ PinH o (ovh [(24, ⟨b52, 1, 210, true, [[.rw g2 g3 (List.map (eCommit false) a1.commits), .rw g4 g5 (List.map eHead a1.heads)]]⟩), (1000512, ent b53 c54 115 (List.map (eCommit true) [])), (1000513, ent b55 c56 130 (List.map eHead [])), (32, ⟨b57, 1, 210, true, [[.al 1000512 b53 c54 0 ([] : List Commit).length 115, .al 1000513 b55 c56 0 ([] : List Head).length 130]]⟩), (1001280, ent b59 c60 17 (List.map eInt q48.1)), (80, ⟨b61, 1, 115, true, [[.al 1001280 b59 c60 0 q48.1.length 17, .sl false 4 (List.map (eFeat false) q20.2.1), .v (.string q20.2.2)]]⟩), (0, ⟨(bs 0).1, (bs 0).2, 290, true, [[.rw g0 g1 (List.map eU8 a0.b), .v (.int .i64 q48.2)]]⟩)] o)) ?_ ?_
 ·refine go ?_;intros
  refine s_split rfl (fun c => ?_) (fun c => ?_)
  ·replace h76 := itt h76 c
   rw [c]
   obtain ⟨x49, h50, h76⟩ := bnd h76
   refine go ?_;intros
   refine c_callg (c := c_cw9) ((⟨a0.b, x41.2⟩ : Rd), 4, g0, g1) H_cw9 h50 fun ch => ?_
   refine go ?_;intros
   refine w_cond rfl (fun c => ?_) (fun c => ?_)
   ·replace h76 := itt h76 c
    try rw [c]
    refine go ?_;intros
    cases h76
    exact k_cn ⟨_, _, _, _, _, _, _, _, _, pin, pinh⟩
   replace h76 := itf h76 c
   try rw [c]
   refine go ?_;intros
   cases h76
   exact k_cn ⟨_, _, _, _, _, _, _, _, _, pin, pinh⟩
  replace h76 := itf h76 c
  rw [c]
  refine go ?_;intros
  cases h76
  exact k_cn ⟨_, _, _, _, _, _, _, _, _, pin, pinh⟩
 rintro t o ⟨b52, b53, c54, b55, c56, b57, b59, c60, b61, pq1, pq2⟩
 refine pinned pq1 pq2 ?_
 refine go ?_;intros
 refine w_cond rfl (fun c => ?_) (fun c => ?_)
 ·replace h := itt h (by first | exact c | (have c2 := c; simp only [List.length_map] at c2; exact c2))
  try rw [c]
  refine go ?_;intros
  refine r_ldr rfl rfl rfl rfl ?_
  refine go ?_;intros
  cases h
  exact r_endg
 replace h := itf h (by first | exact c | (have c2 := c; simp only [List.length_map] at c2; exact c2))
 try rw [c]
 obtain ⟨x63, h64, h⟩ := bnd h
 refine go ?_;intros
 refine c_call (c := c_eg9) (a1) H_eg9 h64 fun ch => ?_
 obtain ⟨x69, h70, h⟩ := bnd h
 refine go ?_;intros
 refine c_callg (c := c_ee9) (x63, x5, (⟨q48.1, q20.2.1, q20.2.2⟩ : Commit)) H_ee9 h70 fun ch => ?_
 refine go ?_;intros
 cases h
 exact r_endg
theorem d_eo9 : OkC [c_ck9, c_dv9, c_cw9, c_ei9] c_eo9 if_eo9 ks_eo9 := by
 refine ok fun G H ⟨a0, g0, g1⟩ r h => ?_
 have H_ck9 := H _ (.head _)
 have H_dv9 := H _ (.tail _ (.head _))
 have H_cw9 := H _ (.tail _ (.tail _ (.head _)))
 have H_ei9 := H _ (.tail _ (.tail _ (.tail _ (.head _))))
 refine st1 fun bs t o => ?_
 dsimp only [gf_eo9] at h
 obtain ⟨x2, h3, h⟩ := bnd h
 refine go ?_;intros
 refine c_call (c := c_ck9) ((⟨#[109, 97, 105, 110]⟩ : Str)) H_ck9 h3 fun ch => ?_
 refine go ?_;intros
 refine r_pfz ?_
 refine go ?_;intros
 refine r_pz (f := (eCommit true)) (g := eCommitX) (pf_Commit _) rfl rfl ?_
 refine go ?_;intros
 refine r_frz ?_
 obtain ⟨x9, h10, h⟩ := bnd h
 refine go ?_;intros
 refine c_callg (c := c_dv9) (a0, g0, g1) H_dv9 h10 fun ch => ?_
 refine go ?_;intros
 refine c_fz ?_
 obtain ⟨x13, h14, h⟩ := bnd h
 refine go ?_;intros
 refine r_ire (xs := x2.1.commits) rfl rfl h14 rfl ?_
 refine go ?_;intros
 refine c_ste (f := eCommitX) x2.1.commits (⟨x13.up, x9.1, x13.note⟩ : Commit) (idx_get h14).2 ?_
 obtain ⟨x15, h16, h⟩ := bnd h
 refine go ?_;intros
 refine c_callg (c := c_cw9) ((⟨a0.b, x9.2⟩ : Rd), 7, g0, g1) H_cw9 h16 fun ch => ?_
 obtain ⟨q56, h94, h⟩ := bnd h
 refine go ?_;intros
 refine w_last (fun t o => ∃ b78 c79 b80 c81 b82 b84 c85 b87 c88 b89, Pin t (ovr [(0, .ptr 0 (bs 0).1 290 0 0), (2, .ptr 16 b82 210 0 0), (3, .ptr 24 b89 210 0 0)] t) ∧ PinH o (ovh [(0, ⟨(bs 0).1, (bs 0).2, 290, true, [[.rw g0 g1 (List.map eU8 a0.b), .v (.int .i64 q56.1)]]⟩), (1000256, ent b78 c79 115 (List.map (eCommit true) [])), (1000257, ent b80 c81 130 (List.map eHead [])), (16, ⟨b82, 1, 210, true, [[.al 1000256 b78 c79 0 ([] : List Commit).length 115, .al 1000257 b80 c81 0 ([] : List Head).length 130]]⟩), (1000384, ent b84 c85 115 (List.map eCommitX q56.2.1)), (1000385, ent b87 c88 130 (List.map eHead q56.2.2)), (24, ⟨b89, 1, 210, true, [[.al 1000384 b84 c85 0 q56.2.1.length 115, .al 1000385 b87 c88 0 q56.2.2.length 130]]⟩)] o)) ?_ ?_
 ·refine w_loop2 (fun n t o => ∃ n71 v57 v58 v64 v67 b59 c60 b61 c62 b63 b65 c66 b68 c69 b70, gl_eo9_1 a0 n71 v57 v58 v64 v67 = some q56 ∧ n71 = n ∧ Pin t (ovr [(0, .ptr 0 (bs 0).1 290 0 0), (2, .ptr 16 b63 210 0 0), (3, .ptr 24 b70 210 0 0), (5, .v (.int .i64 v57))] t) ∧ PinH o (ovh [(0, ⟨(bs 0).1, (bs 0).2, 290, true, [[.rw g0 g1 (List.map eU8 a0.b), .v (.int .i64 v58)]]⟩), (1000256, ent b59 c60 115 (List.map (eCommit true) [])), (1000257, ent b61 c62 130 (List.map eHead [])), (16, ⟨b63, 1, 210, true, [[.al 1000256 b59 c60 0 ([] : List Commit).length 115, .al 1000257 b61 c62 0 ([] : List Head).length 130]]⟩), (1000384, ent b65 c66 115 (List.map eCommitX v64)), (1000385, ent b68 c69 130 (List.map eHead v67)), (24, ⟨b70, 1, 210, true, [[.al 1000384 b65 c66 0 v64.length 115, .al 1000385 b68 c69 0 v67.length 130]]⟩)] o)) _ ⟨_, _, _, _, _, _, _, _, _, _, _, _, _, _, _, h94, rfl, pin, pinh⟩ ?_
  rintro n t o ⟨n71, v57, v58, v64, v67, b59, c60, b61, c62, b63, b65, c66, b68, c69, b70, h94, rfl, pq1, pq2⟩
  refine pinned pq1 pq2 ?_
  cases n71 with
  | zero => rw [gl_eo9_1] at h94; cases h94
  | succ n71 =>
   rw [gl_eo9_1] at h94
   refine go ?_;intros
   refine w_cond rfl (fun c => ?_) (fun c => ?_)
   ·replace h94 := itt h94 c
    try rw [c]
    refine go ?_;intros
    refine r_rawl ?_
    refine go ?_;intros
    refine r_rl rfl rfl ?_
    refine go ?_;intros
    refine r_pfz ?_
    refine go ?_;intros
    refine r_unr ?_
    obtain ⟨x72, h73, h94⟩ := bnd h94
    rcases x72 with ⟨_ | y74, p75⟩
    ·dsimp only at h94
     refine go ?_;intros
     refine c_callg (c := c_ei9) ((⟨a0.b, v58⟩ : Rd), (⟨v64, v67⟩ : Repo), g0, g1, (hdrA b65), c66, (hdrA b68), c69) H_ei9 h73 fun ch76 => ?_
     refine go ?_;intros
     refine r_un rfl (un_hit rfl rfl (by first | rfl | simp) (un_hit rfl rfl (by first | rfl | simp) un_nil)) ?_
     refine go ?_;intros
     refine r_pz (f := eCommitX) (g := eCommitX) (pf_CommitX _) rfl rfl ?_
     refine go ?_;intros
     exact k_ln2 _ (Nat.lt_succ_self _) ⟨_, _, _, _, _, _, _, _, _, _, _, _, _, _, _, h94, rfl, pin, pinh⟩
    dsimp only at h94
    refine go ?_;intros
    refine c_callg (c := c_ei9) ((⟨a0.b, v58⟩ : Rd), (⟨v64, v67⟩ : Repo), g0, g1, (hdrA b65), c66, (hdrA b68), c69) H_ei9 h73 fun ch76 => ?_
    refine go ?_;intros
    refine r_un rfl (un_ref (un_ref un_nil)) ?_
    refine go ?_;intros
    refine r_pz (f := (eCommit true)) (g := eCommitX) (pf_Commit _) rfl rfl ?_
    refine go ?_;intros
    exact k_ln2 _ (Nat.lt_succ_self _) ⟨_, _, _, _, _, _, _, _, _, _, _, _, _, _, _, h94, rfl, pin, pinh⟩
   replace h94 := itf h94 c
   try rw [c]
   refine go ?_;intros
   cases h94
   exact k_cn ⟨_, _, _, _, _, _, _, _, _, _, pin, pinh⟩
 rintro t o ⟨b78, c79, b80, c81, b82, b84, c85, b87, c88, b89, pq1, pq2⟩
 refine pinnedQ pq1 pq2 ?_
 obtain ⟨x90, h91, h⟩ := bnd h
 refine go ?_;intros
 refine c_callg (c := c_cw9) ((⟨a0.b, q56.1⟩ : Rd), 4, g0, g1) H_cw9 h91 fun ch => ?_
 refine go ?_;intros
 refine s_split rfl (fun c => ?_) (fun c => ?_)
 ·replace h := itt h c
  rw [c]
  refine go ?_;intros
  refine w_cond rfl (fun c => ?_) (fun c => ?_)
  ·replace h := itt h (by first | exact c | (have c2 := c; simp only [List.length_map] at c2; exact c2))
   try rw [c]
   refine go ?_;intros
   refine r_trn ?_
   obtain ⟨x92, h93, h⟩ := bnd h
   refine go ?_;intros
   refine r_slr (xs := q56.2.2) h93 rfl rfl rfl rfl (by first | rfl | simp) ?_
   refine go ?_;intros
   refine r_tr (f := eHead) h93 rfl rfl rfl ?_
   refine go ?_;intros
   cases h
   exact r_endg
  replace h := itf h (by first | exact c | (have c2 := c; simp only [List.length_map] at c2; exact c2))
  try rw [c]
  refine go ?_;intros
  cases h
  exact r_endg
 replace h := itf h c
 rw [c]
 refine go ?_;intros
 cases h
 exact r_endg
theorem d_ef9 : OkC [c_eo9, c_cw9, c_cu9, c_dp9] c_ef9 if_ef9 ks_ef9 := by
 refine ok fun G H ⟨a0, g0, g1⟩ r h => ?_
 have H_eo9 := H _ (.head _)
 have H_cw9 := H _ (.tail _ (.head _))
 have H_cu9 := H _ (.tail _ (.tail _ (.head _)))
 have H_dp9 := H _ (.tail _ (.tail _ (.tail _ (.head _))))
 refine st1 fun bs t o => ?_
 dsimp only [gf_ef9] at h
 obtain ⟨x2, h3, h⟩ := bnd h
 refine go ?_;intros
 refine c_callg (c := c_eo9) (a0, g0, g1) H_eo9 h3 fun ch => ?_
 obtain ⟨x9, h10, h⟩ := bnd h
 refine go ?_;intros
 refine c_callg (c := c_cw9) ((⟨a0.b, x2.2⟩ : Rd), (x2.1.commits.length : Int), g0, g1) H_cw9 h10 fun ch => ?_
 obtain ⟨x11, h12, h⟩ := bnd h
 refine go ?_;intros
 refine c_callg (c := c_cw9) ((⟨a0.b, x9.2⟩ : Rd), 48, g0, g1) H_cw9 h12 fun ch => ?_
 obtain ⟨q13, h53, h⟩ := bnd h
 refine go ?_;intros
 refine w_cut (fun t o => ∃ b14 c15 b16 c17 b18 b19 c20 b21 c22 b23, Pin t (ovr [(0, .ptr 0 (bs 0).1 290 0 0), (2, .ptr 16 b18 210 0 0), (3, .ptr 24 b23 210 0 0), (4, .v (.int .i64 x9.1)), (13, .v (.int .i64 x11.1)), (14, .v (.bool (x11.1 == 0)))] t) ∧ PinH o (ovh [(0, ⟨(bs 0).1, (bs 0).2, 290, true, [[.rw g0 g1 (List.map eU8 a0.b), .v (.int .i64 x11.2)]]⟩), (1000256, ent b14 c15 115 (List.map (eCommit true) [])), (1000257, ent b16 c17 130 (List.map eHead [])), (16, ⟨b18, 1, 210, true, [[.al 1000256 b14 c15 0 ([] : List Commit).length 115, .al 1000257 b16 c17 0 ([] : List Head).length 130]]⟩), (1000384, ent b19 c20 115 (List.map eCommitX x2.1.commits)), (1000385, ent b21 c22 130 (List.map eHead x2.1.heads)), (24, ⟨b23, 1, 210, true, [[.al 1000384 b19 c20 0 x2.1.commits.length 115, .al 1000385 b21 c22 0 x2.1.heads.length 130]]⟩)] o)) ?_ ?_
 ·refine go ?_;intros
  cases h53
  exact k_cn ⟨_, _, _, _, _, _, _, _, _, _, pin, pinh⟩
 rintro t o ⟨b14, c15, b16, c17, b18, b19, c20, b21, c22, b23, pq1, pq2⟩
 refine pinned pq1 pq2 ?_
 refine go ?_;intros
 refine w_cond rfl (fun c => ?_) (fun c => ?_)
 ·replace h := itt h c
  try rw [c]
  obtain ⟨x25, h26, h⟩ := bnd h
  refine go ?_;intros
  refine c_callg (c := c_cu9) ((⟨a0.b, x11.2⟩ : Rd), ([(-1), (x2.1.commits.length : Int)] : (List Int)), g0, g1) H_cu9 h26 fun ch => ?_
  obtain ⟨x27, h28, h⟩ := bnd h
  refine go ?_;intros
  refine r_ire (xs := x2.1.heads) rfl rfl h28 rfl ?_
  refine go ?_;intros
  refine c_ste (f := eHead) x2.1.heads (⟨x27.name, x25.1⟩ : Head) (idx_get h28).2 ?_
  refine go ?_;intros
  cases h
  exact r_endg
 replace h := itf h c
 try rw [c]
 refine go ?_;intros
 refine w_cond rfl (fun c => ?_) (fun c => ?_)
 ·replace h := itt h c
  try rw [c]
  obtain ⟨x29, h30, h⟩ := bnd h
  refine go ?_;intros
  refine r_ire (xs := x2.1.commits) rfl rfl h30 rfl ?_
  refine go ?_;intros
  refine r_lopg (f := eCommitX) (g := eInt) (xs := x2.1.commits) (x := x29) (ys := x29.up) (idx_get h30).2 rfl rfl rfl fun b31 c32 => ?_
  obtain ⟨h36, h⟩ := gd h
  refine go ?_;intros
  refine r_app (f := eInt) (xs := x29.up) (ys := ([x9.1] : (List Int))) rfl (src_mv rfl rfl (by first | rfl | simp)) rfl rfl (by first | rfl | simp) h36 fun b34 c35 => ?_
  refine go ?_;intros
  refine r_ire (xs := x2.1.commits) rfl rfl h30 rfl ?_
  refine go ?_;intros
  refine c_stc (f := eCommitX) x2.1.commits (⟨(x29.up ++ ([x9.1] : (List Int))), x29.sheet, x29.note⟩ : Commit) (idx_get h30).2 ?_
  refine go ?_;intros
  cases h
  exact r_endg
 replace h := itf h c
 try rw [c]
 refine go ?_;intros
 refine w_cond rfl (fun c => ?_) (fun c => ?_)
 ·replace h := itt h c
  try rw [c]
  refine go ?_;intros
  refine r_frz ?_
  obtain ⟨x37, h38, h⟩ := bnd h
  refine go ?_;intros
  refine c_callg (c := c_dp9) ((⟨a0.b, x11.2⟩ : Rd), g0, g1) H_dp9 h38 fun ch => ?_
  refine go ?_;intros
  refine c_fz ?_
  obtain ⟨x41, h42, h⟩ := bnd h
  refine go ?_;intros
  refine r_ire (xs := x2.1.commits) rfl rfl h42 rfl ?_
  refine go ?_;intros
  refine c_ste (f := eCommitX) x2.1.commits (⟨x41.up, x37.1, x41.note⟩ : Commit) (idx_get h42).2 ?_
  refine go ?_;intros
  cases h
  exact r_endg
 replace h := itf h c
 try rw [c]
 refine go ?_;intros
 refine w_cond rfl (fun c => ?_) (fun c => ?_)
 ·replace h := itt h c
  try rw [c]
  obtain ⟨x43, h44, h⟩ := bnd h
  refine go ?_;intros
  refine r_ire (xs := x2.1.commits) rfl rfl h44 rfl ?_
  refine go ?_;intros
  refine c_ste (f := eCommitX) x2.1.commits (⟨x43.up, x43.sheet, (⟨#[]⟩ : Str)⟩ : Commit) (idx_get h44).2 ?_
  refine go ?_;intros
  cases h
  exact r_endg
 replace h := itf h c
 try rw [c]
 refine go ?_;intros
 refine w_cond rfl (fun c => ?_) (fun c => ?_)
 ·replace h := itt h c
  try rw [c]
  obtain ⟨x45, h46, h⟩ := bnd h
  refine go ?_;intros
  refine r_ire (xs := x2.1.heads) rfl rfl h46 rfl ?_
  refine go ?_;intros
  refine r_lde (f := eHead) (xs := x2.1.heads) (x := x45) rfl rfl (idx_get h46).2 rfl rfl rfl ?_
  obtain ⟨h50, h⟩ := gd h
  refine go ?_;intros
  refine r_app (f := eHead) (xs := x2.1.heads) (ys := ([x45] : (List Head))) rfl (src_mv rfl rfl (by first | rfl | simp)) rfl rfl (by first | rfl | simp) h50 fun b48 c49 => ?_
  refine go ?_;intros
  cases h
  exact r_endg
 replace h := itf h c
 try rw [c]
 refine go ?_;intros
 refine w_cond rfl (fun c => ?_) (fun c => ?_)
 ·replace h := itt h c
  try rw [c]
  obtain ⟨x51, h52, h⟩ := bnd h
  refine go ?_;intros
  refine r_ire (xs := x2.1.commits) rfl rfl h52 rfl ?_
  refine go ?_;intros
  refine c_ste (f := eCommitX) x2.1.commits (⟨[], x51.sheet, x51.note⟩ : Commit) (idx_get h52).2 ?_
  refine go ?_;intros
  cases h
  exact r_endg
 replace h := itf h c
 try rw [c]
 refine go ?_;intros
 cases h
 exact r_endg
theorem d_bp9 : OkC [] c_bp9 if_bp9 ks_bp9 := by
 refine ok fun G H ⟨a0, a1⟩ r h => ?_
 refine st1 fun bs t o => ?_
 dsimp only [gf_bp9] at h
 try (refine gx ?_; intros; rename_i h)
 obtain ⟨hf, h⟩ := gd h
 obtain ⟨q14, hq, h⟩ := bnd h
 refine w_lastK [] [] (fun K J t o => ∃ q14_, q14 = .inr q14_ ∧ PP K J t o) ?_ ?_
 ·have ho1 := h
  refine w_lpL (xs := a0) [0, 1, 12] [] 0 hf (fun K J l18 k16 t o => gl_bp9_1 a1 l18 k16  = some q14 ∧ PP ((13, .v (.int .i64 (k16 : Int))) :: K) J t o) ?_ ?_ ?_
  ·exact ⟨hq, pin, pinh⟩
  ·rintro k16 t o hlt ⟨h, pq⟩
   refine pn pq ?_
   rw [gl_bp9_1] at h
   exact cls
  rintro x17 l18 k16 t o hlt hx22 hw hd ⟨h, pq⟩
  refine pn pq ?_
  rw [gl_bp9_1] at h
  exact cls
 rintro t o ⟨q14, rfl, pq⟩
 refine pnq pq ?_
 exact cls
theorem d_bm9 : OkC [c_be9] c_bm9 if_bl9 ks_bl9 := by
 refine ok fun G H ⟨a0, a1⟩ r h => ?_
 have H_be9 := H _ (.head _)
 replace H := hpre 0 H
 refine st1 fun bs t o => ?_
 dsimp only [gf_bm9] at h
 try (refine gx ?_; intros; rename_i h)
 obtain ⟨hf, h⟩ := gd h
 obtain ⟨q26, hq, h⟩ := bnd h
 refine w_lastK [] [] (fun K J t o => ∃ q26_, q26 = .inr q26_ ∧ PP K J t o) ?_ ?_
 ·have ho1 := h
  refine w_lpL (xs := a0) [1, 2, 15, 16] [] 0 hf (fun K J l30 k28 t o => gl_bm9_1 a1 l30 k28  = some q26 ∧ PP ((17, .v (.int .i64 (k28 : Int))) :: K) J t o) ?_ ?_ ?_
  ·exact ⟨hq, pin, pinh⟩
  ·rintro k28 t o hlt ⟨h, pq⟩
   refine pn pq ?_
   rw [gl_bm9_1] at h
   exact cls
  rintro x29 l30 k28 t o hlt hx34 hw hd ⟨h, pq⟩
  refine pn pq ?_
  rw [gl_bm9_1] at h
  refine gx fun x38 h39 => ?_; intros; rename_i h
  obtain ⟨x41, h42, h⟩ := bnd h
  refine c_calld (c := c_be9) (x29, x38) H_be9 h42 fun ch => ?_
  exact cls
 rintro t o ⟨q26, rfl, pq⟩
 refine pnq pq ?_
 exact cls
theorem d_al9 : OkC [c_bm9, c_bp9] c_al9 if_al9 ks_al9 := by
 refine ok fun G H ⟨a0, a1⟩ r h => ?_
 refine st1 fun bs t o => ?_
 dsimp only [gf_al9] at h
 exact cls
theorem d_cd9 : OkC [c_ct9, c_ef9] c_cd9 if_cd9 ks_cd9 := by
 refine ok fun G H ⟨a0, g0, g1⟩ r h => ?_
 refine st1 fun bs t o => ?_
 dsimp only [gf_cd9] at h
 try (refine gx ?_; intros; rename_i h)
 obtain ⟨q3, hq, h⟩ := bnd h
 refine w_cutK [0, 2, 3] [1000256, 1000257, 16, 1000384, 1000385, 24] (fun K J t o => ∃ b15 c16 b18 c19 b20, PP ((4, .ptr 32 b20 210 0 0) :: K) ((1000512, ent b15 c16 115 (List.map eCommitX q3.1)) :: (1000513, ent b18 c19 130 (List.map eHead q3.2)) :: (32, ⟨b20, 1, 210, true, [[.al 1000512 b15 c16 0 q3.1.length 115, .al 1000513 b18 c19 0 q3.2.length 130]]⟩) :: J) t o) ?_ ?_
 ·have h := hq
  exact cls
 rintro t o ⟨b15, c16, b18, c19, b20, pq⟩
 refine pn pq ?_
 refine gx fun x21 h22 x24 h25 x31 h32 x33 h34 x35 h36 => ?_; intros; rename_i h
 refine c_ste (f := eCommitX) x24.1.commits (⟨x33.up, x33.sheet, x35⟩ : Commit) (idx_get h34).2 ?_
 exact cls
theorem d_cs9 (fuel : Nat) : OkC [(c_cs9 fuel)] (c_cs9 (fuel + 1)) if_cs9 ks_cs9 := by
 refine ok fun G H a0 r h => ?_
 refine st1 fun bs t o => ?_
 replace h : gb_cs9 (gf_cs9 fuel) a0 = some r := h
 unfold gb_cs9 at h
 try (refine gx ?_; intros; rename_i h)
 obtain ⟨q13, hq, h⟩ := bnd h
 refine w_cutK [] [] (fun K J t o => PP ((0, .v (.int .i64 q13.1)) :: (3, .v (.string q13.2)) :: K) J t o) ?_ ?_
 ·refine w_block ?_
  refine w_lpF [] [] (fun K J n16 t o => ∃ v14 v15, gl_cs9_1 n16 v14 v15 = some q13 ∧ PP ((0, .v (.int .i64 v14)) :: (3, .v (.string v15)) :: K) J t o) ?_ ?_
  ·exact ⟨_, _, hq, pin, pinh⟩
  rintro n16 t o ⟨v14, v15, h, pq⟩
  refine pn pq ?_
  cases n16 with
  | zero => rw [gl_cs9_1] at h; cases h
  | succ n16 =>
   rw [gl_cs9_1] at h
   try (refine gx ?_; intros; rename_i h)
   refine r_bytes (xs := ([(IntKind.u8.wrap (IntKind.i64.wrap (48 + (Int.tmod v14 10))))] : (List Int))) rfl rfl (by first | rfl | simp) rfl ?_
   exact cls
 rintro t o pq
 refine pn pq ?_
 try (refine gx ?_; intros; rename_i h)
 refine r_bytes (xs := ([(IntKind.u8.wrap (IntKind.i64.wrap (48 + q13.1)))] : (List Int))) rfl rfl (by first | rfl | simp) rfl ?_
 exact cls
theorem d_eb9 : OkC [c_cr9, c_cf9, c_ce9] c_eb9 if_eb9 ks_eb9 := by
 refine ok fun G H a0 r h => ?_
 refine st1 fun bs t o => ?_
 dsimp only [gf_eb9] at h
 try (refine gx ?_; intros; rename_i h)
 obtain ⟨q8, hq, h⟩ := bnd h
 refine w_cutK [] [] (fun K J t o => ∃ q8_ b17, q8 = .inr q8_ ∧ PP ((1, .ptr 8 b17 155 0 0) :: K) ((8, ⟨b17, 1, 155, true, [[.v (.string a0.id), .v (.bool q8_.1), .v (.string a0.was.id), .v (.int .i64 a0.was.shape.kind), .sl false 2 (List.map ePt a0.was.shape.pts), .sl false 2 (List.map eTag a0.was.tags), .v (.bool q8_.2), .v (.string a0.now.id), .v (.int .i64 a0.now.shape.kind), .sl false 2 (List.map ePt a0.now.shape.pts), .sl false 2 (List.map eTag a0.now.tags)]]⟩) :: J) t o) ?_ ?_
 ·have ho1 := h
  have h := hq
  exact cls
 rintro t o ⟨q8, b17, rfl, pq⟩
 refine pn pq ?_
 try (refine gx ?_; intros; rename_i h)
 obtain ⟨q24, hq, h⟩ := bnd h
 refine w_cutK [1] [8] (fun K J t o => ∃ q24_, q24 = .inr q24_ ∧ PP K J t o) ?_ ?_
 ·have ho1 := h
  have h := hq
  exact cls
 rintro t o ⟨q24, rfl, pq⟩
 refine pn pq ?_
 exact cls
theorem d_cb9 : OkC [c_eb9] c_cb9 if_cb9 ks_cb9 := by
 refine ok fun G H a0 r h => ?_
 refine st1 fun bs t o => ?_
 dsimp only [gf_cb9] at h
 try (refine gx ?_; intros; rename_i h)
 obtain ⟨hf, h⟩ := gd h
 obtain ⟨q18, hq, h⟩ := bnd h
 refine w_lastK [0] [] (fun K J t o => ∃ q18_, q18 = .inr q18_ ∧ PP K J t o) ?_ ?_
 ·have ho1 := h
  refine w_lpL (xs := a0) [0] [] 0 hf (fun K J l22 k20 t o => gl_cb9_1 a0 l22 k20  = some q18 ∧ PP ((3, .v (.int .i64 (k20 : Int))) :: K) J t o) ?_ ?_ ?_
  ·exact ⟨hq, pin, pinh⟩
  ·rintro k20 t o hlt ⟨h, pq⟩
   refine pn pq ?_
   rw [gl_cb9_1] at h
   exact cls
  rintro x21 l22 k20 t o hlt hx26 hw hd ⟨h, pq⟩
  refine pn pq ?_
  rw [gl_cb9_1] at h
  exact cls
 rintro t o ⟨q18, rfl, pq⟩
 refine pnq pq ?_
 exact cls
theorem d_df9 : OkC [] c_df9 if_df9 ks_df9 := by
 refine ok fun G H a0 r h => ?_
 refine st1 fun bs t o => ?_
 dsimp only [gf_df9] at h
 obtain ⟨x2, h3, h⟩ := bnd h
 refine go ?_;intros
 refine r_ire (xs := ([(⟨#[]⟩ : Str), (⟨#[100, 111, 116]⟩ : Str), (⟨#[108, 105, 110, 101]⟩ : Str), (⟨#[114, 105, 110, 103]⟩ : Str)] : (List Str))) rfl rfl h3 rfl ?_
 refine go ?_;intros
 refine r_lde (f := eStr) (xs := ([(⟨#[]⟩ : Str), (⟨#[100, 111, 116]⟩ : Str), (⟨#[108, 105, 110, 101]⟩ : Str), (⟨#[114, 105, 110, 103]⟩ : Str)] : (List Str))) (x := x2) rfl rfl (idx_get h3).2 rfl rfl rfl ?_
 refine go ?_;intros
 cases h
 exact r_end
theorem d_co9 : OkC [c_cm9, c_df9, (c_cs9 rounds)] c_co9 if_co9 ks_co9 := by
 refine ok fun G H a0 r h => ?_
 refine st1 fun bs t o => ?_
 dsimp only [gf_co9] at h
 refine gx fun x2 h3 x4 h5 => ?_; intros; rename_i h
 obtain ⟨hf, h⟩ := gd h
 obtain ⟨q50, hq, h⟩ := bnd h
 refine w_lastK [] [] (fun K J t o => PP ((3, .v (.string q50)) :: K) J t o) ?_ ?_
 ·refine w_lpL (xs := a0.pts) [1] [8] 0 hf (fun K J l55 k53 t o => ∃ v51, gl_co9_1 l55 k53 v51 = some q50 ∧ PP ((3, .v (.string v51)) :: (4, .v (.int .i64 (k53 : Int))) :: K) J t o) ?_ ?_ ?_
  ·exact ⟨_, hq, pin, pinh⟩
  ·rintro k53 t o hlt ⟨v51, h, pq⟩
   refine pn pq ?_
   rw [gl_co9_1] at h
   exact cls
  rintro x54 l55 k53 t o hlt hx59 hw hd ⟨v51, h, pq⟩
  refine pn pq ?_
  rw [gl_co9_1] at h
  exact cls
 rintro t o pq
 refine pnq pq ?_
 exact cls
theorem d_cg9 : OkC [c_ce9, c_co9] c_cg9 if_cg9 ks_cg9 := by
 refine ok fun G H a0 r h => ?_
 refine st1 fun bs t o => ?_
 dsimp only [gf_cg9] at h
 refine gx fun x2 h3 x4 h5 x6 h7 x8 h9 => ?_; intros; rename_i h
 obtain ⟨hf, h⟩ := gd h
 obtain ⟨q42, hq, h⟩ := bnd h
 refine w_lastK [] [] (fun K J t o => PP ((3, .v (.string q42)) :: K) J t o) ?_ ?_
 ·refine w_lpL (xs := a0.tags) [1] [8] 0 hf (fun K J l47 k45 t o => ∃ v43, gl_cg9_1 l47 k45 v43 = some q42 ∧ PP ((3, .v (.string v43)) :: (4, .v (.int .i64 (k45 : Int))) :: K) J t o) ?_ ?_ ?_
  ·exact ⟨_, hq, pin, pinh⟩
  ·rintro k45 t o hlt ⟨v43, h, pq⟩
   refine pn pq ?_
   rw [gl_cg9_1] at h
   exact cls
  rintro x46 l47 k45 t o hlt hx51 hw hd ⟨v43, h, pq⟩
  refine pn pq ?_
  rw [gl_cg9_1] at h
  exact cls
 rintro t o pq
 refine pnq pq ?_
 exact cls
theorem d_ed9 : OkC [c_cg9] c_ed9 if_ed9 ks_ed9 := by
 refine ok fun G H ⟨a0, a1⟩ r h => ?_
 refine st1 fun bs t o => ?_
 dsimp only [gf_ed9] at h
 exact cls
theorem d_cc9 : OkC [c_cb9, c_ed9] c_cc9 if_cc9 ks_cc9 := by
 refine ok fun G H a0 r h => ?_
 refine st1 fun bs t o => ?_
 dsimp only [gf_cc9] at h
 try (refine gx ?_; intros; rename_i h)
 obtain ⟨hf, h⟩ := gd h
 obtain ⟨q63, hq, h⟩ := bnd h
 refine w_lastK [] [] (fun K J t o => PP ((3, .v (.string q63)) :: K) J t o) ?_ ?_
 ·refine w_lpL (xs := a0) [0] [] 0 hf (fun K J l68 k66 t o => ∃ v64, gl_cc9_1 a0 l68 k66 v64 = some q63 ∧ PP ((3, .v (.string v64)) :: (4, .v (.int .i64 (k66 : Int))) :: K) J t o) ?_ ?_ ?_
  ·exact ⟨_, hq, pin, pinh⟩
  ·rintro k66 t o hlt ⟨v64, h, pq⟩
   refine pn pq ?_
   rw [gl_cc9_1] at h
   exact cls
  rintro x67 l68 k66 t o hlt hx72 hw hd ⟨v64, h, pq⟩
  refine pn pq ?_
  rw [gl_cc9_1] at h
  exact cls
 rintro t o pq
 refine pnq pq ?_
 exact cls
theorem d_ci9 : OkC [(c_cs9 rounds), c_cc9] c_ci9 if_ci9 ks_ci9 := by
 refine ok fun G H a0 r h => ?_
 refine st1 fun bs t o => ?_
 dsimp only [gf_ci9] at h
 try (refine gx ?_; intros; rename_i h)
 obtain ⟨hf, h⟩ := gd h
 obtain ⟨q192, hq, h⟩ := bnd h
 refine w_lastK [] [] (fun K J t o => PP ((3, .v (.string q192)) :: K) J t o) ?_ ?_
 ·refine w_lpL (xs := a0) [0] [] 0 hf (fun K J l197 k195 t o => ∃ v193, gl_ci9_4 l197 k195 v193 = some q192 ∧ PP ((3, .v (.string v193)) :: (4, .v (.int .i64 (k195 : Int))) :: K) J t o) ?_ ?_ ?_
  ·exact ⟨_, hq, pin, pinh⟩
  ·rintro k195 t o hlt ⟨v193, h, pq⟩
   refine pn pq ?_
   rw [gl_ci9_4] at h
   exact cls
  rintro x196 l197 k195 t o hlt hx201 hw hd ⟨v193, h, pq⟩
  refine pn pq ?_
  rw [gl_ci9_4] at h
  refine gx fun x204 h205 x206 h207 => ?_; intros; rename_i h
  obtain ⟨hf, h⟩ := gd h
  obtain ⟨q234, hq, h⟩ := bnd h
  refine w_lastK [0, 4] [] (fun K J t o => PP ((3, .v (.string q234)) :: K) J t o) ?_ ?_
  ·refine w_lpL (xs := x196.up) [0, 4] [] 0 hf (fun K J l239 k237 t o => ∃ v235, gl_ci9_5 l239 k237 v235 = some q234 ∧ PP ((3, .v (.string v235)) :: (5, .v (.int .i64 (k237 : Int))) :: K) J t o) ?_ ?_ ?_
   ·exact ⟨_, hq, pin, pinh⟩
   ·rintro k237 t o hlt ⟨v235, h, pq⟩
    refine pn pq ?_
    rw [gl_ci9_5] at h
    exact cls
   rintro x238 l239 k237 t o hlt hx243 hw hd ⟨v235, h, pq⟩
   refine pn pq ?_
   rw [gl_ci9_5] at h
   exact cls
  rintro t o pq
  refine pnq pq ?_
  exact cls
 rintro t o pq
 refine pnq pq ?_
 exact cls

theorem d_aa9 : OkC [c_ag9] c_aa9 if_aa9 ks_aa9 := by
 refine ok fun G H a0 r h => ?_
 refine st1 fun bs t o => ?_
 dsimp only [gf_aa9] at h
 exact cls
theorem d_bc9 : OkC [] c_bc9 if_bc9 ks_bc9 := by
 refine ok fun G H a0 r h => ?_
 refine st1 fun bs t o => ?_
 dsimp only [gf_bc9] at h
 exact cls
theorem d_bg9 : OkC [c_bc9, c_af9] c_bg9 if_bg9 ks_bg9 := by
 refine ok fun G H ⟨a0, a1, a2⟩ r h => ?_
 refine st1 fun bs t o => ?_
 dsimp only [gf_bg9] at h
 exact cls
theorem d_ac9 : OkC [c_aw9, c_bg9, c_aa9] c_ac9 if_ac9 ks_ac9 := by
 refine ok fun G H a0 r h => ?_
 refine st1 fun bs t o => ?_
 dsimp only [gf_ac9] at h
 try (refine gx ?_; intros; rename_i h)
 obtain ⟨hf, h⟩ := gd h
 obtain ⟨q51, hq, h⟩ := bnd h
 refine w_lastK [0] [] (fun K J t o => ∃ q51_, q51 = .inr q51_ ∧ PP K J t o) ?_ ?_
 ·have ho1 := h
  refine w_lpL (xs := a0) [0, 5, 6] [] 0 hf (fun K J l55 k53 t o => gl_ac9_1 a0 l55 k53  = some q51 ∧ PP ((7, .v (.int .i64 (k53 : Int))) :: K) J t o) ?_ ?_ ?_
  ·exact ⟨hq, pin, pinh⟩
  ·rintro k53 t o hlt ⟨h, pq⟩
   refine pn pq ?_
   rw [gl_ac9_1] at h
   exact cls
  rintro x54 l55 k53 t o hlt hx59 hw hd ⟨h, pq⟩
  refine pn pq ?_
  rw [gl_ac9_1] at h
  exact cls
 rintro t o ⟨q51, rfl, pq⟩
 refine pnq pq ?_
 exact cls
end Go.Proofs.AM
