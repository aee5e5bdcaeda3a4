/- Lemmas of the proof (QAF3), on an abstract machine. Conditions: none. -/
import Derived.Test.YtodmjmkakgamlaaGreatQAD
set_option linter.unusedVariables false
set_option maxRecDepth 100000
set_option maxHeartbeats 4000000
namespace Go.Proofs.AM
attribute [local irreducible] vwp vstps vstpLs vstp vdo vret kseq kblk kloop kend kcut kloop2 frzV renV shutK pfzV trnV unrV
theorem d_bd9 : OkC [c_ay9, c_au9] c_bd9 if_bd9 ks_bd9 := by
 refine ok fun G H ⟨a0, a1⟩ r h => ?_
 refine st1 fun bs t o => ?_
 dsimp only [gf_bd9] at h
 exact cls
theorem d_av9 : OkC [c_at9] c_av9 if_av9 ks_av9 := by
 refine ok fun G H a0 r h => ?_
 refine st1 fun bs t o => ?_
 dsimp only [gf_av9] at h
 refine gx fun h7 => ?_; intros; rename_i h
 obtain ⟨hf, h⟩ := gd h
 obtain ⟨q53, hq, h⟩ := bnd h
 refine w_lastK [2] [1000256, 1000257, 16] (fun K J t o => ∃ b80 c81 b5 c6 b82, PP ((3, .ptr 24 b82 210 0 0) :: K) ((1000384, ent b80 c81 115 (List.map (eCommit true) q53)) :: (1000385, ent b5 c6 130 (List.map eHead ([] ++ a0.heads))) :: (24, ⟨b82, 1, 210, true, [[.al 1000384 b80 c81 0 q53.length 115, .al 1000385 b5 c6 0 ([] ++ a0.heads).length 130]]⟩) :: J) t o) ?_ ?_
 ·refine w_lpL (xs := a0.commits) [2, 13, 14] [1000256, 1000257, 16] 0 hf (fun K J l61 k59 t o => ∃ v55 b56 c57 b5 c6 b58, gl_av9_1 l61 k59 v55 = some q53 ∧ PP ((3, .ptr 24 b58 210 0 0) :: (15, .v (.int .i64 (k59 : Int))) :: K) ((1000384, ent b56 c57 115 (List.map (eCommit true) v55)) :: (1000385, ent b5 c6 130 (List.map eHead ([] ++ a0.heads))) :: (24, ⟨b58, 1, 210, true, [[.al 1000384 b56 c57 0 v55.length 115, .al 1000385 b5 c6 0 ([] ++ a0.heads).length 130]]⟩) :: J) t o) ?_ ?_ ?_
  ·exact ⟨_, _, _, _, _, _, hq, pin, pinh⟩
  ·rintro k59 t o hlt ⟨v55, b56, c57, b5, c6, b58, h, pq⟩
   refine pn pq ?_
   rw [gl_av9_1] at h
   exact cls
  rintro x60 l61 k59 t o hlt hx65 hw hd ⟨v55, b56, c57, b5, c6, b58, h, pq⟩
  refine pn pq ?_
  rw [gl_av9_1] at h
  exact cls
 rintro t o ⟨b80, c81, b5, c6, b82, pq⟩
 refine pnq pq ?_
 exact cls
theorem d_cp9 : OkC [] c_cp9 if_cp9 ks_cp9 := by
 refine ok fun G H ⟨a0, g0, g1⟩ r h => ?_
 refine st1 fun bs t o => ?_
 dsimp only [gf_cp9] at h
 try (refine gx ?_; intros; rename_i h)
 obtain ⟨x1, h2, h⟩ := bnd h
 refine r_slsraw (f := eU8) rfl rfl rfl h2 ?_
 exact cls
theorem d_cs9 : OkC [] c_cs9 if_cs9 ks_cs9 := by
 refine ok fun G H ⟨a0, a1, g0, g1⟩ r h => ?_
 refine st1 fun bs t o => ?_
 dsimp only [gf_cs9] at h
 refine go ?_;intros
 refine s_split rfl (fun c => ?_) (fun c => ?_)
 ·replace h := itt h c
  rw [c]
  refine go ?_;intros
  cases h
  exact r_endg
 replace h := itf h c
 rw [c]
 refine go ?_;intros
 refine w_cond rfl (fun c => ?_) (fun c => ?_)
 ·replace h := itt h (by first | exact c | (have c2 := c; simp only [List.length_map] at c2; exact c2))
  try rw [c]
  refine go ?_;intros
  cases h
  exact r_endg
 replace h := itf h (by first | exact c | (have c2 := c; simp only [List.length_map] at c2; exact c2))
 try rw [c]
 refine go ?_;intros
 refine w_cond rfl (fun c => ?_) (fun c => ?_)
 ·replace h := itt h (by first | exact c | (have c2 := c; simp only [List.length_map] at c2; exact c2))
  try rw [c]
  obtain ⟨x1, h2, h⟩ := bnd h
  refine go ?_;intros
  refine r_iro rfl rfl h2 rfl ?_
  obtain ⟨x3, h4, h⟩ := bnd h
  refine go ?_;intros
  refine r_imod rfl rfl h4 ?_
  refine go ?_;intros
  cases h
  exact r_endg
 replace h := itf h (by first | exact c | (have c2 := c; simp only [List.length_map] at c2; exact c2))
 try rw [c]
 obtain ⟨x5, h6, h⟩ := bnd h
 refine go ?_;intros
 refine r_imod rfl rfl h6 ?_
 obtain ⟨x7, h8, h⟩ := bnd h
 refine go ?_;intros
 refine r_iro rfl rfl h8 rfl ?_
 obtain ⟨x9, h10, h⟩ := bnd h
 refine go ?_;intros
 refine r_imod rfl rfl h10 ?_
 obtain ⟨x11, h12, h⟩ := bnd h
 refine go ?_;intros
 refine r_iro rfl rfl h12 rfl ?_
 obtain ⟨x13, h14, h⟩ := bnd h
 refine go ?_;intros
 refine r_idiv rfl rfl h14 ?_
 refine go ?_;intros
 refine r_ixor rfl rfl ?_
 obtain ⟨x15, h16, h⟩ := bnd h
 refine go ?_;intros
 refine r_imod rfl rfl h16 ?_
 refine go ?_;intros
 cases h
 exact r_endg
theorem d_cr9 : OkC [c_cs9] c_cr9 if_cr9 ks_cr9 := by
 refine ok fun G H ⟨a0, a1, g0, g1⟩ r h => ?_
 refine st1 fun bs t o => ?_
 dsimp only [gf_cr9] at h
 exact cls
theorem d_de9 : OkC [c_cr9] c_de9 if_de9 ks_de9 := by
 refine ok fun G H ⟨a0, g0, g1⟩ r h => ?_
 refine st1 fun bs t o => ?_
 dsimp only [gf_de9] at h
 exact cls
theorem d_df9 : OkC [c_cr9] c_df9 if_df9 ks_df9 := by
 refine ok fun G H ⟨a0, g0, g1⟩ r h => ?_
 refine st1 fun bs t o => ?_
 dsimp only [gf_df9] at h
 exact cls
theorem d_dj9 : OkC [c_cr9] c_dj9 if_dj9 ks_dj9 := by
 refine ok fun G H ⟨a0, g0, g1⟩ r h => ?_
 refine st1 fun bs t o => ?_
 dsimp only [gf_dj9] at h
 exact cls
theorem d_cq9 : OkC [c_cs9] c_cq9 if_cq9 ks_cq9 := by
 refine ok fun G H ⟨a0, a1, g0, g1⟩ r h => ?_
 refine st1 fun bs t o => ?_
 dsimp only [gf_cq9] at h
 exact cls
theorem d_cx9 : OkC [c_cs9, c_cq9] c_cx9 if_cx9 ks_cx9 := by
 refine ok fun G H ⟨a0, g0, g1⟩ r h => ?_
 refine st1 fun bs t o => ?_
 dsimp only [gf_cx9] at h
 exact cls
theorem d_cv9 : OkC [] c_cv9 if_cv9 ks_cv9 := by
 refine ok fun G H ⟨a0, a1⟩ r h => ?_
 refine st1 fun bs t o => ?_
 dsimp only [gf_cv9] at h
 exact cls
theorem d_da9 : OkC [c_cq9, c_cs9, c_cv9, c_cx9, c_ck9] c_da9 if_da9 ks_da9 := by
 refine ok fun G H ⟨a0, g0, g1⟩ r h => ?_
 have H_cq9 := H _ (.head _)
 have H_cs9 := H _ (.tail _ (.head _))
 have H_cv9 := H _ (.tail _ (.tail _ (.head _)))
 have H_cx9 := H _ (.tail _ (.tail _ (.tail _ (.head _))))
 have H_ck9 := H _ (.tail _ (.tail _ (.tail _ (.tail _ (.head _)))))
 refine st1 fun bs t o => ?_
 dsimp only [gf_da9] at h
 obtain ⟨x3, h4, h⟩ := bnd h
 refine go ?_;intros
 refine c_callg (c := c_cq9) (a0, ([1, 2, 2, 3, 3] : (List Int)), g0, g1) H_cq9 h4 fun ch => ?_
 obtain ⟨x6, h7, h⟩ := bnd h
 refine go ?_;intros
 refine c_callg (c := c_cs9) ((⟨a0.b, x3.2⟩ : Rd), 4, g0, g1) H_cs9 h7 fun ch => ?_
 obtain ⟨q8, h159, h⟩ := bnd h
 refine go ?_;intros
 refine w_cut (fun t o => ∃ b10 c11 b12 b13 c14 b15, Pin t (ovr [(0, .ptr 0 (bs 0).1 290 0 0), (2, .ptr 16 b12 226 0 0), (3, .ptr 24 b15 226 0 0), (4, .v (.int .i64 q8))] t) ∧ PinH o (ovh [(0, ⟨(bs 0).1, (bs 0).2, 290, true, [[.rw g0 g1 (List.map eU8 a0.b), .v (.int .i64 x6.2)]]⟩), (1000257, ent b10 c11 66 (List.map ePt [])), (16, ⟨b12, 1, 226, true, [[.v (.int .i64 0), .al 1000257 b10 c11 0 ([] : List Pt).length 66]]⟩), (1000385, ent b13 c14 66 (List.map ePt [])), (24, ⟨b15, 1, 226, true, [[.v (.int .i64 x3.1), .al 1000385 b13 c14 0 ([] : List Pt).length 66]]⟩)] o)) ?_ ?_
 ·refine go ?_;intros
  refine w_cond rfl (fun c => ?_) (fun c => ?_)
  ·replace h159 := itt h159 c
   try rw [c]
   refine go ?_;intros
   cases h159
   exact k_cn ⟨_, _, _, _, _, _, pin, pinh⟩
  replace h159 := itf h159 c
  try rw [c]
  refine go ?_;intros
  cases h159
  exact k_cn ⟨_, _, _, _, _, _, pin, pinh⟩
 rintro t o ⟨b10, c11, b12, b13, c14, b15, pq1, pq2⟩
 refine pinned pq1 pq2 ?_
 obtain ⟨q109, h160, h⟩ := bnd h
 refine go ?_;intros
 refine w_last (fun t o => ∃ b147 c148 b149 b151 c152 b153, Pin t (ovr [(0, .ptr 0 (bs 0).1 290 0 0), (2, .ptr 16 b149 226 0 0), (3, .ptr 24 b153 226 0 0)] t) ∧ PinH o (ovh [(0, ⟨(bs 0).1, (bs 0).2, 290, true, [[.rw g0 g1 (List.map eU8 a0.b), .v (.int .i64 q109.1)]]⟩), (1000257, ent b147 c148 66 (List.map ePt [])), (16, ⟨b149, 1, 226, true, [[.v (.int .i64 0), .al 1000257 b147 c148 0 ([] : List Pt).length 66]]⟩), (1000385, ent b151 c152 66 (List.map ePt q109.2)), (24, ⟨b153, 1, 226, true, [[.v (.int .i64 x3.1), .al 1000385 b151 c152 0 q109.2.length 66]]⟩)] o)) ?_ ?_
 ·refine w_loop2 (fun n t o => ∃ n119 v110 v111 v115 b112 c113 b114 b116 c117 b118, gl_da9_1 q8 a0 x3 n119 v110 v111 v115 = some q109 ∧ n119 = n ∧ Pin t (ovr [(0, .ptr 0 (bs 0).1 290 0 0), (2, .ptr 16 b114 226 0 0), (3, .ptr 24 b118 226 0 0), (4, .v (.int .i64 q8)), (5, .v (.int .i64 v110))] t) ∧ PinH o (ovh [(0, ⟨(bs 0).1, (bs 0).2, 290, true, [[.rw g0 g1 (List.map eU8 a0.b), .v (.int .i64 v111)]]⟩), (1000257, ent b112 c113 66 (List.map ePt [])), (16, ⟨b114, 1, 226, true, [[.v (.int .i64 0), .al 1000257 b112 c113 0 ([] : List Pt).length 66]]⟩), (1000385, ent b116 c117 66 (List.map ePt v115)), (24, ⟨b118, 1, 226, true, [[.v (.int .i64 x3.1), .al 1000385 b116 c117 0 v115.length 66]]⟩)] o)) _ ⟨_, _, _, _, _, _, _, _, _, _, h160, rfl, pin, pinh⟩ ?_
  rintro n t o ⟨n119, v110, v111, v115, b112, c113, b114, b116, c117, b118, h160, rfl, pq1, pq2⟩
  refine pinned pq1 pq2 ?_
  cases n119 with
  | zero => rw [gl_da9_1] at h160; cases h160
  | succ n119 =>
   rw [gl_da9_1] at h160
   refine go ?_;intros
   refine s_split rfl (fun c => ?_) (fun c => ?_)
   ·replace h160 := itt h160 c
    rw [c]
    obtain ⟨x120, h121, h160⟩ := bnd h160
    refine go ?_;intros
    refine c_call (c := c_cv9) (q8, 6) H_cv9 h121 fun ch => ?_
    refine go ?_;intros
    refine w_cond rfl (fun c => ?_) (fun c => ?_)
    ·replace h160 := itt h160 (by first | exact c | (have c2 := c; simp only [List.length_map] at c2; exact c2))
     try rw [c]
     obtain ⟨x122, h123, h160⟩ := bnd h160
     refine go ?_;intros
     refine c_callg (c := c_cx9) ((⟨a0.b, v111⟩ : Rd), g0, g1) H_cx9 h123 fun ch => ?_
     obtain ⟨q129, h161, h160⟩ := bnd h160
     refine go ?_;intros
     refine w_cut (fun t o => ∃ b135 c136 b137 b138 c139 b140 b141, Pin t (ovr [(0, .ptr 0 (bs 0).1 290 0 0), (2, .ptr 16 b137 226 0 0), (3, .ptr 24 b140 226 0 0), (4, .v (.int .i64 q8)), (5, .v (.int .i64 v110)), (6, .ptr 48 b141 66 0 0), (23, .ptr 24 b140 226 0 1), (24, .ref 1000385 b138 c139 0 v115.length 66), (25, .v (.int .i64 (v115.length : Int))), (26, .v (.int .i64 q8)), (27, .v (.int .i64 x120)), (28, .v (.bool true)), (61, .v (.bool q129))] t) ∧ PinH o (ovh [(0, ⟨(bs 0).1, (bs 0).2, 290, true, [[.rw g0 g1 (List.map eU8 a0.b), .v (.int .i64 x122.2)]]⟩), (1000257, ent b135 c136 66 (List.map ePt [])), (16, ⟨b137, 1, 226, true, [[.v (.int .i64 0), .al 1000257 b135 c136 0 ([] : List Pt).length 66]]⟩), (1000385, ent b138 c139 66 (List.map ePt v115)), (24, ⟨b140, 1, 226, true, [[.v (.int .i64 x3.1), .al 1000385 b138 c139 0 v115.length 66]]⟩), (48, ⟨b141, 1, 66, true, [[.v (.int .i64 x122.1.x), .v (.int .i64 x122.1.y)]]⟩)] o)) ?_ ?_
     ·refine go ?_;intros
      refine s_split rfl (fun c => ?_) (fun c => ?_)
      ·replace h161 := itt h161 (by first | exact c | (have c2 := c; simp only [List.length_map] at c2; exact c2))
       rw [c]
       refine go ?_;intros
       cases h161
       exact k_cn ⟨_, _, _, _, _, _, _, pin, pinh⟩
      replace h161 := itf h161 (by first | exact c | (have c2 := c; simp only [List.length_map] at c2; exact c2))
      rw [c]
      obtain ⟨x130, h131, h161⟩ := bnd h161
      refine go ?_;intros
      refine r_ire (xs := v115) rfl rfl h131 rfl ?_
      refine go ?_;intros
      refine r_lde (f := ePt) (xs := v115) (x := x130) rfl rfl (idx_get h131).2 rfl rfl rfl ?_
      refine go ?_;intros
      refine s_split rfl (fun c => ?_) (fun c => ?_)
      ·replace h161 := itt h161 c
       rw [c]
       refine go ?_;intros
       refine s_split rfl (fun c => ?_) (fun c => ?_)
       ·replace h161 := itt h161 c
        rw [c]
        refine go ?_;intros
        cases h161
        exact k_cn ⟨_, _, _, _, _, _, _, pin, pinh⟩
       replace h161 := itf h161 c
       rw [c]
       obtain ⟨x132, h133, h161⟩ := bnd h161
       refine go ?_;intros
       refine r_ire (xs := v115) rfl rfl h133 rfl ?_
       refine go ?_;intros
       refine r_lde (f := ePt) (xs := v115) (x := x132) rfl rfl (idx_get h133).2 rfl rfl rfl ?_
       refine go ?_;intros
       cases h161
       exact k_cn ⟨_, _, _, _, _, _, _, pin, pinh⟩
      replace h161 := itf h161 c
      rw [c]
      refine go ?_;intros
      cases h161
      exact k_cn ⟨_, _, _, _, _, _, _, pin, pinh⟩
     rintro t o ⟨b135, c136, b137, b138, c139, b140, b141, pq1, pq2⟩
     refine pinned pq1 pq2 ?_
     refine go ?_;intros
     refine w_cond rfl (fun c => ?_) (fun c => ?_)
     ·replace h160 := itt h160 c
      try rw [c]
      obtain ⟨h145, h160⟩ := gd h160
      refine go ?_;intros
      refine r_app (f := ePt) (xs := v115) (ys := ([x122.1] : (List Pt))) rfl (src_mv rfl rfl (by first | rfl | simp)) rfl rfl (by first | rfl | simp) h145 fun b143 c144 => ?_
      refine go ?_;intros
      exact k_ln2 _ (Nat.lt_succ_self _) ⟨_, _, _, _, _, _, _, _, _, _, h160, rfl, pin, pinh⟩
     replace h160 := itf h160 c
     try rw [c]
     refine go ?_;intros
     exact k_ln2 _ (Nat.lt_succ_self _) ⟨_, _, _, _, _, _, _, _, _, _, h160, rfl, pin, pinh⟩
    replace h160 := itf h160 (by first | exact c | (have c2 := c; simp only [List.length_map] at c2; exact c2))
    try rw [c]
    refine go ?_;intros
    cases h160
    exact k_cn ⟨_, _, _, _, _, _, pin, pinh⟩
   replace h160 := itf h160 c
   rw [c]
   refine go ?_;intros
   cases h160
   exact k_cn ⟨_, _, _, _, _, _, pin, pinh⟩
 rintro t o ⟨b147, c148, b149, b151, c152, b153, pq1, pq2⟩
 refine pinnedQ pq1 pq2 ?_
 obtain ⟨x154, h155, h⟩ := bnd h
 refine go ?_;intros
 refine c_call (c := c_ck9) ((⟨x3.1, q109.2⟩ : Shape)) H_ck9 h155 fun ch => ?_
 refine go ?_;intros
 refine w_cond rfl (fun c => ?_) (fun c => ?_)
 ·replace h := itt h c
  try rw [c]
  obtain ⟨x156, h157, h⟩ := bnd h
  refine go ?_;intros
  refine c_callg (c := c_cx9) ((⟨a0.b, q109.1⟩ : Rd), g0, g1) H_cx9 h157 fun ch => ?_
  refine go ?_;intros
  cases h
  exact r_endg
 replace h := itf h c
 try rw [c]
 refine go ?_;intros
 cases h
 exact r_endg
end Go.Proofs.AM
