/- Lemmas of the proof (QAF5), on an abstract machine. Conditions: none. -/
import Derived.Test.YtodmjmkakgamlaaGreatQAD
set_option linter.unusedVariables false
set_option maxRecDepth 100000
set_option maxHeartbeats 4000000
namespace Go.Proofs.AM
attribute [local irreducible] vwp vstps vstpLs vstp vdo vret kseq kblk kloop kend kcut kloop2 frzV renV shutK pfzV trnV unrV
theorem d_ci9 : OkC [c_co9] c_ci9 if_ci9 ks_ci9 := by
 refine ok fun G H a0 r h => ?_
 refine st1 fun bs t o => ?_
 dsimp only [gf_ci9] at h
 exact cls
theorem d_ch9 : OkC [c_cj9, c_co9, c_ec9, c_ef9] c_ch9 if_ch9 ks_ch9 := by
 refine ok fun G H ⟨a0, a1, a2⟩ r h => ?_
 refine st1 fun bs t o => ?_
 dsimp only [gf_ch9] at h
 refine gx fun x3 h4 x5 h6 => ?_; intros; rename_i h
 obtain ⟨q7, hq, h⟩ := bnd h
 refine w_cutK [1, 2, 3, 6] [24, 1000768, 1000769, 48] (fun K J t o => ∃ b16 c17 b19 c20 b21, PP ((8, .ptr 64 b21 210 0 0) :: K) ((1001024, ent b16 c17 115 (List.map (eCommit true) q7.1)) :: (1001025, ent b19 c20 130 (List.map eHead q7.2)) :: (64, ⟨b21, 1, 210, true, [[.al 1001024 b16 c17 0 q7.1.length 115, .al 1001025 b19 c20 0 q7.2.length 130]]⟩) :: J) t o) ?_ ?_
 ·have h := hq
  exact cls
 rintro t o ⟨b16, c17, b19, c20, b21, pq⟩
 refine pn pq ?_
 exact cls
theorem d_eh9 : OkC [c_cr9] c_eh9 if_eh9 ks_eh9 := by
 refine ok fun G H ⟨a0, g0, g1⟩ r h => ?_
 refine st1 fun bs t o => ?_
 dsimp only [gf_eh9] at h
 exact cls
theorem d_dm9 : OkC [] c_dm9 if_dm9 ks_dm9 := by
 refine ok fun G H ⟨a0, a1⟩ r h => ?_
 refine st1 fun bs t o => ?_
 dsimp only [gf_dm9] at h
 try (refine gx ?_; intros; rename_i h)
 obtain ⟨hf, h⟩ := gd h
 obtain ⟨q24, hq, h⟩ := bnd h
 refine w_lastK [] [] (fun K J t o => ∃ b43 c44, PP ((5, .ref 56 b43 c44 0 q24.length 100) :: K) ((56, ent b43 c44 100 (List.map (eFeat false) q24)) :: J) t o) ?_ ?_
 ·refine w_lpL (xs := a0) [0, 1] [] 0 hf (fun K J l31 k29 t o => ∃ v26 b27 c28, gl_dm9_1 a1 l31 k29 v26 = some q24 ∧ PP ((5, .ref 56 b27 c28 0 v26.length 100) :: (6, .v (.int .i64 (k29 : Int))) :: K) ((56, ent b27 c28 100 (List.map (eFeat false) v26)) :: J) t o) ?_ ?_ ?_
  ·exact ⟨_, _, _, hq, pin, pinh⟩
  ·rintro k29 t o hlt ⟨v26, b27, c28, h, pq⟩
   refine pn pq ?_
   rw [gl_dm9_1] at h
   exact cls
  rintro x30 l31 k29 t o hlt hx35 hw hd ⟨v26, b27, c28, h, pq⟩
  refine pn pq ?_
  rw [gl_dm9_1] at h
  exact cls
 rintro t o ⟨b43, c44, pq⟩
 refine pnq pq ?_
 exact cls
theorem d_dr9 : OkC [c_cs9, c_cx9, c_ck9] c_dr9 if_dr9 ks_dr9 := by
 refine ok fun G H ⟨a0, a1, g0, g1⟩ r h => ?_
 have H_cs9 := H _ (.head _)
 have H_cx9 := H _ (.tail _ (.head _))
 have H_ck9 := H _ (.tail _ (.tail _ (.head _)))
 refine st1 fun bs t o => ?_
 dsimp only [gf_dr9] at h
 refine go ?_;intros
 refine w_cond rfl (fun c => ?_) (fun c => ?_)
 ·replace h := itt h (by first | exact c | (have c2 := c; simp only [List.length_map] at c2; exact c2))
  try rw [c]
  refine go ?_;intros
  cases h
  exact r_endg
 replace h := itf h (by first | exact c | (have c2 := c; simp only [List.length_map] at c2; exact c2))
 try rw [c]
 obtain ⟨x3, h4, h⟩ := bnd h
 refine go ?_;intros
 refine c_callg (c := c_cs9) (a0, (a1.pts.length : Int), g0, g1) H_cs9 h4 fun ch => ?_
 obtain ⟨x6, h7, h⟩ := bnd h
 refine go ?_;intros
 refine r_sls (f := ePt) rfl rfl rfl h7 (fun _ => rfl) ?_
 obtain ⟨h10, h⟩ := gd h
 refine go ?_;intros
 refine r_app (f := ePt) (xs := ([] : (List Pt))) (ys := x6) rfl (src_ro (fun _ => rfl) (fun _ => rfl)) rfl rfl (by first | rfl | simp) h10 fun b8 c9 => ?_
 obtain ⟨q40, h81, h⟩ := bnd h
 refine go ?_;intros
 refine w_cut (fun t o => ∃ b70 b71 c72 b73 b75 c76, Pin t (ovr [(3, .ptr 24 b70 226 0 0), (4, .ptr 32 b73 226 0 0), (6, .ref 144 b75 c76 0 q40.1.length 66)] t) ∧ PinH o (ovh [(24, ⟨b70, 1, 226, true, [[.v (.int .i64 a1.kind), .sl false 2 (List.map ePt a1.pts)]]⟩), (1000513, ent b71 c72 66 (List.map ePt [])), (32, ⟨b73, 1, 226, true, [[.v (.int .i64 0), .al 1000513 b71 c72 0 ([] : List Pt).length 66]]⟩), (144, ent b75 c76 66 (List.map ePt q40.1)), (0, ⟨(bs 0).1, (bs 0).2, 290, true, [[.rw g0 g1 (List.map eU8 a0.b), .v (.int .i64 q40.2)]]⟩)] o)) ?_ ?_
 ·obtain ⟨x41, h42, h81⟩ := bnd h81
  refine go ?_;intros
  refine c_callg (c := c_cs9) ((⟨a0.b, x3.2⟩ : Rd), 3, g0, g1) H_cs9 h42 fun ch => ?_
  refine go ?_;intros
  refine w_cond rfl (fun c => ?_) (fun c => ?_)
  ·replace h81 := itt h81 c
   try rw [c]
   obtain ⟨x43, h44, h81⟩ := bnd h81
   refine go ?_;intros
   refine c_callg (c := c_cx9) ((⟨a0.b, x41.2⟩ : Rd), g0, g1) H_cx9 h44 fun ch => ?_
   obtain ⟨h48, h81⟩ := gd h81
   refine go ?_;intros
   refine r_app (f := ePt) (xs := ([] ++ x6)) (ys := ([x43.1] : (List Pt))) rfl (src_mv rfl rfl (by first | rfl | simp)) rfl rfl (by first | rfl | simp) h48 fun b46 c47 => ?_
   obtain ⟨x49, h50, h81⟩ := bnd h81
   refine go ?_;intros
   refine r_sls (f := ePt) rfl rfl rfl h50 (fun _ => rfl) ?_
   obtain ⟨h53, h81⟩ := gd h81
   refine go ?_;intros
   refine r_app (f := ePt) (xs := (([] ++ x6) ++ ([x43.1] : (List Pt)))) (ys := x49) rfl (src_ro (fun _ => rfl) (fun _ => rfl)) rfl rfl (by first | rfl | simp) h53 fun b51 c52 => ?_
   refine go ?_;intros
   cases h81
   exact k_cn ⟨_, _, _, _, _, _, pin, pinh⟩
  replace h81 := itf h81 c
  try rw [c]
  refine go ?_;intros
  refine w_cond rfl (fun c => ?_) (fun c => ?_)
  ·replace h81 := itt h81 c
   try rw [c]
   obtain ⟨x54, h55, h81⟩ := bnd h81
   refine go ?_;intros
   refine r_sls (f := ePt) rfl rfl rfl h55 (fun _ => rfl) ?_
   obtain ⟨h58, h81⟩ := gd h81
   refine go ?_;intros
   refine r_app (f := ePt) (xs := ([] ++ x6)) (ys := x54) rfl (src_ro (fun _ => rfl) (fun _ => rfl)) rfl rfl (by first | rfl | simp) h58 fun b56 c57 => ?_
   refine go ?_;intros
   cases h81
   exact k_cn ⟨_, _, _, _, _, _, pin, pinh⟩
  replace h81 := itf h81 c
  try rw [c]
  obtain ⟨x59, h60, h81⟩ := bnd h81
  refine go ?_;intros
  refine c_callg (c := c_cx9) ((⟨a0.b, x41.2⟩ : Rd), g0, g1) H_cx9 h60 fun ch => ?_
  obtain ⟨h64, h81⟩ := gd h81
  refine go ?_;intros
  refine r_app (f := ePt) (xs := ([] ++ x6)) (ys := ([x59.1] : (List Pt))) rfl (src_mv rfl rfl (by first | rfl | simp)) rfl rfl (by first | rfl | simp) h64 fun b62 c63 => ?_
  obtain ⟨x65, h66, h81⟩ := bnd h81
  refine go ?_;intros
  refine r_sls (f := ePt) rfl rfl rfl h66 (fun _ => rfl) ?_
  obtain ⟨h69, h81⟩ := gd h81
  refine go ?_;intros
  refine r_app (f := ePt) (xs := (([] ++ x6) ++ ([x59.1] : (List Pt)))) (ys := x65) rfl (src_ro (fun _ => rfl) (fun _ => rfl)) rfl rfl (by first | rfl | simp) h69 fun b67 c68 => ?_
  refine go ?_;intros
  cases h81
  exact k_cn ⟨_, _, _, _, _, _, pin, pinh⟩
 rintro t o ⟨b70, b71, c72, b73, b75, c76, pq1, pq2⟩
 refine pinned pq1 pq2 ?_
 obtain ⟨x79, h80, h⟩ := bnd h
 refine go ?_;intros
 refine c_call (c := c_ck9) ((⟨a1.kind, q40.1⟩ : Shape)) H_ck9 h80 fun ch => ?_
 refine go ?_;intros
 refine w_cond rfl (fun c => ?_) (fun c => ?_)
 ·replace h := itt h c
  try rw [c]
  refine go ?_;intros
  cases h
  exact r_endg
 replace h := itf h c
 try rw [c]
 refine go ?_;intros
 refine r_frz ?_
 refine go ?_;intros
 refine c_fz ?_
 refine go ?_;intros
 cases h
 exact r_endg
theorem d_dw9 : OkC [c_cs9, c_de9, c_dn9, c_dd9, c_do9, c_dm9, c_dc9, c_df9, c_dj9, c_dg9, c_dr9, c_cm9] c_dw9 if_dw9 ks_dw9 := by
 refine ok fun G H ⟨a0, a1, g0, g1⟩ r h => ?_
 have H_cs9 := H _ (.head _)
 have H_de9 := H _ (.tail _ (.head _))
 have H_dn9 := H _ (.tail _ (.tail _ (.head _)))
 have H_dd9 := H _ (.tail _ (.tail _ (.tail _ (.head _))))
 have H_do9 := H _ (.tail _ (.tail _ (.tail _ (.tail _ (.head _)))))
 have H_dm9 := H _ (.tail _ (.tail _ (.tail _ (.tail _ (.tail _ (.head _))))))
 have H_dc9 := H _ (.tail _ (.tail _ (.tail _ (.tail _ (.tail _ (.tail _ (.head _)))))))
 have H_df9 := H _ (.tail _ (.tail _ (.tail _ (.tail _ (.tail _ (.tail _ (.tail _ (.head _))))))))
 have H_dj9 := H _ (.tail _ (.tail _ (.tail _ (.tail _ (.tail _ (.tail _ (.tail _ (.tail _ (.head _)))))))))
 have H_dg9 := H _ (.tail _ (.tail _ (.tail _ (.tail _ (.tail _ (.tail _ (.tail _ (.tail _ (.tail _ (.head _))))))))))
 have H_dr9 := H _ (.tail _ (.tail _ (.tail _ (.tail _ (.tail _ (.tail _ (.tail _ (.tail _ (.tail _ (.tail _ (.head _)))))))))))
 have H_cm9 := H _ (.tail _ (.tail _ (.tail _ (.tail _ (.tail _ (.tail _ (.tail _ (.tail _ (.tail _ (.tail _ (.tail _ (.head _))))))))))))
 refine st1 fun bs t o => ?_
 dsimp only [gf_dw9] at h
 obtain ⟨x1, h2, h⟩ := bnd h
 refine go ?_;intros
 refine c_callg (c := c_cs9) (a0, 3, g0, g1) H_cs9 h2 fun ch => ?_
 obtain ⟨q210, h287, h⟩ := bnd h
 refine go ?_;intros
 refine w_last (fun t o => Pin t (ovr [(1, .ro (List.map (eFeat false) a1)), (5, .ro (List.map (eFeat false) q210.1))] t) ∧ PinH o (ovh [(0, ⟨(bs 0).1, (bs 0).2, 290, true, [[.rw g0 g1 (List.map eU8 a0.b), .v (.int .i64 q210.2)]]⟩)] o)) ?_ ?_
 ·refine w_loop2 (fun n t o => ∃ n214 v211 v212 v213 , gl_dw9_1 a0 n214 v211 v212 v213 = some q210 ∧ n214 = n ∧ Pin t (ovr [(0, .ptr 0 (bs 0).1 290 0 0), (1, .ro (List.map (eFeat false) a1)), (5, .ro (List.map (eFeat false) v211)), (6, .v (.int .i64 v212))] t) ∧ PinH o (ovh [(0, ⟨(bs 0).1, (bs 0).2, 290, true, [[.rw g0 g1 (List.map eU8 a0.b), .v (.int .i64 v213)]]⟩)] o)) _ ⟨_, _, _, _, h287, rfl, pin, pinh⟩ ?_
  rintro n t o ⟨n214, v211, v212, v213, h287, rfl, pq1, pq2⟩
  refine pinned pq1 pq2 ?_
  cases n214 with
  | zero => rw [gl_dw9_1] at h287; cases h287
  | succ n214 =>
   rw [gl_dw9_1] at h287
   refine go ?_;intros
   refine w_cond rfl (fun c => ?_) (fun c => ?_)
   ·replace h287 := itt h287 c
    try rw [c]
    obtain ⟨x215, h216, h287⟩ := bnd h287
    refine go ?_;intros
    refine c_callg (c := c_de9) ((⟨a0.b, v213⟩ : Rd), g0, g1) H_de9 h216 fun ch => ?_
    obtain ⟨x217, h218, h287⟩ := bnd h287
    refine go ?_;intros
    refine c_call (c := c_dn9) (v211, x215.1) H_dn9 h218 fun ch => ?_
    refine go ?_;intros
    refine w_cond rfl (fun c => ?_) (fun c => ?_)
    ·replace h287 := itt h287 c
     try rw [c]
     refine go ?_;intros
     refine r_frz ?_
     obtain ⟨x219, h220, h287⟩ := bnd h287
     refine go ?_;intros
     refine c_callg (c := c_dd9) ((⟨a0.b, x215.2⟩ : Rd), x215.1, g0, g1) H_dd9 h220 fun ch => ?_
     refine go ?_;intros
     refine c_fz ?_
     refine go ?_;intros
     refine r_frz ?_
     obtain ⟨x225, h226, h287⟩ := bnd h287
     refine go ?_;intros
     refine c_call (c := c_do9) (v211, x219.1) H_do9 h226 fun ch => ?_
     refine go ?_;intros
     refine c_fz ?_
     refine go ?_;intros
     exact k_ln2 _ (Nat.lt_succ_self _) ⟨_, _, _, _, h287, rfl, pin, pinh⟩
    replace h287 := itf h287 c
    try rw [c]
    obtain ⟨x229, h230, h287⟩ := bnd h287
    refine go ?_;intros
    refine c_callg (c := c_cs9) ((⟨a0.b, x215.2⟩ : Rd), 4, g0, g1) H_cs9 h230 fun ch => ?_
    refine go ?_;intros
    refine w_cond rfl (fun c => ?_) (fun c => ?_)
    ·replace h287 := itt h287 c
     try rw [c]
     refine go ?_;intros
     refine r_frz ?_
     obtain ⟨x231, h232, h287⟩ := bnd h287
     refine go ?_;intros
     refine c_call (c := c_dm9) (v211, x215.1) H_dm9 h232 fun ch => ?_
     refine go ?_;intros
     refine c_fz ?_
     refine go ?_;intros
     exact k_ln2 _ (Nat.lt_succ_self _) ⟨_, _, _, _, h287, rfl, pin, pinh⟩
    replace h287 := itf h287 c
    try rw [c]
    obtain ⟨x235, h236, h287⟩ := bnd h287
    refine go ?_;intros
    refine c_callg (c := c_cs9) ((⟨a0.b, x229.2⟩ : Rd), 2, g0, g1) H_cs9 h236 fun ch => ?_
    refine go ?_;intros
    refine w_cond rfl (fun c => ?_) (fun c => ?_)
    ·replace h287 := itt h287 c
     try rw [c]
     obtain ⟨x237, h238, h287⟩ := bnd h287
     refine go ?_;intros
     refine r_iro rfl rfl h238 rfl ?_
     obtain ⟨x239, h240, h287⟩ := bnd h287
     refine go ?_;intros
     refine c_call (c := c_dc9) (x237) H_dc9 h240 fun ch => ?_
     obtain ⟨x246, h247, h287⟩ := bnd h287
     refine go ?_;intros
     refine c_callg (c := c_df9) ((⟨a0.b, x235.2⟩ : Rd), g0, g1) H_df9 h247 fun ch => ?_
     obtain ⟨x248, h249, h287⟩ := bnd h287
     refine go ?_;intros
     refine c_callg (c := c_dj9) ((⟨a0.b, x246.2⟩ : Rd), g0, g1) H_dj9 h249 fun ch => ?_
     obtain ⟨x250, h251, h287⟩ := bnd h287
     refine go ?_;intros
     refine c_call (c := c_dg9) (x239.tags, x246.1, x248.1) H_dg9 h251 fun ch => ?_
     refine go ?_;intros
     refine r_frz ?_
     refine go ?_;intros
     refine c_fz ?_
     refine go ?_;intros
     refine r_frz ?_
     obtain ⟨x254, h255, h287⟩ := bnd h287
     refine go ?_;intros
     refine c_call (c := c_do9) (v211, (⟨x239.id, x239.shape, x250⟩ : Feat)) H_do9 h255 fun ch => ?_
     refine go ?_;intros
     refine c_fz ?_
     refine go ?_;intros
     exact k_ln2 _ (Nat.lt_succ_self _) ⟨_, _, _, _, h287, rfl, pin, pinh⟩
    replace h287 := itf h287 c
    try rw [c]
    obtain ⟨q258, h288, h287⟩ := bnd h287
    refine go ?_;intros
    refine w_cut (fun t o => ∃ b269 c270 b272 c273 b276, Pin t (ovr [(0, .ptr 0 (bs 0).1 290 0 0), (1, .ro (List.map (eFeat false) a1)), (5, .ro (List.map (eFeat false) v211)), (6, .v (.int .i64 v212)), (10, .ptr 80 b276 100 0 0)] t) ∧ PinH o (ovh [(0, ⟨(bs 0).1, (bs 0).2, 290, true, [[.rw g0 g1 (List.map eU8 a0.b), .v (.int .i64 x235.2)]]⟩), (1001282, ent b269 c270 66 (List.map ePt q258.1)), (1001283, ent b272 c273 82 (List.map eTag q258.2.1)), (80, ⟨b276, 1, 100, true, [[.v (.string q258.2.2.1), .v (.int .i64 q258.2.2.2), .al 1001282 b269 c270 0 q258.1.length 66, .al 1001283 b272 c273 0 q258.2.1.length 82]]⟩)] o)) ?_ ?_
    ·obtain ⟨x259, h260, h288⟩ := bnd h288
     refine go ?_;intros
     refine r_iro rfl rfl h260 rfl ?_
     obtain ⟨x261, h262, h288⟩ := bnd h288
     refine go ?_;intros
     refine c_call (c := c_dc9) (x259) H_dc9 h262 fun ch => ?_
     refine go ?_;intros
     cases h288
     exact k_cn ⟨_, _, _, _, _, pin, pinh⟩
    rintro t o ⟨b269, c270, b272, c273, b276, pq1, pq2⟩
    refine pinned pq1 pq2 ?_
    refine go ?_;intros
    refine r_frz ?_
    refine go ?_;intros
    refine c_fz ?_
    obtain ⟨x277, h278, h287⟩ := bnd h287
    refine go ?_;intros
    refine c_callg (c := c_dr9) ((⟨a0.b, x235.2⟩ : Rd), (⟨q258.2.2.2, q258.1⟩ : Shape), g0, g1) H_dr9 h278 fun ch => ?_
    refine go ?_;intros
    refine r_frz ?_
    refine go ?_;intros
    refine c_fz ?_
    refine go ?_;intros
    refine r_frz ?_
    obtain ⟨x279, h280, h287⟩ := bnd h287
    refine go ?_;intros
    refine c_call (c := c_do9) (v211, (⟨q258.2.2.1, x277.1, q258.2.1⟩ : Feat)) H_do9 h280 fun ch => ?_
    refine go ?_;intros
    refine c_fz ?_
    refine go ?_;intros
    exact k_ln2 _ (Nat.lt_succ_self _) ⟨_, _, _, _, h287, rfl, pin, pinh⟩
   replace h287 := itf h287 c
   try rw [c]
   refine go ?_;intros
   cases h287
   exact k_cn ⟨pin, pinh⟩
 rintro t o ⟨pq1, pq2⟩
 refine pinnedQ pq1 pq2 ?_
 obtain ⟨x285, h286, h⟩ := bnd h
 refine go ?_;intros
 refine c_call (c := c_cm9) (q210.1) H_cm9 h286 fun ch => ?_
 refine go ?_;intros
 refine w_cond rfl (fun c => ?_) (fun c => ?_)
 ·replace h := itt h c
  try rw [c]
  refine go ?_;intros
  cases h
  exact r_endg
 replace h := itf h c
 try rw [c]
 refine go ?_;intros
 cases h
 exact r_endg
end Go.Proofs.AM
