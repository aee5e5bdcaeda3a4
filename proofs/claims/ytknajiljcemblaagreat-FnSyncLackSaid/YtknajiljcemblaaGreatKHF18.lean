/- Lemmas of the proof (KHF18), on an abstract machine. Conditions: none. -/
import Derived.Test.YtknajiljcemblaaGreatKHD
set_option linter.unusedVariables false
set_option maxRecDepth 100000
set_option maxHeartbeats 4000000
namespace Go.Proofs.AM
attribute [local irreducible] vwp vstps vstpLs vstp vdo vret kseq kblk kloop kend kcut kloop2 frzV renV shutK pfzV trnV unrV
theorem d_bf9 {G : Gam} (H_bt9 : Has G c_bt9) (H_ar9 : Has G c_ar9) (H_ce9 : Has G c_ce9) (H_bz9 : Has G c_bz9) (H_ac9 : Has G c_ac9) (H_ae9 : Has G c_ae9) (H_ap9 : Has G c_ap9) (H_at9 : Has G c_at9) (a0 : (List UInt8)) (g0 : Option Addr) (g1 : Nat) (r : Bool) (h : gf_bf9 a0 = some r) : Does G if_bf9 ks_bf9 (c_bf9.args (a0, g0, g1)) [] (c_bf9.ans (a0, g0, g1) r) := by
 refine does_pn (L := [(0, .raw g0 g1 (List.map eU8 a0))]) (fun bs => pin) fun bs t o => ?_
 show vwp _ ib_bf9 _ _
 unfold ib_bf9
 refine w_ir ?_
 unfold gf_bf9 at h
 refine go ?_;intros
 refine w_cond rfl (fun c => ?_) (fun c => ?_)
 ·replace h := itt h (by first | exact c | (have c2 := c; simp only [List.length_map] at c2; exact c2))
  try rw [c]
  refine go ?_;intros
  cases h
  exact r_end
 replace h := itf h (by first | exact c | (have c2 := c; simp only [List.length_map] at c2; exact c2))
 try rw [c]
 obtain ⟨q1, h97, h⟩ := bnd h
 refine go ?_;intros
 refine w_cut (fun t o => ∃ b9 b12, Pin t (ovr [(3, .ptr 24 b9 210 0 0), (4, .ptr 32 b12 210 0 0), (5, .v (.string q1.1))] t) ∧ PinH o (ovh [(24, ⟨b9, 1, 210, true, [[.sl false 3 (List.map (eCommit false) q1.2.1), .sl false 2 (List.map eHead q1.2.2.1)]]⟩), (32, ⟨b12, 1, 210, true, [[.sl false 3 (List.map (eCommit false) q1.2.2.2.1), .sl false 2 (List.map eHead q1.2.2.2.2)]]⟩)] o)) ?_ ?_
 ·refine go ?_;intros
  refine r_frz ?_
  obtain ⟨x2, h3, h97⟩ := bnd h97
  refine go ?_;intros
  refine c_call (c := c_bt9) (a0, g0, g1) H_bt9 h3 fun ch => ?_
  refine go ?_;intros
  refine c_fz ?_
  refine go ?_;intros
  cases h97
  exact k_cn ⟨_, _, pin, pinh⟩
 rintro t o ⟨b9, b12, pq1, pq2⟩
 refine pinned pq1 pq2 ?_
 obtain ⟨x13, h14, h⟩ := bnd h
 refine go ?_;intros
 refine c_call (c := c_ar9) ((⟨q1.2.1, q1.2.2.1⟩ : Repo), (⟨q1.2.2.2.1, q1.2.2.2.2⟩ : Repo), q1.1) H_ar9 h14 fun ch => ?_
 obtain ⟨x17, h18, h⟩ := bnd h
 refine go ?_;intros
 refine c_call (c := c_ce9) ((⟨q1.2.1, q1.2.2.1⟩ : Repo), (⟨q1.2.2.2.1, q1.2.2.2.2⟩ : Repo), q1.1) H_ce9 h18 fun ch => ?_
 refine go ?_;intros
 refine w_cond rfl (fun c => ?_) (fun c => ?_)
 ·replace h := itt h (by first | exact c | (have c2 := c; simp only [List.length_map] at c2; exact c2))
  try rw [c]
  refine go ?_;intros
  cases h
  exact r_end
 replace h := itf h (by first | exact c | (have c2 := c; simp only [List.length_map] at c2; exact c2))
 try rw [c]
 obtain ⟨x21, h22, h⟩ := bnd h
 refine go ?_;intros
 refine c_call (c := c_bz9) ((⟨q1.2.1, q1.2.2.1⟩ : Repo)) H_bz9 h22 fun ch => ?_
 refine go ?_;intros
 refine s_split rfl (fun c => ?_) (fun c => ?_)
 ·replace h := itt h c
  rw [c]
  refine go ?_;intros
  cases h
  first | exact r_end | (simp only [List.length_map]; exact r_end)
 replace h := itf h c
 rw [c]
 obtain ⟨x23, h24, h⟩ := bnd h
 refine go ?_;intros
 refine c_call (c := c_bz9) ((⟨q1.2.2.2.1, q1.2.2.2.2⟩ : Repo)) H_bz9 h24 fun ch => ?_
 refine go ?_;intros
 refine s_split rfl (fun c => ?_) (fun c => ?_)
 ·replace h := itt h c
  rw [c]
  refine go ?_;intros
  cases h
  first | exact r_end | (simp only [List.length_map]; exact r_end)
 replace h := itf h c
 rw [c]
 obtain ⟨x25, h26, h⟩ := bnd h
 refine go ?_;intros
 refine c_call (c := c_ac9) ((⟨q1.2.2.2.1, q1.2.2.2.2⟩ : Repo), q1.1) H_ac9 h26 fun ch => ?_
 refine go ?_;intros
 refine w_cond rfl (fun c => ?_) (fun c => ?_)
 ·replace h := itt h c
  try rw [c]
  refine go ?_;intros
  cases h
  first | exact r_end | (simp only [List.length_map]; exact r_end)
 replace h := itf h c
 try rw [c]
 obtain ⟨x27, h28, h⟩ := bnd h
 refine go ?_;intros
 refine c_call (c := c_ac9) ((⟨q1.2.2.2.1, q1.2.2.2.2⟩ : Repo), q1.1) H_ac9 h28 fun ch => ?_
 obtain ⟨x29, h30, h⟩ := bnd h
 refine go ?_;intros
 refine c_call (c := c_ae9) ((⟨q1.2.2.2.1, q1.2.2.2.2⟩ : Repo), x27) H_ae9 h30 fun ch => ?_
 obtain ⟨q65, h98, h⟩ := bnd h
 refine go ?_;intros
 refine w_last (fun t o => ∃ q65_, q65 = .inr q65_ ∧ ∃ b82 b83 b84 c85, Pin t (ovr [(3, .ptr 24 b82 210 0 0), (4, .ptr 32 b83 210 0 0), (5, .v (.string q1.1)), (6, .ref 200 b84 c85 0 x13.length 17), (9, .v (.int .i64 q65_))] t) ∧ PinH o (ovh [(24, ⟨b82, 1, 210, true, [[.sl false 3 (List.map (eCommit false) q1.2.1), .sl false 2 (List.map eHead q1.2.2.1)]]⟩), (32, ⟨b83, 1, 210, true, [[.sl false 3 (List.map (eCommit false) q1.2.2.2.1), .sl false 2 (List.map eHead q1.2.2.2.2)]]⟩), (200, ent b84 c85 17 (List.map eInt x13))] o)) ?_ ?_
 ·refine w_loop2 (fun n t o => ∃ n74 v66 v67 b68 b69 b70 c71 b72 c73, gl_bf9_1 x29 q1 x13 n74 v66 v67 = some q65 ∧ n74 = n ∧ Pin t (ovr [(3, .ptr 24 b68 210 0 0), (4, .ptr 32 b69 210 0 0), (5, .v (.string q1.1)), (6, .ref 200 b70 c71 0 x13.length 17), (8, .ref 448 b72 c73 0 x29.length 17), (9, .v (.int .i64 v66)), (10, .v (.int .i64 v67))] t) ∧ PinH o (ovh [(24, ⟨b68, 1, 210, true, [[.sl false 3 (List.map (eCommit false) q1.2.1), .sl false 2 (List.map eHead q1.2.2.1)]]⟩), (32, ⟨b69, 1, 210, true, [[.sl false 3 (List.map (eCommit false) q1.2.2.2.1), .sl false 2 (List.map eHead q1.2.2.2.2)]]⟩), (200, ent b70 c71 17 (List.map eInt x13)), (448, ent b72 c73 17 (List.map eInt x29))] o)) _ ⟨_, _, _, _, _, _, _, _, _, h98, rfl, pin, pinh⟩ ?_
  rintro n t o ⟨n74, v66, v67, b68, b69, b70, c71, b72, c73, h98, rfl, pq1, pq2⟩
  refine pinned pq1 pq2 ?_
  cases n74 with
  | zero => rw [gl_bf9_1] at h98; cases h98
  | succ n74 =>
   rw [gl_bf9_1] at h98
   refine go ?_;intros
   refine w_cond rfl (fun c => ?_) (fun c => ?_)
   ·replace h98 := itt h98 c
    try rw [c]
    obtain ⟨x75, h76, h98⟩ := bnd h98
    refine go ?_;intros
    refine r_ire (xs := x29) rfl rfl h76 rfl ?_
    refine go ?_;intros
    refine r_lde (f := eInt) (xs := x29) (x := x75) rfl rfl (idx_get h76).2 rfl rfl rfl ?_
    obtain ⟨x77, h78, h98⟩ := bnd h98
    refine go ?_;intros
    refine c_call (c := c_ap9) ((⟨q1.2.1, q1.2.2.1⟩ : Repo), (⟨q1.2.2.2.1, q1.2.2.2.2⟩ : Repo), x75) H_ap9 h78 fun ch => ?_
    refine go ?_;intros
    refine w_cond rfl (fun c => ?_) (fun c => ?_)
    ·replace h98 := itt h98 c
     try rw [c]
     refine go ?_;intros
     exact k_ln2 _ (Nat.lt_succ_self _) ⟨_, _, _, _, _, _, _, _, _, h98, rfl, pin, pinh⟩
    replace h98 := itf h98 c
    try rw [c]
    refine go ?_;intros
    refine s_split rfl (fun c => ?_) (fun c => ?_)
    ·replace h98 := itt h98 (by first | exact c | (have c2 := c; simp only [List.length_map] at c2; exact c2))
     rw [c]
     refine go ?_;intros
     cases h98
     replace h : some _ = some _ := h
     cases h
     exact r_end
    replace h98 := itf h98 (by first | exact c | (have c2 := c; simp only [List.length_map] at c2; exact c2))
    rw [c]
    obtain ⟨x79, h80, h98⟩ := bnd h98
    refine go ?_;intros
    refine r_ire (xs := x13) rfl rfl h80 rfl ?_
    refine go ?_;intros
    refine r_lde (f := eInt) (xs := x13) (x := x79) rfl rfl (idx_get h80).2 rfl rfl rfl ?_
    refine go ?_;intros
    refine r_ire (xs := x29) rfl rfl h76 rfl ?_
    refine go ?_;intros
    refine r_lde (f := eInt) (xs := x29) (x := x75) rfl rfl (idx_get h76).2 rfl rfl rfl ?_
    refine go ?_;intros
    refine w_cond rfl (fun c => ?_) (fun c => ?_)
    ·replace h98 := itt h98 c
     try rw [c]
     refine go ?_;intros
     cases h98
     replace h : some _ = some _ := h
     cases h
     exact r_end
    replace h98 := itf h98 c
    try rw [c]
    refine go ?_;intros
    exact k_ln2 _ (Nat.lt_succ_self _) ⟨_, _, _, _, _, _, _, _, _, h98, rfl, pin, pinh⟩
   replace h98 := itf h98 c
   try rw [c]
   refine go ?_;intros
   cases h98
   exact k_cn ⟨_, rfl, _, _, _, _, pin, pinh⟩
 rintro t o ⟨q65, rfl, b82, b83, b84, c85, pq1, pq2⟩
 refine pinnedQ pq1 pq2 ?_
 obtain ⟨x86, h87, h⟩ := bnd h
 refine go ?_;intros
 refine c_call (c := c_at9) ((⟨q1.2.1, q1.2.2.1⟩ : Repo), (⟨q1.2.2.2.1, q1.2.2.2.2⟩ : Repo), q1.1) H_at9 h87 fun ch => ?_
 refine go ?_;intros
 refine s_split rfl (fun c => ?_) (fun c => ?_)
 ·replace h := itt h (by first | exact c | (have c2 := c; simp only [List.length_map] at c2; exact c2))
  rw [c]
  obtain ⟨x93, h94, h⟩ := bnd h
  refine go ?_;intros
  refine c_call (c := c_ar9) ((⟨q1.2.2.2.1, q1.2.2.2.2⟩ : Repo), (⟨q1.2.2.2.1, q1.2.2.2.2⟩ : Repo), q1.1) H_ar9 h94 fun ch => ?_
  refine go ?_;intros
  refine s_split rfl (fun c => ?_) (fun c => ?_)
  ·replace h := itt h (by first | exact c | (have c2 := c; simp only [List.length_map] at c2; exact c2))
   rw [c]
   refine go ?_;intros
   refine s_split rfl (fun c => ?_) (fun c => ?_)
   ·replace h := itt h c
    rw [c]
    refine go ?_;intros
    refine s_split rfl (fun c => ?_) (fun c => ?_)
    ·replace h := itt h c
     rw [c]
     refine go ?_;intros
     cases h
     exact r_end
    replace h := itf h c
    rw [c]
    refine go ?_;intros
    cases h
    first | exact r_end | (simp only [List.length_map]; exact r_end)
   replace h := itf h c
   rw [c]
   refine go ?_;intros
   cases h
   first | exact r_end | (simp only [List.length_map]; exact r_end)
  replace h := itf h (by first | exact c | (have c2 := c; simp only [List.length_map] at c2; exact c2))
  rw [c]
  refine go ?_;intros
  cases h
  exact r_end
 replace h := itf h (by first | exact c | (have c2 := c; simp only [List.length_map] at c2; exact c2))
 rw [c]
 refine go ?_;intros
 cases h
 exact r_end
end Go.Proofs.AM
