/- Lemmas of the proof (KNF14), on an abstract machine. Conditions: none. -/
import Derived.Test.YtknajiljcemblabGreatKND
set_option linter.unusedVariables false
set_option linter.unusedSimpArgs false
set_option maxRecDepth 100000
set_option maxHeartbeats 4000000
namespace Go.Proofs.AM
attribute [local irreducible] vwp vstps vstpLs vstp vdo vret kseq kblk kloop kend kcut kloop2 frzV renV shutK pfzV trnV unrV
theorem d_dp9 {G : Gam} (H_cq9 : Has G c_cq9) (H_cv9 : Has G c_cv9) (H_cd9 : Has G c_cd9) (a0 : Rd) (a1 : Shape) (g0 : Option Addr) (g1 : Nat) (r : (Shape × Int)) (h : gf_dp9 a0 a1 = some r) : Does G if_dp9 ks_dp9 (c_dp9.args (a0, a1, g0, g1)) (c_dp9.ins (a0, a1, g0, g1)) (c_dp9.ans (a0, a1, g0, g1) r) := by
 refine does_pg (L := fun bs => [(0, .ptr 0 (bs 0).1 290 0 0), (1, .agg [.v (.int .i64 a1.kind), .ro (List.map ePt a1.pts)])]) (H := fun bs => [(0, ⟨(bs 0).1, (bs 0).2, 290, true, [[.rw g0 g1 (List.map eU8 a0.b), .v (.int .i64 a0.p)]]⟩)]) (fun bs => pin) (fun bs => pinh) fun bs t o => ?_
 show vwp _ ib_dp9 _ _
 unfold ib_dp9
 refine w_ir ?_
 unfold gf_dp9 at h
 refine go ?_;intros
 refine w_cond rfl (fun c => ?_) (fun c => ?_)
 ·replace h := itt h (by first | exact c | (have c2 := c; simp only [List.length_map] at c2; exact c2))
  try rw [c]
  refine go ?_;intros
  cases h
  exact r_endg
 replace h := itf h (by first | exact c | (have c2 := c; simp only [List.length_map] at c2; exact c2))
 try rw [c]
 obtain ⟨x3, h4, h⟩ := bnd h
 refine go ?_;intros
 refine c_callg (c := c_cq9) (a0, (a1.pts.length : Int), g0, g1) H_cq9 h4 fun ch => ?_
 obtain ⟨x6, h7, h⟩ := bnd h
 refine go ?_;intros
 refine r_sls (f := ePt) rfl rfl rfl h7 (fun _ => rfl) ?_
 obtain ⟨h10, h⟩ := gd h
 refine go ?_;intros
 refine r_app (f := ePt) (xs := ([] : (List Pt))) (ys := x6) rfl (src_ro (fun _ => rfl) (fun _ => rfl)) rfl rfl (by first | rfl | simp) h10 fun b8 c9 => ?_
 obtain ⟨q40, h81, h⟩ := bnd h
 refine go ?_;intros
 refine w_cut (fun t o => ∃ b70 b71 c72 b73 b75 c76, Pin t (ovr [(3, .ptr 24 b70 226 0 0), (4, .ptr 32 b73 226 0 0), (6, .ref 144 b75 c76 0 q40.1.length 66)] t) ∧ PinH o (ovh [(24, ⟨b70, 1, 226, true, [[.v (.int .i64 a1.kind), .sl false 2 (List.map ePt a1.pts)]]⟩), (1000513, ent b71 c72 66 (List.map ePt [])), (32, ⟨b73, 1, 226, true, [[.v (.int .i64 0), .al 1000513 b71 c72 0 ([] : List Pt).length 66]]⟩), (144, ent b75 c76 66 (List.map ePt q40.1)), (0, ⟨(bs 0).1, (bs 0).2, 290, true, [[.rw g0 g1 (List.map eU8 a0.b), .v (.int .i64 q40.2)]]⟩)] o)) ?_ ?_
 ·obtain ⟨x41, h42, h81⟩ := bnd h81
  refine go ?_;intros
  refine c_callg (c := c_cq9) ((⟨a0.b, x3.2⟩ : Rd), 3, g0, g1) H_cq9 h42 fun ch => ?_
  refine go ?_;intros
  refine w_cond rfl (fun c => ?_) (fun c => ?_)
  ·replace h81 := itt h81 c
   try rw [c]
   obtain ⟨x43, h44, h81⟩ := bnd h81
   refine go ?_;intros
   refine c_callg (c := c_cv9) ((⟨a0.b, x41.2⟩ : Rd), g0, g1) H_cv9 h44 fun ch => ?_
   obtain ⟨h48, h81⟩ := gd h81
   refine go ?_;intros
   refine r_app (f := ePt) (xs := ([] ++ x6)) (ys := ([x43.1] : (List Pt))) rfl (src_mv rfl rfl (by first | rfl | simp)) rfl rfl (by first | rfl | simp) h48 fun b46 c47 => ?_
   obtain ⟨x49, h50, h81⟩ := bnd h81
   refine go ?_;intros
   refine r_sls (f := ePt) rfl rfl rfl h50 (fun _ => rfl) ?_
   obtain ⟨h53, h81⟩ := gd h81
   refine go ?_;intros
   refine r_app (f := ePt) (xs := (([] ++ x6) ++ ([x43.1] : (List Pt)))) (ys := x49) rfl (src_ro (fun _ => rfl) (fun _ => rfl)) rfl rfl (by first | rfl | simp) h53 fun b51 c52 => ?_
   refine go ?_;intros
   cases h81
   exact k_cn ⟨_, _, _, _, _, _, pin, pinh⟩
  replace h81 := itf h81 c
  try rw [c]
  refine go ?_;intros
  refine w_cond rfl (fun c => ?_) (fun c => ?_)
  ·replace h81 := itt h81 c
   try rw [c]
   obtain ⟨x54, h55, h81⟩ := bnd h81
   refine go ?_;intros
   refine r_sls (f := ePt) rfl rfl rfl h55 (fun _ => rfl) ?_
   obtain ⟨h58, h81⟩ := gd h81
   refine go ?_;intros
   refine r_app (f := ePt) (xs := ([] ++ x6)) (ys := x54) rfl (src_ro (fun _ => rfl) (fun _ => rfl)) rfl rfl (by first | rfl | simp) h58 fun b56 c57 => ?_
   refine go ?_;intros
   cases h81
   exact k_cn ⟨_, _, _, _, _, _, pin, pinh⟩
  replace h81 := itf h81 c
  try rw [c]
  obtain ⟨x59, h60, h81⟩ := bnd h81
  refine go ?_;intros
  refine c_callg (c := c_cv9) ((⟨a0.b, x41.2⟩ : Rd), g0, g1) H_cv9 h60 fun ch => ?_
  obtain ⟨h64, h81⟩ := gd h81
  refine go ?_;intros
  refine r_app (f := ePt) (xs := ([] ++ x6)) (ys := ([x59.1] : (List Pt))) rfl (src_mv rfl rfl (by first | rfl | simp)) rfl rfl (by first | rfl | simp) h64 fun b62 c63 => ?_
  obtain ⟨x65, h66, h81⟩ := bnd h81
  refine go ?_;intros
  refine r_sls (f := ePt) rfl rfl rfl h66 (fun _ => rfl) ?_
  obtain ⟨h69, h81⟩ := gd h81
  refine go ?_;intros
  refine r_app (f := ePt) (xs := (([] ++ x6) ++ ([x59.1] : (List Pt)))) (ys := x65) rfl (src_ro (fun _ => rfl) (fun _ => rfl)) rfl rfl (by first | rfl | simp) h69 fun b67 c68 => ?_
  refine go ?_;intros
  cases h81
  exact k_cn ⟨_, _, _, _, _, _, pin, pinh⟩
 rintro t o ⟨b70, b71, c72, b73, b75, c76, pq1, pq2⟩
 refine pinned pq1 pq2 ?_
 obtain ⟨x79, h80, h⟩ := bnd h
 refine go ?_;intros
 refine c_call (c := c_cd9) ((⟨a1.kind, q40.1⟩ : Shape)) H_cd9 h80 fun ch => ?_
 refine go ?_;intros
 refine w_cond rfl (fun c => ?_) (fun c => ?_)
 ·replace h := itt h c
  try rw [c]
  refine go ?_;intros
  cases h
  exact r_endg
 replace h := itf h c
 try rw [c]
 refine go ?_;intros
 refine r_frz ?_
 refine go ?_;intros
 refine c_fz ?_
 refine go ?_;intros
 cases h
 exact r_endg
theorem d_dq9 {G : Gam} (H_cq9 : Has G c_cq9) (H_dc9 : Has G c_dc9) (H_dl9 : Has G c_dl9) (H_db9 : Has G c_db9) (H_dm9 : Has G c_dm9) (H_dk9 : Has G c_dk9) (H_da9 : Has G c_da9) (H_dd9 : Has G c_dd9) (H_dh9 : Has G c_dh9) (H_de9 : Has G c_de9) (H_dp9 : Has G c_dp9) (H_cf9 : Has G c_cf9) (a0 : Rd) (a1 : (List Feat)) (g0 : Option Addr) (g1 : Nat) (r : ((List Feat) × Int)) (h : gf_dq9 a0 a1 = some r) : Does G if_dq9 ks_dq9 (c_dq9.args (a0, a1, g0, g1)) (c_dq9.ins (a0, a1, g0, g1)) (c_dq9.ans (a0, a1, g0, g1) r) := by
 refine does_pg (L := fun bs => [(0, .ptr 0 (bs 0).1 290 0 0), (1, .ro (List.map (eFeat false) a1))]) (H := fun bs => [(0, ⟨(bs 0).1, (bs 0).2, 290, true, [[.rw g0 g1 (List.map eU8 a0.b), .v (.int .i64 a0.p)]]⟩)]) (fun bs => pin) (fun bs => pinh) fun bs t o => ?_
 show vwp _ ib_dq9 _ _
 unfold ib_dq9
 refine w_ir ?_
 unfold gf_dq9 at h
 obtain ⟨x1, h2, h⟩ := bnd h
 refine go ?_;intros
 refine c_callg (c := c_cq9) (a0, 3, g0, g1) H_cq9 h2 fun ch => ?_
 obtain ⟨q210, h287, h⟩ := bnd h
 refine go ?_;intros
 refine w_last (fun t o => Pin t (ovr [(1, .ro (List.map (eFeat false) a1)), (5, .ro (List.map (eFeat false) q210.1))] t) ∧ PinH o (ovh [(0, ⟨(bs 0).1, (bs 0).2, 290, true, [[.rw g0 g1 (List.map eU8 a0.b), .v (.int .i64 q210.2)]]⟩)] o)) ?_ ?_
 ·refine w_loop2 (fun n t o => ∃ n214 v211 v212 v213 , gl_dq9_1 a0 n214 v211 v212 v213 = some q210 ∧ n214 = n ∧ Pin t (ovr [(0, .ptr 0 (bs 0).1 290 0 0), (1, .ro (List.map (eFeat false) a1)), (5, .ro (List.map (eFeat false) v211)), (6, .v (.int .i64 v212))] t) ∧ PinH o (ovh [(0, ⟨(bs 0).1, (bs 0).2, 290, true, [[.rw g0 g1 (List.map eU8 a0.b), .v (.int .i64 v213)]]⟩)] o)) _ ⟨_, _, _, _, h287, rfl, pin, pinh⟩ ?_
  rintro n t o ⟨n214, v211, v212, v213, h287, rfl, pq1, pq2⟩
  refine pinned pq1 pq2 ?_
  cases n214 with
  | zero => rw [gl_dq9_1] at h287; cases h287
  | succ n214 =>
   rw [gl_dq9_1] at h287
   refine go ?_;intros
   refine w_cond rfl (fun c => ?_) (fun c => ?_)
   ·replace h287 := itt h287 c
    try rw [c]
    obtain ⟨x215, h216, h287⟩ := bnd h287
    refine go ?_;intros
    refine c_callg (c := c_dc9) ((⟨a0.b, v213⟩ : Rd), g0, g1) H_dc9 h216 fun ch => ?_
    obtain ⟨x217, h218, h287⟩ := bnd h287
    refine go ?_;intros
    refine c_call (c := c_dl9) (v211, x215.1) H_dl9 h218 fun ch => ?_
    refine go ?_;intros
    refine w_cond rfl (fun c => ?_) (fun c => ?_)
    ·replace h287 := itt h287 c
     try rw [c]
     refine go ?_;intros
     refine r_frz ?_
     obtain ⟨x219, h220, h287⟩ := bnd h287
     refine go ?_;intros
     refine c_callg (c := c_db9) ((⟨a0.b, x215.2⟩ : Rd), x215.1, g0, g1) H_db9 h220 fun ch => ?_
     refine go ?_;intros
     refine c_fz ?_
     refine go ?_;intros
     refine r_frz ?_
     obtain ⟨x225, h226, h287⟩ := bnd h287
     refine go ?_;intros
     refine c_call (c := c_dm9) (v211, x219.1) H_dm9 h226 fun ch => ?_
     refine go ?_;intros
     refine c_fz ?_
     refine go ?_;intros
     exact k_ln2 _ (Nat.lt_succ_self _) ⟨_, _, _, _, h287, rfl, pin, pinh⟩
    replace h287 := itf h287 c
    try rw [c]
    obtain ⟨x229, h230, h287⟩ := bnd h287
    refine go ?_;intros
    refine c_callg (c := c_cq9) ((⟨a0.b, x215.2⟩ : Rd), 4, g0, g1) H_cq9 h230 fun ch => ?_
    refine go ?_;intros
    refine w_cond rfl (fun c => ?_) (fun c => ?_)
    ·replace h287 := itt h287 c
     try rw [c]
     refine go ?_;intros
     refine r_frz ?_
     obtain ⟨x231, h232, h287⟩ := bnd h287
     refine go ?_;intros
     refine c_call (c := c_dk9) (v211, x215.1) H_dk9 h232 fun ch => ?_
     refine go ?_;intros
     refine c_fz ?_
     refine go ?_;intros
     exact k_ln2 _ (Nat.lt_succ_self _) ⟨_, _, _, _, h287, rfl, pin, pinh⟩
    replace h287 := itf h287 c
    try rw [c]
    obtain ⟨x235, h236, h287⟩ := bnd h287
    refine go ?_;intros
    refine c_callg (c := c_cq9) ((⟨a0.b, x229.2⟩ : Rd), 2, g0, g1) H_cq9 h236 fun ch => ?_
    refine go ?_;intros
    refine w_cond rfl (fun c => ?_) (fun c => ?_)
    ·replace h287 := itt h287 c
     try rw [c]
     obtain ⟨x237, h238, h287⟩ := bnd h287
     refine go ?_;intros
     refine r_iro rfl rfl h238 rfl ?_
     obtain ⟨x239, h240, h287⟩ := bnd h287
     refine go ?_;intros
     refine c_call (c := c_da9) (x237) H_da9 h240 fun ch => ?_
     obtain ⟨x246, h247, h287⟩ := bnd h287
     refine go ?_;intros
     refine c_callg (c := c_dd9) ((⟨a0.b, x235.2⟩ : Rd), g0, g1) H_dd9 h247 fun ch => ?_
     obtain ⟨x248, h249, h287⟩ := bnd h287
     refine go ?_;intros
     refine c_callg (c := c_dh9) ((⟨a0.b, x246.2⟩ : Rd), g0, g1) H_dh9 h249 fun ch => ?_
     obtain ⟨x250, h251, h287⟩ := bnd h287
     refine go ?_;intros
     refine c_call (c := c_de9) (x239.tags, x246.1, x248.1) H_de9 h251 fun ch => ?_
     refine go ?_;intros
     refine r_frz ?_
     refine go ?_;intros
     refine c_fz ?_
     refine go ?_;intros
     refine r_frz ?_
     obtain ⟨x254, h255, h287⟩ := bnd h287
     refine go ?_;intros
     refine c_call (c := c_dm9) (v211, (⟨x239.id, x239.shape, x250⟩ : Feat)) H_dm9 h255 fun ch => ?_
     refine go ?_;intros
     refine c_fz ?_
     refine go ?_;intros
     exact k_ln2 _ (Nat.lt_succ_self _) ⟨_, _, _, _, h287, rfl, pin, pinh⟩
    replace h287 := itf h287 c
    try rw [c]
    obtain ⟨q258, h288, h287⟩ := bnd h287
    refine go ?_;intros
    refine w_cut (fun t o => ∃ b269 c270 b272 c273 b276, Pin t (ovr [(0, .ptr 0 (bs 0).1 290 0 0), (1, .ro (List.map (eFeat false) a1)), (5, .ro (List.map (eFeat false) v211)), (6, .v (.int .i64 v212)), (10, .ptr 80 b276 100 0 0)] t) ∧ PinH o (ovh [(0, ⟨(bs 0).1, (bs 0).2, 290, true, [[.rw g0 g1 (List.map eU8 a0.b), .v (.int .i64 x235.2)]]⟩), (1001282, ent b269 c270 66 (List.map ePt q258.1)), (1001283, ent b272 c273 82 (List.map eTag q258.2.1)), (80, ⟨b276, 1, 100, true, [[.v (.string q258.2.2.1), .v (.int .i64 q258.2.2.2), .al 1001282 b269 c270 0 q258.1.length 66, .al 1001283 b272 c273 0 q258.2.1.length 82]]⟩)] o)) ?_ ?_
    ·obtain ⟨x259, h260, h288⟩ := bnd h288
     refine go ?_;intros
     refine r_iro rfl rfl h260 rfl ?_
     obtain ⟨x261, h262, h288⟩ := bnd h288
     refine go ?_;intros
     refine c_call (c := c_da9) (x259) H_da9 h262 fun ch => ?_
     refine go ?_;intros
     cases h288
     exact k_cn ⟨_, _, _, _, _, pin, pinh⟩
    rintro t o ⟨b269, c270, b272, c273, b276, pq1, pq2⟩
    refine pinned pq1 pq2 ?_
    refine go ?_;intros
    refine r_frz ?_
    refine go ?_;intros
    refine c_fz ?_
    obtain ⟨x277, h278, h287⟩ := bnd h287
    refine go ?_;intros
    refine c_callg (c := c_dp9) ((⟨a0.b, x235.2⟩ : Rd), (⟨q258.2.2.2, q258.1⟩ : Shape), g0, g1) H_dp9 h278 fun ch => ?_
    refine go ?_;intros
    refine r_frz ?_
    refine go ?_;intros
    refine c_fz ?_
    refine go ?_;intros
    refine r_frz ?_
    obtain ⟨x279, h280, h287⟩ := bnd h287
    refine go ?_;intros
    refine c_call (c := c_dm9) (v211, (⟨q258.2.2.1, x277.1, q258.2.1⟩ : Feat)) H_dm9 h280 fun ch => ?_
    refine go ?_;intros
    refine c_fz ?_
    refine go ?_;intros
    exact k_ln2 _ (Nat.lt_succ_self _) ⟨_, _, _, _, h287, rfl, pin, pinh⟩
   replace h287 := itf h287 c
   try rw [c]
   refine go ?_;intros
   cases h287
   exact k_cn ⟨pin, pinh⟩
 rintro t o ⟨pq1, pq2⟩
 refine pinnedQ pq1 pq2 ?_
 obtain ⟨x285, h286, h⟩ := bnd h
 refine go ?_;intros
 refine c_call (c := c_cf9) (q210.1) H_cf9 h286 fun ch => ?_
 refine go ?_;intros
 refine w_cond rfl (fun c => ?_) (fun c => ?_)
 ·replace h := itt h c
  try rw [c]
  refine go ?_;intros
  cases h
  exact r_endg
 replace h := itf h c
 try rw [c]
 refine go ?_;intros
 cases h
 exact r_endg
theorem d_eb9 {G : Gam} (H_cp9 : Has G c_cp9) (a0 : Rd) (g0 : Option Addr) (g1 : Nat) (r : (Str × Int)) (h : gf_eb9 a0 = some r) : Does G if_eb9 ks_eb9 (c_eb9.args (a0, g0, g1)) (c_eb9.ins (a0, g0, g1)) (c_eb9.ans (a0, g0, g1) r) := by
 refine does_pg (L := fun bs => [(0, .ptr 0 (bs 0).1 290 0 0)]) (H := fun bs => [(0, ⟨(bs 0).1, (bs 0).2, 290, true, [[.rw g0 g1 (List.map eU8 a0.b), .v (.int .i64 a0.p)]]⟩)]) (fun bs => pin) (fun bs => pinh) fun bs t o => ?_
 show vwp _ ib_eb9 _ _
 unfold ib_eb9
 refine w_ir ?_
 unfold gf_eb9 at h
 obtain ⟨x2, h3, h⟩ := bnd h
 refine go ?_;intros
 refine c_callg (c := c_cp9) (a0, ([(⟨#[97, 110, 110]⟩ : Str), (⟨#[98, 111, 98]⟩ : Str), (⟨#[102, 105, 120]⟩ : Str)] : (List Str)), g0, g1) H_cp9 h3 fun ch => ?_
 refine go ?_;intros
 cases h
 exact r_endg
theorem d_dv9 {G : Gam} (H_ea9 : Has G c_ea9) (H_dw9 : Has G c_dw9) (H_cq9 : Has G c_cq9) (H_ca9 : Has G c_ca9) (H_dq9 : Has G c_dq9) (H_eb9 : Has G c_eb9) (H_dt9 : Has G c_dt9) (H_dr9 : Has G c_dr9) (a0 : Rd) (a1 : Repo) (g0 : Option Addr) (g1 : Nat) (g2 : Option Addr) (g3 : Nat) (g4 : Option Addr) (g5 : Nat) (r : ((Option Repo) × Int)) (h : gf_dv9 a0 a1 = some r) : Does G if_dv9 ks_dv9 (c_dv9.args (a0, a1, g0, g1, g2, g3, g4, g5)) (c_dv9.ins (a0, a1, g0, g1, g2, g3, g4, g5)) (c_dv9.ans (a0, a1, g0, g1, g2, g3, g4, g5) r) := by
 refine does_pg (L := fun bs => [(0, .ptr 0 (bs 0).1 290 0 0), (1, .agg [.raw g2 g3 (List.map (eCommit false) a1.commits), .raw g4 g5 (List.map eHead a1.heads)])]) (H := fun bs => [(0, ⟨(bs 0).1, (bs 0).2, 290, true, [[.rw g0 g1 (List.map eU8 a0.b), .v (.int .i64 a0.p)]]⟩)]) (fun bs => pin) (fun bs => pinh) fun bs t o => ?_
 show vwp _ ib_dv9 _ _
 unfold ib_dv9
 refine w_ir ?_
 unfold gf_dv9 at h
 obtain ⟨x3, h4, h⟩ := bnd h
 refine go ?_;intros
 refine c_callg (c := c_ea9) (a0, g0, g1) H_ea9 h4 fun ch => ?_
 obtain ⟨x5, h6, h⟩ := bnd h
 refine go ?_;intros
 refine c_call (c := c_dw9) (a1, x3.1) H_dw9 h6 fun ch => ?_
 refine go ?_;intros
 refine w_cond rfl (fun c => ?_) (fun c => ?_)
 ·replace h := itt h c
  try rw [c]
  obtain ⟨x7, h8, h⟩ := bnd h
  refine go ?_;intros
  refine c_callg (c := c_cq9) ((⟨a0.b, x3.2⟩ : Rd), (a1.heads.length : Int), g0, g1) H_cq9 h8 fun ch => ?_
  obtain ⟨x9, h10, h⟩ := bnd h
  refine go ?_;intros
  refine r_iro rfl rfl h10 rfl ?_
  obtain ⟨x11, h12, h⟩ := bnd h
  refine go ?_;intros
  refine c_call (c := c_ca9) (a1, x3.1, x9.name) H_ca9 h12 fun ch => ?_
  refine go ?_;intros
  refine w_cond rfl (fun c => ?_) (fun c => ?_)
  ·replace h := itt h (by first | exact c | (have c2 := c; simp only [List.length_map] at c2; exact c2))
   try rw [c]
   refine go ?_;intros
   cases h
   exact r_endg
  replace h := itf h (by first | exact c | (have c2 := c; simp only [List.length_map] at c2; exact c2))
  try rw [c]
  refine go ?_;intros
  refine r_ldr rfl rfl rfl rfl ?_
  refine go ?_;intros
  cases h
  exact r_endg
 replace h := itf h c
 try rw [c]
 obtain ⟨x18, h19, h⟩ := bnd h
 refine go ?_;intros
 refine r_iro rfl rfl h19 rfl ?_
 obtain ⟨q20, h75, h⟩ := bnd h
 refine go ?_;intros
 refine w_cut (fun t o => ∃ b30 b31 c32 b33 c34 b35 b36 c37 b40, Pin t (ovr [(0, .ptr 0 (bs 0).1 290 0 0), (3, .ptr 24 b30 210 0 0), (4, .ptr 32 b35 210 0 0), (6, .v (.int .i64 x5)), (9, .v (.int .i64 x18.at_)), (10, .ptr 80 b40 115 0 0)] t) ∧ PinH o (ovh [(0, ⟨(bs 0).1, (bs 0).2, 290, true, [[.rw g0 g1 (List.map eU8 a0.b), .v (.int .i64 q20.1)]]⟩), (24, ⟨b30, 1, 210, true, [[.rw g2 g3 (List.map (eCommit false) a1.commits), .rw g4 g5 (List.map eHead a1.heads)]]⟩), (1000512, ent b31 c32 115 (List.map (eCommit true) [])), (1000513, ent b33 c34 130 (List.map eHead [])), (32, ⟨b35, 1, 210, true, [[.al 1000512 b31 c32 0 ([] : List Commit).length 115, .al 1000513 b33 c34 0 ([] : List Head).length 130]]⟩), (1001280, ent b36 c37 17 (List.map eInt [x18.at_])), (80, ⟨b40, 1, 115, true, [[.al 1001280 b36 c37 0 [x18.at_].length 17, .sl false 4 (List.map (eFeat false) q20.2.1), .v (.string q20.2.2)]]⟩)] o)) ?_ ?_
 ·obtain ⟨x22, h23, h75⟩ := bnd h75
  refine go ?_;intros
  refine r_iro rfl rfl h23 rfl ?_
  obtain ⟨x24, h25, h75⟩ := bnd h75
  refine go ?_;intros
  refine c_callg (c := c_dq9) ((⟨a0.b, x3.2⟩ : Rd), x22.sheet, g0, g1) H_dq9 h25 fun ch => ?_
  obtain ⟨x26, h27, h75⟩ := bnd h75
  refine go ?_;intros
  refine c_callg (c := c_eb9) ((⟨a0.b, x24.2⟩ : Rd), g0, g1) H_eb9 h27 fun ch => ?_
  refine go ?_;intros
  cases h75
  exact k_cn ⟨_, _, _, _, _, _, _, _, _, pin, pinh⟩
 rintro t o ⟨b30, b31, c32, b33, c34, b35, b36, c37, b40, pq1, pq2⟩
 refine pinned pq1 pq2 ?_
 obtain ⟨x41, h42, h⟩ := bnd h
 refine go ?_;intros
 refine c_callg (c := c_cq9) ((⟨a0.b, q20.1⟩ : Rd), (a1.heads.length : Int), g0, g1) H_cq9 h42 fun ch => ?_
 obtain ⟨x43, h44, h⟩ := bnd h
 refine go ?_;intros
 refine r_iro rfl rfl h44 rfl ?_
 obtain ⟨q48, h76, h⟩ := bnd h
 refine go ?_;intros
 refine w_cut (fun t o => ∃ b52 b53 c54 b55 c56 b57 b59 c60 b61, Pin t (ovr [(3, .ptr 24 b52 210 0 0), (4, .ptr 32 b57 210 0 0), (6, .v (.int .i64 x5)), (10, .ptr 80 b61 115 0 0)] t) ∧ PinH o (ovh [(24, ⟨b52, 1, 210, true, [[.rw g2 g3 (List.map (eCommit false) a1.commits), .rw g4 g5 (List.map eHead a1.heads)]]⟩), (1000512, ent b53 c54 115 (List.map (eCommit true) [])), (1000513, ent b55 c56 130 (List.map eHead [])), (32, ⟨b57, 1, 210, true, [[.al 1000512 b53 c54 0 ([] : List Commit).length 115, .al 1000513 b55 c56 0 ([] : List Head).length 130]]⟩), (1001280, ent b59 c60 17 (List.map eInt q48.1)), (80, ⟨b61, 1, 115, true, [[.al 1001280 b59 c60 0 q48.1.length 17, .sl false 4 (List.map (eFeat false) q20.2.1), .v (.string q20.2.2)]]⟩), (0, ⟨(bs 0).1, (bs 0).2, 290, true, [[.rw g0 g1 (List.map eU8 a0.b), .v (.int .i64 q48.2)]]⟩)] o)) ?_ ?_
 ·refine go ?_;intros
  refine s_split rfl (fun c => ?_) (fun c => ?_)
  ·replace h76 := itt h76 c
   rw [c]
   obtain ⟨x49, h50, h76⟩ := bnd h76
   refine go ?_;intros
   refine c_callg (c := c_cq9) ((⟨a0.b, x41.2⟩ : Rd), 4, g0, g1) H_cq9 h50 fun ch => ?_
   refine go ?_;intros
   refine w_cond rfl (fun c => ?_) (fun c => ?_)
   ·replace h76 := itt h76 c
    try rw [c]
    refine go ?_;intros
    cases h76
    exact k_cn ⟨_, _, _, _, _, _, _, _, _, pin, pinh⟩
   replace h76 := itf h76 c
   try rw [c]
   refine go ?_;intros
   cases h76
   exact k_cn ⟨_, _, _, _, _, _, _, _, _, pin, pinh⟩
  replace h76 := itf h76 c
  rw [c]
  refine go ?_;intros
  cases h76
  exact k_cn ⟨_, _, _, _, _, _, _, _, _, pin, pinh⟩
 rintro t o ⟨b52, b53, c54, b55, c56, b57, b59, c60, b61, pq1, pq2⟩
 refine pinned pq1 pq2 ?_
 refine go ?_;intros
 refine w_cond rfl (fun c => ?_) (fun c => ?_)
 ·replace h := itt h (by first | exact c | (have c2 := c; simp only [List.length_map] at c2; exact c2))
  try rw [c]
  refine go ?_;intros
  refine r_ldr rfl rfl rfl rfl ?_
  refine go ?_;intros
  cases h
  exact r_endg
 replace h := itf h (by first | exact c | (have c2 := c; simp only [List.length_map] at c2; exact c2))
 try rw [c]
 obtain ⟨x63, h64, h⟩ := bnd h
 refine go ?_;intros
 refine c_call (c := c_dt9) (a1) H_dt9 h64 fun ch => ?_
 obtain ⟨x69, h70, h⟩ := bnd h
 refine go ?_;intros
 refine c_callg (c := c_dr9) (x63, x5, (⟨q48.1, q20.2.1, q20.2.2⟩ : Commit)) H_dr9 h70 fun ch => ?_
 refine go ?_;intros
 cases h
 exact r_endg
theorem d_ed9 {G : Gam} (H_cb9 : Has G c_cb9) (H_do9 : Has G c_do9) (H_cq9 : Has G c_cq9) (H_dv9 : Has G c_dv9) (a0 : Rd) (g0 : Option Addr) (g1 : Nat) (r : (Repo × Int)) (h : gf_ed9 a0 = some r) : Does G if_ed9 ks_ed9 (c_ed9.args (a0, g0, g1)) (c_ed9.ins (a0, g0, g1)) (c_ed9.ans (a0, g0, g1) r) := by
 refine does_pg (L := fun bs => [(0, .ptr 0 (bs 0).1 290 0 0)]) (H := fun bs => [(0, ⟨(bs 0).1, (bs 0).2, 290, true, [[.rw g0 g1 (List.map eU8 a0.b), .v (.int .i64 a0.p)]]⟩)]) (fun bs => pin) (fun bs => pinh) fun bs t o => ?_
 show vwp _ ib_ed9 _ _
 unfold ib_ed9
 refine w_ir ?_
 unfold gf_ed9 at h
 obtain ⟨x2, h3, h⟩ := bnd h
 refine go ?_;intros
 refine c_call (c := c_cb9) ((⟨#[109, 97, 105, 110]⟩ : Str)) H_cb9 h3 fun ch => ?_
 refine go ?_;intros
 refine r_pfz ?_
 refine go ?_;intros
 refine r_pz (f := (eCommit true)) (g := eCommitX) (pf_Commit _) rfl rfl ?_
 refine go ?_;intros
 refine r_frz ?_
 obtain ⟨x9, h10, h⟩ := bnd h
 refine go ?_;intros
 refine c_callg (c := c_do9) (a0, g0, g1) H_do9 h10 fun ch => ?_
 refine go ?_;intros
 refine c_fz ?_
 obtain ⟨x13, h14, h⟩ := bnd h
 refine go ?_;intros
 refine r_ire (xs := x2.1.commits) rfl rfl h14 rfl ?_
 refine go ?_;intros
 refine c_ste (f := eCommitX) x2.1.commits (⟨x13.up, x9.1, x13.note⟩ : Commit) (idx_get h14).2 ?_
 obtain ⟨x15, h16, h⟩ := bnd h
 refine go ?_;intros
 refine c_callg (c := c_cq9) ((⟨a0.b, x9.2⟩ : Rd), 7, g0, g1) H_cq9 h16 fun ch => ?_
 obtain ⟨q56, h94, h⟩ := bnd h
 refine go ?_;intros
 refine w_last (fun t o => ∃ b78 c79 b80 c81 b82 b84 c85 b87 c88 b89, Pin t (ovr [(0, .ptr 0 (bs 0).1 290 0 0), (2, .ptr 16 b82 210 0 0), (3, .ptr 24 b89 210 0 0)] t) ∧ PinH o (ovh [(0, ⟨(bs 0).1, (bs 0).2, 290, true, [[.rw g0 g1 (List.map eU8 a0.b), .v (.int .i64 q56.1)]]⟩), (1000256, ent b78 c79 115 (List.map (eCommit true) [])), (1000257, ent b80 c81 130 (List.map eHead [])), (16, ⟨b82, 1, 210, true, [[.al 1000256 b78 c79 0 ([] : List Commit).length 115, .al 1000257 b80 c81 0 ([] : List Head).length 130]]⟩), (1000384, ent b84 c85 115 (List.map eCommitX q56.2.1)), (1000385, ent b87 c88 130 (List.map eHead q56.2.2)), (24, ⟨b89, 1, 210, true, [[.al 1000384 b84 c85 0 q56.2.1.length 115, .al 1000385 b87 c88 0 q56.2.2.length 130]]⟩)] o)) ?_ ?_
 ·refine w_loop2 (fun n t o => ∃ n71 v57 v58 v64 v67 b59 c60 b61 c62 b63 b65 c66 b68 c69 b70, gl_ed9_1 a0 n71 v57 v58 v64 v67 = some q56 ∧ n71 = n ∧ Pin t (ovr [(0, .ptr 0 (bs 0).1 290 0 0), (2, .ptr 16 b63 210 0 0), (3, .ptr 24 b70 210 0 0), (5, .v (.int .i64 v57))] t) ∧ PinH o (ovh [(0, ⟨(bs 0).1, (bs 0).2, 290, true, [[.rw g0 g1 (List.map eU8 a0.b), .v (.int .i64 v58)]]⟩), (1000256, ent b59 c60 115 (List.map (eCommit true) [])), (1000257, ent b61 c62 130 (List.map eHead [])), (16, ⟨b63, 1, 210, true, [[.al 1000256 b59 c60 0 ([] : List Commit).length 115, .al 1000257 b61 c62 0 ([] : List Head).length 130]]⟩), (1000384, ent b65 c66 115 (List.map eCommitX v64)), (1000385, ent b68 c69 130 (List.map eHead v67)), (24, ⟨b70, 1, 210, true, [[.al 1000384 b65 c66 0 v64.length 115, .al 1000385 b68 c69 0 v67.length 130]]⟩)] o)) _ ⟨_, _, _, _, _, _, _, _, _, _, _, _, _, _, _, h94, rfl, pin, pinh⟩ ?_
  rintro n t o ⟨n71, v57, v58, v64, v67, b59, c60, b61, c62, b63, b65, c66, b68, c69, b70, h94, rfl, pq1, pq2⟩
  refine pinned pq1 pq2 ?_
  cases n71 with
  | zero => rw [gl_ed9_1] at h94; cases h94
  | succ n71 =>
   rw [gl_ed9_1] at h94
   refine go ?_;intros
   refine w_cond rfl (fun c => ?_) (fun c => ?_)
   ·replace h94 := itt h94 c
    try rw [c]
    refine go ?_;intros
    refine r_rawl ?_
    refine go ?_;intros
    refine r_rl rfl rfl ?_
    refine go ?_;intros
    refine r_pfz ?_
    refine go ?_;intros
    refine r_unr ?_
    obtain ⟨x72, h73, h94⟩ := bnd h94
    rcases x72 with ⟨_ | y74, p75⟩
    ·dsimp only at h94
     refine go ?_;intros
     refine c_callg (c := c_dv9) ((⟨a0.b, v58⟩ : Rd), (⟨v64, v67⟩ : Repo), g0, g1, (hdrA b65), c66, (hdrA b68), c69) H_dv9 h73 fun ch76 => ?_
     refine go ?_;intros
     refine r_un rfl (un_hit rfl rfl (by first | rfl | simp) (un_hit rfl rfl (by first | rfl | simp) un_nil)) ?_
     refine go ?_;intros
     refine r_pz (f := eCommitX) (g := eCommitX) (pf_CommitX _) rfl rfl ?_
     refine go ?_;intros
     exact k_ln2 _ (Nat.lt_succ_self _) ⟨_, _, _, _, _, _, _, _, _, _, _, _, _, _, _, h94, rfl, pin, pinh⟩
    dsimp only at h94
    refine go ?_;intros
    refine c_callg (c := c_dv9) ((⟨a0.b, v58⟩ : Rd), (⟨v64, v67⟩ : Repo), g0, g1, (hdrA b65), c66, (hdrA b68), c69) H_dv9 h73 fun ch76 => ?_
    refine go ?_;intros
    refine r_un rfl (un_ref (un_ref un_nil)) ?_
    refine go ?_;intros
    refine r_pz (f := (eCommit true)) (g := eCommitX) (pf_Commit _) rfl rfl ?_
    refine go ?_;intros
    exact k_ln2 _ (Nat.lt_succ_self _) ⟨_, _, _, _, _, _, _, _, _, _, _, _, _, _, _, h94, rfl, pin, pinh⟩
   replace h94 := itf h94 c
   try rw [c]
   refine go ?_;intros
   cases h94
   exact k_cn ⟨_, _, _, _, _, _, _, _, _, _, pin, pinh⟩
 rintro t o ⟨b78, c79, b80, c81, b82, b84, c85, b87, c88, b89, pq1, pq2⟩
 refine pinnedQ pq1 pq2 ?_
 obtain ⟨x90, h91, h⟩ := bnd h
 refine go ?_;intros
 refine c_callg (c := c_cq9) ((⟨a0.b, q56.1⟩ : Rd), 4, g0, g1) H_cq9 h91 fun ch => ?_
 refine go ?_;intros
 refine s_split rfl (fun c => ?_) (fun c => ?_)
 ·replace h := itt h c
  rw [c]
  refine go ?_;intros
  refine w_cond rfl (fun c => ?_) (fun c => ?_)
  ·replace h := itt h (by first | exact c | (have c2 := c; simp only [List.length_map] at c2; exact c2))
   try rw [c]
   refine go ?_;intros
   refine r_trn ?_
   obtain ⟨x92, h93, h⟩ := bnd h
   refine go ?_;intros
   refine r_slr (xs := q56.2.2) h93 rfl rfl rfl rfl (by first | rfl | simp) ?_
   refine go ?_;intros
   refine r_tr (f := eHead) h93 rfl rfl rfl ?_
   refine go ?_;intros
   cases h
   exact r_endg
  replace h := itf h (by first | exact c | (have c2 := c; simp only [List.length_map] at c2; exact c2))
  try rw [c]
  refine go ?_;intros
  cases h
  exact r_endg
 replace h := itf h c
 rw [c]
 refine go ?_;intros
 cases h
 exact r_endg
end Go.Proofs.AM
