/- Lemmas of the proof (KOF8), on an abstract machine. Conditions: none. -/
import Derived.Test.YtbildbphkmdemaaKOD
set_option linter.unusedVariables false
set_option linter.unusedSimpArgs false
set_option maxRecDepth 100000
set_option maxHeartbeats 4000000
namespace Go.Proofs.AM
attribute [local irreducible] vwp vstps vstpLs vstp vdo vret kseq kblk kloop kend kcut kloop2 frzV renV shutK pfzV trnV unrV
theorem d_de9 {G : Gam} (H_dc9 : Has G c_dc9) (H_cw9 : Has G c_cw9) (H_dg9 : Has G c_dg9) (H_di9 : Has G c_di9) (H_dh9 : Has G c_dh9) (a0 : Rd) (a1 : Str) (g0 : Option Addr) (g1 : Nat) (r : (Feat × Int)) (h : gf_de9 a0 a1 = some r) : Does G if_de9 ks_de9 (c_de9.args (a0, a1, g0, g1)) (c_de9.ins (a0, a1, g0, g1)) (c_de9.ans (a0, a1, g0, g1) r) := by
 refine does_pg (L := fun bs => [(0, .ptr 0 (bs 0).1 290 0 0), (1, .v (.string a1))]) (H := fun bs => [(0, ⟨(bs 0).1, (bs 0).2, 290, true, [[.rw g0 g1 (List.map eU8 a0.b), .v (.int .i64 a0.p)]]⟩)]) (fun bs => pin) (fun bs => pinh) fun bs t o => ?_
 show vwp _ ib_de9 _ _
 unfold ib_de9
 refine w_ir ?_
 unfold gf_de9 at h
 obtain ⟨x2, h3, h⟩ := bnd h
 refine go ?_;intros
 refine c_callg (c := c_dc9) (a0, g0, g1) H_dc9 h3 fun ch => ?_
 obtain ⟨x7, h8, h⟩ := bnd h
 refine go ?_;intros
 refine c_callg (c := c_cw9) ((⟨a0.b, x2.2⟩ : Rd), 4, g0, g1) H_cw9 h8 fun ch => ?_
 obtain ⟨q56, h91, h⟩ := bnd h
 refine go ?_;intros
 refine w_last (fun t o => ∃ b79 c80 b81 c82 b83 b84 c85 b87 c88 b89, Pin t (ovr [(4, .ptr 32 b83 100 0 0), (5, .ptr 40 b89 100 0 0)] t) ∧ PinH o (ovh [(1000514, ent b79 c80 66 (List.map ePt [])), (1000515, ent b81 c82 82 (List.map eTag [])), (32, ⟨b83, 1, 100, true, [[.v (.string (⟨#[]⟩ : Str)), .v (.int .i64 0), .al 1000514 b79 c80 0 ([] : List Pt).length 66, .al 1000515 b81 c82 0 ([] : List Tag).length 82]]⟩), (1000642, ent b84 c85 66 (List.map ePt x2.1.pts)), (1000643, ent b87 c88 82 (List.map eTag q56.1)), (40, ⟨b89, 1, 100, true, [[.v (.string a1), .v (.int .i64 x2.1.kind), .al 1000642 b84 c85 0 x2.1.pts.length 66, .al 1000643 b87 c88 0 q56.1.length 82]]⟩), (0, ⟨(bs 0).1, (bs 0).2, 290, true, [[.rw g0 g1 (List.map eU8 a0.b), .v (.int .i64 q56.2)]]⟩)] o)) ?_ ?_
 ·refine w_loop2 (fun n t o => ∃ n70 v57 v58 v66 b59 c60 b61 c62 b63 b64 c65 b67 c68 b69, gl_de9_1 a0 n70 v57 v58 v66 = some q56 ∧ n70 = n ∧ Pin t (ovr [(0, .ptr 0 (bs 0).1 290 0 0), (4, .ptr 32 b63 100 0 0), (5, .ptr 40 b69 100 0 0), (6, .v (.int .i64 v57))] t) ∧ PinH o (ovh [(0, ⟨(bs 0).1, (bs 0).2, 290, true, [[.rw g0 g1 (List.map eU8 a0.b), .v (.int .i64 v58)]]⟩), (1000514, ent b59 c60 66 (List.map ePt [])), (1000515, ent b61 c62 82 (List.map eTag [])), (32, ⟨b63, 1, 100, true, [[.v (.string (⟨#[]⟩ : Str)), .v (.int .i64 0), .al 1000514 b59 c60 0 ([] : List Pt).length 66, .al 1000515 b61 c62 0 ([] : List Tag).length 82]]⟩), (1000642, ent b64 c65 66 (List.map ePt x2.1.pts)), (1000643, ent b67 c68 82 (List.map eTag v66)), (40, ⟨b69, 1, 100, true, [[.v (.string a1), .v (.int .i64 x2.1.kind), .al 1000642 b64 c65 0 x2.1.pts.length 66, .al 1000643 b67 c68 0 v66.length 82]]⟩)] o)) _ ⟨_, _, _, _, _, _, _, _, _, _, _, _, _, _, h91, rfl, pin, pinh⟩ ?_
  rintro n t o ⟨n70, v57, v58, v66, b59, c60, b61, c62, b63, b64, c65, b67, c68, b69, h91, rfl, pq1, pq2⟩
  refine pinned pq1 pq2 ?_
  cases n70 with
  | zero => rw [gl_de9_1] at h91; cases h91
  | succ n70 =>
   rw [gl_de9_1] at h91
   refine go ?_;intros
   refine w_cond rfl (fun c => ?_) (fun c => ?_)
   ·replace h91 := itt h91 c
    try rw [c]
    obtain ⟨x71, h72, h91⟩ := bnd h91
    refine go ?_;intros
    refine c_callg (c := c_dg9) ((⟨a0.b, v58⟩ : Rd), g0, g1) H_dg9 h72 fun ch => ?_
    obtain ⟨x73, h74, h91⟩ := bnd h91
    refine go ?_;intros
    refine c_callg (c := c_di9) ((⟨a0.b, x71.2⟩ : Rd), g0, g1) H_di9 h74 fun ch => ?_
    obtain ⟨x75, h76, h91⟩ := bnd h91
    refine go ?_;intros
    refine c_call (c := c_dh9) (v66, x71.1, x73.1) H_dh9 h76 fun ch => ?_
    refine go ?_;intros
    exact k_ln2 _ (Nat.lt_succ_self _) ⟨_, _, _, _, _, _, _, _, _, _, _, _, _, _, h91, rfl, pin, pinh⟩
   replace h91 := itf h91 c
   try rw [c]
   refine go ?_;intros
   cases h91
   exact k_cn ⟨_, _, _, _, _, _, _, _, _, _, pin, pinh⟩
 rintro t o ⟨b79, c80, b81, c82, b83, b84, c85, b87, c88, b89, pq1, pq2⟩
 refine pinnedQ pq1 pq2 ?_
 refine go ?_;intros
 cases h
 exact r_endg
theorem d_cx9 {G : Gam} (H_dc9 : Has G c_dc9) (H_cw9 : Has G c_cw9) (H_cu9 : Has G c_cu9) (a0 : Rd) (g0 : Option Addr) (g1 : Nat) (r : (Shape × Int)) (h : gf_cx9 a0 = some r) : Does G if_cx9 ks_cx9 (c_cx9.args (a0, g0, g1)) (c_cx9.ins (a0, g0, g1)) (c_cx9.ans (a0, g0, g1) r) := by
 refine does_pg (L := fun bs => [(0, .ptr 0 (bs 0).1 290 0 0)]) (H := fun bs => [(0, ⟨(bs 0).1, (bs 0).2, 290, true, [[.rw g0 g1 (List.map eU8 a0.b), .v (.int .i64 a0.p)]]⟩)]) (fun bs => pin) (fun bs => pinh) fun bs t o => ?_
 show vwp _ ib_cx9 _ _
 unfold ib_cx9
 refine w_ir ?_
 unfold gf_cx9 at h
 obtain ⟨x2, h3, h⟩ := bnd h
 refine go ?_;intros
 refine c_callg (c := c_dc9) (a0, g0, g1) H_dc9 h3 fun ch => ?_
 obtain ⟨x7, h8, h⟩ := bnd h
 refine go ?_;intros
 refine c_callg (c := c_cw9) ((⟨a0.b, x2.2⟩ : Rd), (x2.1.pts.length : Int), g0, g1) H_cw9 h8 fun ch => ?_
 obtain ⟨x9, h10, h⟩ := bnd h
 refine go ?_;intros
 refine c_callg (c := c_cw9) ((⟨a0.b, x7.2⟩ : Rd), 40, g0, g1) H_cw9 h10 fun ch => ?_
 obtain ⟨q11, h34, h⟩ := bnd h
 refine go ?_;intros
 refine w_cut (fun t o => ∃ b12 c13 b14 b15 c16 b17, Pin t (ovr [(0, .ptr 0 (bs 0).1 290 0 0), (2, .ptr 16 b14 226 0 0), (3, .ptr 24 b17 226 0 0), (4, .v (.int .i64 x7.1)), (13, .v (.int .i64 x9.1)), (14, .v (.bool (x9.1 == 0)))] t) ∧ PinH o (ovh [(0, ⟨(bs 0).1, (bs 0).2, 290, true, [[.rw g0 g1 (List.map eU8 a0.b), .v (.int .i64 x9.2)]]⟩), (1000257, ent b12 c13 66 (List.map ePt [])), (16, ⟨b14, 1, 226, true, [[.v (.int .i64 0), .al 1000257 b12 c13 0 ([] : List Pt).length 66]]⟩), (1000385, ent b15 c16 66 (List.map ePt x2.1.pts)), (24, ⟨b17, 1, 226, true, [[.v (.int .i64 x2.1.kind), .al 1000385 b15 c16 0 x2.1.pts.length 66]]⟩)] o)) ?_ ?_
 ·refine go ?_;intros
  cases h34
  exact k_cn ⟨_, _, _, _, _, _, pin, pinh⟩
 rintro t o ⟨b12, c13, b14, b15, c16, b17, pq1, pq2⟩
 refine pinned pq1 pq2 ?_
 refine go ?_;intros
 refine w_cond rfl (fun c => ?_) (fun c => ?_)
 ·replace h := itt h c
  try rw [c]
  obtain ⟨x19, h20, h⟩ := bnd h
  refine go ?_;intros
  refine c_callg (c := c_cu9) ((⟨a0.b, x9.2⟩ : Rd), ([0, 4, 1, 2, 3] : (List Int)), g0, g1) H_cu9 h20 fun ch => ?_
  refine go ?_;intros
  cases h
  exact r_endg
 replace h := itf h c
 try rw [c]
 refine go ?_;intros
 refine w_cond rfl (fun c => ?_) (fun c => ?_)
 ·replace h := itt h c
  try rw [c]
  obtain ⟨x22, h23, h⟩ := bnd h
  refine go ?_;intros
  refine c_callg (c := c_cu9) ((⟨a0.b, x9.2⟩ : Rd), ([1000, 1001, (-1001)] : (List Int)), g0, g1) H_cu9 h23 fun ch => ?_
  obtain ⟨x24, h25, h⟩ := bnd h
  refine go ?_;intros
  refine r_ire (xs := x2.1.pts) rfl rfl h25 rfl ?_
  refine go ?_;intros
  refine c_ste (f := ePt) x2.1.pts (⟨x22.1, x24.y⟩ : Pt) (idx_get h25).2 ?_
  refine go ?_;intros
  cases h
  exact r_endg
 replace h := itf h c
 try rw [c]
 refine go ?_;intros
 refine w_cond rfl (fun c => ?_) (fun c => ?_)
 ·replace h := itt h c
  try rw [c]
  obtain ⟨x26, h27, h⟩ := bnd h
  refine go ?_;intros
  refine r_ire (xs := x2.1.pts) rfl rfl h27 rfl ?_
  refine go ?_;intros
  refine r_lde (f := ePt) (xs := x2.1.pts) (x := x26) rfl rfl (idx_get h27).2 rfl rfl rfl ?_
  obtain ⟨h31, h⟩ := gd h
  refine go ?_;intros
  refine r_app (f := ePt) (xs := x2.1.pts) (ys := ([x26] : (List Pt))) rfl (src_mv rfl rfl (by first | rfl | simp)) rfl rfl (by first | rfl | simp) h31 fun b29 c30 => ?_
  refine go ?_;intros
  cases h
  exact r_endg
 replace h := itf h c
 try rw [c]
 refine go ?_;intros
 refine w_cond rfl (fun c => ?_) (fun c => ?_)
 ·replace h := itt h c
  try rw [c]
  refine go ?_;intros
  refine r_trn ?_
  obtain ⟨x32, h33, h⟩ := bnd h
  refine go ?_;intros
  refine r_slr (xs := x2.1.pts) h33 rfl rfl rfl rfl (by first | rfl | simp) ?_
  refine go ?_;intros
  refine r_tr (f := ePt) h33 rfl rfl rfl ?_
  refine go ?_;intros
  cases h
  exact r_endg
 replace h := itf h c
 try rw [c]
 refine go ?_;intros
 cases h
 exact r_endg
theorem d_dd9 {G : Gam} (H_df9 : Has G c_df9) (H_de9 : Has G c_de9) (H_cw9 : Has G c_cw9) (H_cv9 : Has G c_cv9) (H_cx9 : Has G c_cx9) (a0 : Rd) (g0 : Option Addr) (g1 : Nat) (r : (Feat × Int)) (h : gf_dd9 a0 = some r) : Does G if_dd9 ks_dd9 (c_dd9.args (a0, g0, g1)) (c_dd9.ins (a0, g0, g1)) (c_dd9.ans (a0, g0, g1) r) := by
 refine does_pg (L := fun bs => [(0, .ptr 0 (bs 0).1 290 0 0)]) (H := fun bs => [(0, ⟨(bs 0).1, (bs 0).2, 290, true, [[.rw g0 g1 (List.map eU8 a0.b), .v (.int .i64 a0.p)]]⟩)]) (fun bs => pin) (fun bs => pinh) fun bs t o => ?_
 show vwp _ ib_dd9 _ _
 unfold ib_dd9
 refine w_ir ?_
 unfold gf_dd9 at h
 obtain ⟨q2, h47, h⟩ := bnd h
 refine go ?_;intros
 refine w_cut (fun t o => ∃ b13 c14 b15 c16 b17 b19 c20 b22 c23 b26, Pin t (ovr [(0, .ptr 0 (bs 0).1 290 0 0), (2, .ptr 16 b17 100 0 0), (3, .ptr 24 b26 100 0 0)] t) ∧ PinH o (ovh [(0, ⟨(bs 0).1, (bs 0).2, 290, true, [[.rw g0 g1 (List.map eU8 a0.b), .v (.int .i64 q2.1)]]⟩), (1000258, ent b13 c14 66 (List.map ePt [])), (1000259, ent b15 c16 82 (List.map eTag [])), (16, ⟨b17, 1, 100, true, [[.v (.string (⟨#[]⟩ : Str)), .v (.int .i64 0), .al 1000258 b13 c14 0 ([] : List Pt).length 66, .al 1000259 b15 c16 0 ([] : List Tag).length 82]]⟩), (1000386, ent b19 c20 66 (List.map ePt q2.2.1)), (1000387, ent b22 c23 82 (List.map eTag q2.2.2.1)), (24, ⟨b26, 1, 100, true, [[.v (.string q2.2.2.2.1), .v (.int .i64 q2.2.2.2.2), .al 1000386 b19 c20 0 q2.2.1.length 66, .al 1000387 b22 c23 0 q2.2.2.1.length 82]]⟩)] o)) ?_ ?_
 ·obtain ⟨x3, h4, h47⟩ := bnd h47
  refine go ?_;intros
  refine c_callg (c := c_df9) (a0, g0, g1) H_df9 h4 fun ch => ?_
  obtain ⟨x5, h6, h47⟩ := bnd h47
  refine go ?_;intros
  refine c_callg (c := c_de9) ((⟨a0.b, x3.2⟩ : Rd), x3.1, g0, g1) H_de9 h6 fun ch => ?_
  refine go ?_;intros
  cases h47
  exact k_cn ⟨_, _, _, _, _, _, _, _, _, _, pin, pinh⟩
 rintro t o ⟨b13, c14, b15, c16, b17, b19, c20, b22, c23, b26, pq1, pq2⟩
 refine pinned pq1 pq2 ?_
 obtain ⟨x27, h28, h⟩ := bnd h
 refine go ?_;intros
 refine c_callg (c := c_cw9) ((⟨a0.b, q2.1⟩ : Rd), 40, g0, g1) H_cw9 h28 fun ch => ?_
 refine go ?_;intros
 refine w_cond rfl (fun c => ?_) (fun c => ?_)
 ·replace h := itt h c
  try rw [c]
  obtain ⟨x30, h31, h⟩ := bnd h
  refine go ?_;intros
  refine c_callg (c := c_cv9) ((⟨a0.b, x27.2⟩ : Rd), ([(⟨#[]⟩ : Str), (⟨#[65]⟩ : Str), (⟨#[97, 98, 99, 100, 101, 102, 103]⟩ : Str)] : (List Str)), g0, g1) H_cv9 h31 fun ch => ?_
  refine go ?_;intros
  cases h
  exact r_endg
 replace h := itf h c
 try rw [c]
 refine go ?_;intros
 refine w_cond rfl (fun c => ?_) (fun c => ?_)
 ·replace h := itt h c
  try rw [c]
  obtain ⟨x32, h33, h⟩ := bnd h
  refine go ?_;intros
  refine c_callg (c := c_cx9) ((⟨a0.b, x27.2⟩ : Rd), g0, g1) H_cx9 h33 fun ch => ?_
  refine go ?_;intros
  cases h
  exact r_endg
 replace h := itf h c
 try rw [c]
 refine go ?_;intros
 refine w_cond rfl (fun c => ?_) (fun c => ?_)
 ·replace h := itt h c
  try rw [c]
  obtain ⟨h39, h⟩ := gd h
  refine go ?_;intros
  refine r_app (f := eTag) (xs := q2.2.2.1) (ys := ([(⟨(⟨#[97]⟩ : Str), (⟨#[98]⟩ : Str)⟩ : Tag)] : (List Tag))) rfl (src_mv rfl rfl (by first | rfl | simp)) rfl rfl (by first | rfl | simp) h39 fun b37 c38 => ?_
  refine go ?_;intros
  cases h
  exact r_endg
 replace h := itf h c
 try rw [c]
 refine go ?_;intros
 refine w_cond rfl (fun c => ?_) (fun c => ?_)
 ·replace h := itt h c
  try rw [c]
  obtain ⟨x41, h42, h⟩ := bnd h
  refine go ?_;intros
  refine c_callg (c := c_cv9) ((⟨a0.b, x27.2⟩ : Rd), ([(⟨#[]⟩ : Str), (⟨#[66]⟩ : Str)] : (List Str)), g0, g1) H_cv9 h42 fun ch => ?_
  obtain ⟨h46, h⟩ := gd h
  refine go ?_;intros
  refine r_app (f := eTag) (xs := q2.2.2.1) (ys := ([(⟨(⟨#[122, 122]⟩ : Str), x41.1⟩ : Tag)] : (List Tag))) rfl (src_mv rfl rfl (by first | rfl | simp)) rfl rfl (by first | rfl | simp) h46 fun b44 c45 => ?_
  refine go ?_;intros
  cases h
  exact r_endg
 replace h := itf h c
 try rw [c]
 refine go ?_;intros
 cases h
 exact r_endg
theorem d_dl9 {G : Gam}  (a0 : (List Feat)) (a1 : Feat) (r : (List Feat)) (h : gf_dl9 a0 a1 = some r) : Does G if_dl9 ks_dl9 (c_dl9.args (a0, a1)) (c_dl9.ins (a0, a1)) (c_dl9.ans (a0, a1) r) := by
 refine does_pg (L := fun bs => [(0, .ref 0 (bs 0).1 (bs 0).2 0 a0.length 100), (1, .agg [.v (.string a1.id), .v (.int .i64 a1.shape.kind), .ro (List.map ePt a1.shape.pts), .ro (List.map eTag a1.tags)])]) (H := fun bs => [(0, ent (bs 0).1 (bs 0).2 100 (List.map (eFeat false) a0))]) (fun bs => pin) (fun bs => pinh) fun bs t o => ?_
 show vwp _ ib_dl9 _ _
 unfold ib_dl9
 refine w_ir ?_
 unfold gf_dl9 at h
 obtain ⟨hf100, h⟩ := gd h
 obtain ⟨q85, h128, h⟩ := bnd h
 refine go ?_;intros
 refine w_last (fun t o => ∃ b120 b122 c123, Pin t (ovr [(3, .ptr 24 b120 100 0 0), (5, .ref 64 b122 c123 0 q85.2.length 100), (6, .v (.bool q85.1))] t) ∧ PinH o (ovh [(24, ⟨b120, 1, 100, true, [[.v (.string a1.id), .v (.int .i64 a1.shape.kind), .sl false 2 (List.map ePt a1.shape.pts), .sl false 2 (List.map eTag a1.tags)]]⟩), (64, ent b122 c123 100 (List.map (eFeat false) q85.2))] o)) ?_ ?_
 ·refine w_loop2 (fun n t o => ∃ l94 k92 v86 v89 b88 b90 c91, gl_dl9_1 a1 l94 k92 v86 v89 = some q85 ∧ n = l94.length ∧ (a0).drop k92 = l94 ∧ Pin t (ovr [(0, .ref 0 (bs 0).1 (bs 0).2 0 a0.length 100), (3, .ptr 24 b88 100 0 0), (5, .ref 64 b90 c91 0 v89.length 100), (6, .v (.bool v86)), (7, .v (.int .i64 (k92 : Int)))] t) ∧ PinH o (ovh [(0, ent (bs 0).1 (bs 0).2 100 (List.map (eFeat false) a0)), (24, ⟨b88, 1, 100, true, [[.v (.string a1.id), .v (.int .i64 a1.shape.kind), .sl false 2 (List.map ePt a1.shape.pts), .sl false 2 (List.map eTag a1.tags)]]⟩), (64, ent b90 c91 100 (List.map (eFeat false) v89))] o)) _ ⟨_, _, _, _, _, _, _, h128, rfl, rfl, pin, pinh⟩ ?_
  rintro n t o ⟨l94, k92, v86, v89, b88, b90, c91, h128, rfl, hd95, pq1, pq2⟩
  refine pinned pq1 pq2 ?_
  cases l94 with
  | nil =>
   have hge97 := drop_ge hd95
   rw [gl_dl9_1] at h128
   refine go ?_;intros
   rw [hge97]
   refine go ?_;intros
   cases h128
   exact k_cn ⟨_, _, _, pin, pinh⟩
  | cons x93 l94 =>
   have hlt96 := drop_lt hd95
   have hx98 := drop_ix hd95
   have hw99 := drop_wr hd95 hf100
   rw [gl_dl9_1] at h128
   refine go ?_;intros
   rw [hlt96]
   obtain ⟨q105, h129, h128⟩ := bnd h128
   refine go ?_;intros
   refine w_cut (fun t o => ∃ b111 b113 c114, Pin t (ovr [(0, .ref 0 (bs 0).1 (bs 0).2 0 a0.length 100), (3, .ptr 24 b111 100 0 0), (5, .ref 64 b113 c114 0 q105.2.length 100), (6, .v (.bool q105.1)), (7, .v (.int .i64 (k92 : Int)))] t) ∧ PinH o (ovh [(0, ent (bs 0).1 (bs 0).2 100 (List.map (eFeat false) a0)), (24, ⟨b111, 1, 100, true, [[.v (.string a1.id), .v (.int .i64 a1.shape.kind), .sl false 2 (List.map ePt a1.shape.pts), .sl false 2 (List.map eTag a1.tags)]]⟩), (64, ent b113 c114 100 (List.map (eFeat false) q105.2))] o)) ?_ ?_
   ·refine go ?_;intros
    refine s_split rfl (fun c => ?_) (fun c => ?_)
    ·replace h129 := itt h129 c
     rw [c]
     refine go ?_;intros
     refine r_ire (xs := a0) rfl rfl hx98 rfl ?_
     refine go ?_;intros
     refine r_lde (f := (eFeat false)) (xs := a0) (x := x93) rfl rfl (idx_get hx98).2 rfl rfl rfl ?_
     refine go ?_;intros
     refine w_cond rfl (fun c => ?_) (fun c => ?_)
     ·replace h129 := itt h129 c
      try rw [c]
      obtain ⟨h109, h129⟩ := gd h129
      refine go ?_;intros
      refine r_app (f := (eFeat false)) (xs := v89) (ys := ([a1] : (List Feat))) rfl (src_mv rfl rfl (by first | rfl | simp)) rfl rfl (by first | rfl | simp) h109 fun b107 c108 => ?_
      refine go ?_;intros
      cases h129
      exact k_cn ⟨_, _, _, pin, pinh⟩
     replace h129 := itf h129 c
     try rw [c]
     refine go ?_;intros
     cases h129
     exact k_cn ⟨_, _, _, pin, pinh⟩
    replace h129 := itf h129 c
    rw [c]
    refine go ?_;intros
    cases h129
    exact k_cn ⟨_, _, _, pin, pinh⟩
   rintro t o ⟨b111, b113, c114, pq1, pq2⟩
   refine pinned pq1 pq2 ?_
   refine go ?_;intros
   refine r_ire (xs := a0) rfl rfl hx98 rfl ?_
   refine go ?_;intros
   refine r_lde (f := (eFeat false)) (xs := a0) (x := x93) rfl rfl (idx_get hx98).2 rfl rfl rfl ?_
   refine go ?_;intros
   refine w_cond rfl (fun c => ?_) (fun c => ?_)
   ·replace h128 := itt h128 c
    try rw [c]
    refine go ?_;intros
    refine r_ire (xs := a0) rfl rfl hx98 rfl ?_
    refine go ?_;intros
    refine r_lde (f := (eFeat false)) (xs := a0) (x := x93) rfl rfl (idx_get hx98).2 rfl rfl rfl ?_
    obtain ⟨h118, h128⟩ := gd h128
    refine go ?_;intros
    refine r_app (f := (eFeat false)) (xs := q105.2) (ys := ([x93] : (List Feat))) rfl (src_mv rfl rfl (by first | rfl | simp)) rfl rfl (by first | rfl | simp) h118 fun b116 c117 => ?_
    refine go ?_;intros
    rw [hw99]
    exact k_ln2 _ (Nat.lt_succ_self _) ⟨_, _, _, _, _, _, _, h128, rfl, drop_next hd95, pin, pinh⟩
   replace h128 := itf h128 c
   try rw [c]
   refine go ?_;intros
   rw [hw99]
   exact k_ln2 _ (Nat.lt_succ_self _) ⟨_, _, _, _, _, _, _, h128, rfl, drop_next hd95, pin, pinh⟩
 rintro t o ⟨b120, b122, c123, pq1, pq2⟩
 refine pinnedQ pq1 pq2 ?_
 refine go ?_;intros
 refine w_cond rfl (fun c => ?_) (fun c => ?_)
 ·replace h := itt h c
  try rw [c]
  obtain ⟨h127, h⟩ := gd h
  refine go ?_;intros
  refine r_app (f := (eFeat false)) (xs := q85.2) (ys := ([a1] : (List Feat))) rfl (src_mv rfl rfl (by first | rfl | simp)) rfl rfl (by first | rfl | simp) h127 fun b125 c126 => ?_
  refine go ?_;intros
  cases h
  exact r_endg
 replace h := itf h c
 try rw [c]
 refine go ?_;intros
 cases h
 exact r_endg
theorem d_dm9 {G : Gam} (H_cw9 : Has G c_cw9) (H_df9 : Has G c_df9) (H_de9 : Has G c_de9) (H_dl9 : Has G c_dl9) (a0 : Rd) (g0 : Option Addr) (g1 : Nat) (r : ((List Feat) × Int)) (h : gf_dm9 a0 = some r) : Does G if_dm9 ks_dm9 (c_dm9.args (a0, g0, g1)) (c_dm9.ins (a0, g0, g1)) (c_dm9.ans (a0, g0, g1) r) := by
 refine does_pg (L := fun bs => [(0, .ptr 0 (bs 0).1 290 0 0)]) (H := fun bs => [(0, ⟨(bs 0).1, (bs 0).2, 290, true, [[.rw g0 g1 (List.map eU8 a0.b), .v (.int .i64 a0.p)]]⟩)]) (fun bs => pin) (fun bs => pinh) fun bs t o => ?_
 show vwp _ ib_dm9 _ _
 unfold ib_dm9
 refine w_ir ?_
 unfold gf_dm9 at h
 refine go ?_;intros
 refine r_ren ?_
 refine go ?_;intros
 refine r_rn rfl rfl ?_
 obtain ⟨x2, h3, h⟩ := bnd h
 refine go ?_;intros
 refine c_callg (c := c_cw9) (a0, 5, g0, g1) H_cw9 h3 fun ch => ?_
 obtain ⟨q47, h70, h⟩ := bnd h
 refine go ?_;intros
 refine w_last (fun t o => ∃ b67 c68, Pin t (ovr [(3, .ref 2000003 b67 c68 0 q47.1.length 100)] t) ∧ PinH o (ovh [(2000003, ent b67 c68 100 (List.map (eFeat false) q47.1)), (0, ⟨(bs 0).1, (bs 0).2, 290, true, [[.rw g0 g1 (List.map eU8 a0.b), .v (.int .i64 q47.2)]]⟩)] o)) ?_ ?_
 ·refine w_loop2 (fun n t o => ∃ n53 v48 v49 v50 b51 c52, gl_dm9_1 a0 n53 v48 v49 v50 = some q47 ∧ n53 = n ∧ Pin t (ovr [(0, .ptr 0 (bs 0).1 290 0 0), (3, .ref 2000003 b51 c52 0 v50.length 100), (4, .v (.int .i64 v48))] t) ∧ PinH o (ovh [(0, ⟨(bs 0).1, (bs 0).2, 290, true, [[.rw g0 g1 (List.map eU8 a0.b), .v (.int .i64 v49)]]⟩), (2000003, ent b51 c52 100 (List.map (eFeat false) v50))] o)) _ ⟨_, _, _, _, _, _, h70, rfl, pin, pinh⟩ ?_
  rintro n t o ⟨n53, v48, v49, v50, b51, c52, h70, rfl, pq1, pq2⟩
  refine pinned pq1 pq2 ?_
  cases n53 with
  | zero => rw [gl_dm9_1] at h70; cases h70
  | succ n53 =>
   rw [gl_dm9_1] at h70
   refine go ?_;intros
   refine w_cond rfl (fun c => ?_) (fun c => ?_)
   ·replace h70 := itt h70 c
    try rw [c]
    obtain ⟨x54, h55, h70⟩ := bnd h70
    refine go ?_;intros
    refine c_callg (c := c_df9) ((⟨a0.b, v49⟩ : Rd), g0, g1) H_df9 h55 fun ch => ?_
    refine go ?_;intros
    refine r_frz ?_
    obtain ⟨x56, h57, h70⟩ := bnd h70
    refine go ?_;intros
    refine c_callg (c := c_de9) ((⟨a0.b, x54.2⟩ : Rd), x54.1, g0, g1) H_de9 h57 fun ch => ?_
    refine go ?_;intros
    refine c_fz ?_
    obtain ⟨x62, h63, h70⟩ := bnd h70
    refine go ?_;intros
    refine c_callg (c := c_dl9) (v50, x56.1) H_dl9 h63 fun ch => ?_
    refine go ?_;intros
    refine r_ren ?_
    refine go ?_;intros
    refine r_rn rfl rfl ?_
    refine go ?_;intros
    exact k_ln2 _ (Nat.lt_succ_self _) ⟨_, _, _, _, _, _, h70, rfl, pin, pinh⟩
   replace h70 := itf h70 c
   try rw [c]
   refine go ?_;intros
   cases h70
   exact k_cn ⟨_, _, pin, pinh⟩
 rintro t o ⟨b67, c68, pq1, pq2⟩
 refine pinnedQ pq1 pq2 ?_
 refine go ?_;intros
 cases h
 exact r_endg
theorem d_dj9 {G : Gam} (H_dm9 : Has G c_dm9) (H_cw9 : Has G c_cw9) (H_dd9 : Has G c_dd9) (H_dl9 : Has G c_dl9) (a0 : Rd) (g0 : Option Addr) (g1 : Nat) (r : ((List Feat) × Int)) (h : gf_dj9 a0 = some r) : Does G if_dj9 ks_dj9 (c_dj9.args (a0, g0, g1)) (c_dj9.ins (a0, g0, g1)) (c_dj9.ans (a0, g0, g1) r) := by
 refine does_pg (L := fun bs => [(0, .ptr 0 (bs 0).1 290 0 0)]) (H := fun bs => [(0, ⟨(bs 0).1, (bs 0).2, 290, true, [[.rw g0 g1 (List.map eU8 a0.b), .v (.int .i64 a0.p)]]⟩)]) (fun bs => pin) (fun bs => pinh) fun bs t o => ?_
 show vwp _ ib_dj9 _ _
 unfold ib_dj9
 refine w_ir ?_
 unfold gf_dj9 at h
 obtain ⟨x1, h2, h⟩ := bnd h
 refine go ?_;intros
 refine c_callg (c := c_dm9) (a0, g0, g1) H_dm9 h2 fun ch => ?_
 refine go ?_;intros
 refine r_ren ?_
 refine go ?_;intros
 refine r_rn rfl rfl ?_
 obtain ⟨x5, h6, h⟩ := bnd h
 refine go ?_;intros
 refine c_callg (c := c_cw9) ((⟨a0.b, x1.2⟩ : Rd), 40, g0, g1) H_cw9 h6 fun ch => ?_
 refine go ?_;intros
 refine w_cond rfl (fun c => ?_) (fun c => ?_)
 ·replace h := itt h c
  try rw [c]
  refine go ?_;intros
  refine r_frz ?_
  obtain ⟨x7, h8, h⟩ := bnd h
  refine go ?_;intros
  refine c_callg (c := c_dd9) ((⟨a0.b, x5.2⟩ : Rd), g0, g1) H_dd9 h8 fun ch => ?_
  refine go ?_;intros
  refine c_fz ?_
  obtain ⟨h16, h⟩ := gd h
  refine go ?_;intros
  refine r_app (f := (eFeat false)) (xs := x1.1) (ys := ([x7.1] : (List Feat))) rfl (src_mv rfl rfl (by first | rfl | simp)) rfl rfl (by first | rfl | simp) h16 fun b14 c15 => ?_
  refine go ?_;intros
  refine r_ren ?_
  refine go ?_;intros
  refine r_rn rfl rfl ?_
  refine go ?_;intros
  cases h
  exact r_endg
 replace h := itf h c
 try rw [c]
 refine go ?_;intros
 refine w_cond rfl (fun c => ?_) (fun c => ?_)
 ·replace h := itt h c
  try rw [c]
  obtain ⟨h19, h⟩ := gd h
  refine go ?_;intros
  refine r_app (f := (eFeat false)) (xs := x1.1) (ys := x1.1) rfl (src_cp (f := (eFeat false)) rfl (by first | rfl | simp) (fun _ => rfl)) rfl rfl (by first | rfl | simp) h19 fun b17 c18 => ?_
  refine go ?_;intros
  cases h
  exact r_endg
 replace h := itf h c
 try rw [c]
 refine go ?_;intros
 refine w_cond rfl (fun c => ?_) (fun c => ?_)
 ·replace h := itt h c
  try rw [c]
  obtain ⟨q47, h63, h⟩ := bnd h
  refine go ?_;intros
  refine w_last (fun t o => ∃ b61 c62, Pin t (ovr [(3, .ref 2000003 b61 c62 0 q47.length 100)] t) ∧ PinH o (ovh [(2000003, ent b61 c62 100 (List.map (eFeat false) q47)), (0, ⟨(bs 0).1, (bs 0).2, 290, true, [[.rw g0 g1 (List.map eU8 a0.b), .v (.int .i64 x5.2)]]⟩)] o)) ?_ ?_
  ·refine w_loop2 (fun n t o => ∃ n52 v48 v49 b50 c51, gl_dj9_1 n52 v48 v49 = some q47 ∧ n52 = n ∧ Pin t (ovr [(3, .ref 2000003 b50 c51 0 v49.length 100), (4, .v (.int .i64 v48))] t) ∧ PinH o (ovh [(2000003, ent b50 c51 100 (List.map (eFeat false) v49)), (0, ⟨(bs 0).1, (bs 0).2, 290, true, [[.rw g0 g1 (List.map eU8 a0.b), .v (.int .i64 x5.2)]]⟩)] o)) _ ⟨_, _, _, _, _, h63, rfl, pin, pinh⟩ ?_
   rintro n t o ⟨n52, v48, v49, b50, c51, h63, rfl, pq1, pq2⟩
   refine pinned pq1 pq2 ?_
   cases n52 with
   | zero => rw [gl_dj9_1] at h63; cases h63
   | succ n52 =>
    rw [gl_dj9_1] at h63
    refine go ?_;intros
    refine w_cond rfl (fun c => ?_) (fun c => ?_)
    ·replace h63 := itt h63 c
     try rw [c]
     obtain ⟨x53, h54, h63⟩ := bnd h63
     refine go ?_;intros
     refine r_ssl rfl rfl rfl h54 ?_
     refine go ?_;intros
     refine r_frz ?_
     refine go ?_;intros
     refine c_fz (h := (fz_agg (fzs_cons fz_v (fzs_cons fz_v (fzs_cons (fz_ref (f := ePt) (g := ePt) (xs := ([(⟨0, 0⟩ : Pt)] : (List Pt))) rfl er_Pt (by first | rfl | simp)) (fzs_cons fz_nil fzs_nil)))))) ?_
     obtain ⟨x56, h57, h63⟩ := bnd h63
     refine go ?_;intros
     refine c_callg (c := c_dl9) (v49, (⟨x53, ⟨1, [(⟨0, 0⟩ : Pt)]⟩, []⟩ : Feat)) H_dl9 h57 fun ch => ?_
     refine go ?_;intros
     refine r_ren ?_
     refine go ?_;intros
     refine r_rn rfl rfl ?_
     refine go ?_;intros
     exact k_ln2 _ (Nat.lt_succ_self _) ⟨_, _, _, _, _, h63, rfl, pin, pinh⟩
    replace h63 := itf h63 c
    try rw [c]
    refine go ?_;intros
    cases h63
    exact k_cn ⟨_, _, pin, pinh⟩
  rintro t o ⟨b61, c62, pq1, pq2⟩
  refine pinnedQ pq1 pq2 ?_
  refine go ?_;intros
  cases h
  exact r_endg
 replace h := itf h c
 try rw [c]
 refine go ?_;intros
 cases h
 exact r_endg
theorem d_cq9 {G : Gam} (H_cs9 : Has G c_cs9) (a0 : Str) (r : (Repo × Bool)) (h : gf_cq9 a0 = some r) : Does G if_cq9 ks_cq9 (c_cq9.args (a0)) [] (c_cq9.ans (a0) r) := by
 refine does_pn (L := [(0, .v (.string a0))]) (fun bs => pin) fun bs t o => ?_
 show vwp _ ib_cq9 _ _
 unfold ib_cq9
 refine w_ir ?_
 unfold gf_cq9 at h
 obtain ⟨x2, h3, h⟩ := bnd h
 refine go ?_;intros
 refine c_call (c := c_cs9) (a0) H_cs9 h3 fun ch => ?_
 refine go ?_;intros
 refine w_cond rfl (fun c => ?_) (fun c => ?_)
 ·replace h := itt h c
  try rw [c]
  refine go ?_;intros
  cases h
  exact r_end
 replace h := itf h c
 try rw [c]
 refine go ?_;intros
 cases h
 exact r_end
theorem d_af9 {G : Gam} (H_ao9 : Has G c_ao9) (H_aj9 : Has G c_aj9) (a0 : Repo) (a1 : Str) (r : Int) (h : gf_af9 a0 a1 = some r) : Does G if_af9 ks_af9 (c_af9.args (a0, a1)) [] (c_af9.ans (a0, a1) r) := by
 refine does_pn (L := [(0, .agg [.ro (List.map (eCommit false) a0.commits), .ro (List.map eHead a0.heads)]), (1, .v (.string a1))]) (fun bs => pin) fun bs t o => ?_
 show vwp _ ib_af9 _ _
 unfold ib_af9
 refine w_ir ?_
 unfold gf_af9 at h
 obtain ⟨x2, h3, h⟩ := bnd h
 refine go ?_;intros
 refine c_call (c := c_ao9) (a0, a1) H_ao9 h3 fun ch => ?_
 obtain ⟨x4, h5, h⟩ := bnd h
 refine go ?_;intros
 refine c_call (c := c_aj9) (a0) H_aj9 h5 fun ch => ?_
 refine go ?_;intros
 refine s_split rfl (fun c => ?_) (fun c => ?_)
 ·replace h := itt h c
  rw [c]
  refine go ?_;intros
  cases h
  exact r_end
 replace h := itf h c
 rw [c]
 refine go ?_;intros
 refine w_cond rfl (fun c => ?_) (fun c => ?_)
 ·replace h := itt h c
  try rw [c]
  refine go ?_;intros
  cases h
  exact r_end
 replace h := itf h c
 try rw [c]
 obtain ⟨x6, h7, h⟩ := bnd h
 refine go ?_;intros
 refine r_iro rfl rfl h7 rfl ?_
 refine go ?_;intros
 cases h
 exact r_end
theorem d_bh9 {G : Gam}  (a0 : (List Bool)) (r : (List Int)) (h : gf_bh9 a0 = some r) : Does G if_bh9 ks_bh9 (c_bh9.args (a0)) [] (c_bh9.ans (a0) r) := by
 refine does_pn (L := [(0, .ro (List.map eBool a0))]) (fun bs => pin) fun bs t o => ?_
 show vwp _ ib_bh9 _ _
 unfold ib_bh9
 refine w_ir ?_
 unfold gf_bh9 at h
 obtain ⟨q26, h41, h⟩ := bnd h
 refine go ?_;intros
 refine w_last (fun t o => ∃ b39 c40, Pin t (ovr [(3, .ref 40 b39 c40 0 q26.length 17)] t) ∧ PinH o (ovh [(40, ent b39 c40 17 (List.map eInt q26))] o)) ?_ ?_
 ·refine w_loop2 (fun n t o => ∃ n31 v27 v28 b29 c30, gl_bh9_1 a0 n31 v27 v28 = some q26 ∧ n31 = n ∧ Pin t (ovr [(0, .ro (List.map eBool a0)), (3, .ref 40 b29 c30 0 v28.length 17), (4, .v (.int .i64 v27))] t) ∧ PinH o (ovh [(40, ent b29 c30 17 (List.map eInt v28))] o)) _ ⟨_, _, _, _, _, h41, rfl, pin, pinh⟩ ?_
  rintro n t o ⟨n31, v27, v28, b29, c30, h41, rfl, pq1, pq2⟩
  refine pinned pq1 pq2 ?_
  cases n31 with
  | zero => rw [gl_bh9_1] at h41; cases h41
  | succ n31 =>
   rw [gl_bh9_1] at h41
   refine go ?_;intros
   refine w_cond rfl (fun c => ?_) (fun c => ?_)
   ·replace h41 := itt h41 c
    try rw [c]
    obtain ⟨x32, h33, h41⟩ := bnd h41
    refine go ?_;intros
    refine r_iro rfl rfl h33 rfl ?_
    refine go ?_;intros
    refine w_cond rfl (fun c => ?_) (fun c => ?_)
    ·replace h41 := itt h41 c
     try rw [c]
     obtain ⟨h37, h41⟩ := gd h41
     refine go ?_;intros
     refine r_app (f := eInt) (xs := v28) (ys := ([v27] : (List Int))) rfl (src_mv rfl rfl (by first | rfl | simp)) rfl rfl (by first | rfl | simp) h37 fun b35 c36 => ?_
     refine go ?_;intros
     exact k_ln2 _ (Nat.lt_succ_self _) ⟨_, _, _, _, _, h41, rfl, pin, pinh⟩
    replace h41 := itf h41 c
    try rw [c]
    refine go ?_;intros
    exact k_ln2 _ (Nat.lt_succ_self _) ⟨_, _, _, _, _, h41, rfl, pin, pinh⟩
   replace h41 := itf h41 c
   try rw [c]
   refine go ?_;intros
   cases h41
   exact k_cn ⟨_, _, pin, pinh⟩
 rintro t o ⟨b39, c40, pq1, pq2⟩
 refine pinnedQ pq1 pq2 ?_
 refine go ?_;intros
 cases h
 exact r_end
theorem d_ak9 {G : Gam} (H_aj9 : Has G c_aj9) (H_as9 : Has G c_as9) (H_aq9 : Has G c_aq9) (H_bh9 : Has G c_bh9) (a0 : Repo) (a1 : Int) (r : (List Int)) (h : gf_ak9 a0 a1 = some r) : Does G if_ak9 ks_ak9 (c_ak9.args (a0, a1)) [] (c_ak9.ans (a0, a1) r) := by
 refine does_pn (L := [(0, .agg [.ro (List.map (eCommit false) a0.commits), .ro (List.map eHead a0.heads)]), (1, .v (.int .i64 a1))]) (fun bs => pin) fun bs t o => ?_
 show vwp _ ib_ak9 _ _
 unfold ib_ak9
 refine w_ir ?_
 unfold gf_ak9 at h
 obtain ⟨x2, h3, h⟩ := bnd h
 refine go ?_;intros
 refine c_call (c := c_aj9) (a0) H_aj9 h3 fun ch => ?_
 refine go ?_;intros
 refine s_split rfl (fun c => ?_) (fun c => ?_)
 ·replace h := itt h c
  rw [c]
  refine go ?_;intros
  cases h
  exact r_end
 replace h := itf h c
 rw [c]
 obtain ⟨x4, h5, h⟩ := bnd h
 refine go ?_;intros
 refine c_call (c := c_as9) (a0, a1) H_as9 h5 fun ch => ?_
 refine go ?_;intros
 refine w_cond rfl (fun c => ?_) (fun c => ?_)
 ·replace h := itt h c
  try rw [c]
  refine go ?_;intros
  cases h
  exact r_end
 replace h := itf h c
 try rw [c]
 obtain ⟨x8, h9, h⟩ := bnd h
 refine go ?_;intros
 refine c_call (c := c_aq9) (a0, a1) H_aq9 h9 fun ch => ?_
 obtain ⟨x12, h13, h⟩ := bnd h
 refine go ?_;intros
 refine c_call (c := c_bh9) (x8) H_bh9 h13 fun ch => ?_
 refine go ?_;intros
 cases h
 exact r_end
end Go.Proofs.AM
