/- Lemmas of the proof (KNF12), on an abstract machine. Conditions: none. -/
import Derived.Test.YtknajiljcemblabGreatKND
set_option linter.unusedVariables false
set_option linter.unusedSimpArgs false
set_option maxRecDepth 100000
set_option maxHeartbeats 4000000
namespace Go.Proofs.AM
attribute [local irreducible] vwp vstps vstpLs vstp vdo vret kseq kblk kloop kend kcut kloop2 frzV renV shutK pfzV trnV unrV
theorem d_db9 {G : Gam} (H_cy9 : Has G c_cy9) (H_cq9 : Has G c_cq9) (H_dd9 : Has G c_dd9) (H_dh9 : Has G c_dh9) (H_de9 : Has G c_de9) (a0 : Rd) (a1 : Str) (g0 : Option Addr) (g1 : Nat) (r : (Feat × Int)) (h : gf_db9 a0 a1 = some r) : Does G if_db9 ks_db9 (c_db9.args (a0, a1, g0, g1)) (c_db9.ins (a0, a1, g0, g1)) (c_db9.ans (a0, a1, g0, g1) r) := by
 refine does_pg (L := fun bs => [(0, .ptr 0 (bs 0).1 290 0 0), (1, .v (.string a1))]) (H := fun bs => [(0, ⟨(bs 0).1, (bs 0).2, 290, true, [[.rw g0 g1 (List.map eU8 a0.b), .v (.int .i64 a0.p)]]⟩)]) (fun bs => pin) (fun bs => pinh) fun bs t o => ?_
 show vwp _ ib_db9 _ _
 unfold ib_db9
 refine w_ir ?_
 unfold gf_db9 at h
 obtain ⟨x2, h3, h⟩ := bnd h
 refine go ?_;intros
 refine c_callg (c := c_cy9) (a0, g0, g1) H_cy9 h3 fun ch => ?_
 obtain ⟨x7, h8, h⟩ := bnd h
 refine go ?_;intros
 refine c_callg (c := c_cq9) ((⟨a0.b, x2.2⟩ : Rd), 4, g0, g1) H_cq9 h8 fun ch => ?_
 obtain ⟨q56, h91, h⟩ := bnd h
 refine go ?_;intros
 refine w_last (fun t o => ∃ b79 c80 b81 c82 b83 b84 c85 b87 c88 b89, Pin t (ovr [(4, .ptr 32 b83 100 0 0), (5, .ptr 40 b89 100 0 0)] t) ∧ PinH o (ovh [(1000514, ent b79 c80 66 (List.map ePt [])), (1000515, ent b81 c82 82 (List.map eTag [])), (32, ⟨b83, 1, 100, true, [[.v (.string (⟨#[]⟩ : Str)), .v (.int .i64 0), .al 1000514 b79 c80 0 ([] : List Pt).length 66, .al 1000515 b81 c82 0 ([] : List Tag).length 82]]⟩), (1000642, ent b84 c85 66 (List.map ePt x2.1.pts)), (1000643, ent b87 c88 82 (List.map eTag q56.1)), (40, ⟨b89, 1, 100, true, [[.v (.string a1), .v (.int .i64 x2.1.kind), .al 1000642 b84 c85 0 x2.1.pts.length 66, .al 1000643 b87 c88 0 q56.1.length 82]]⟩), (0, ⟨(bs 0).1, (bs 0).2, 290, true, [[.rw g0 g1 (List.map eU8 a0.b), .v (.int .i64 q56.2)]]⟩)] o)) ?_ ?_
 ·refine w_loop2 (fun n t o => ∃ n70 v57 v58 v66 b59 c60 b61 c62 b63 b64 c65 b67 c68 b69, gl_db9_1 a0 n70 v57 v58 v66 = some q56 ∧ n70 = n ∧ Pin t (ovr [(0, .ptr 0 (bs 0).1 290 0 0), (4, .ptr 32 b63 100 0 0), (5, .ptr 40 b69 100 0 0), (6, .v (.int .i64 v57))] t) ∧ PinH o (ovh [(0, ⟨(bs 0).1, (bs 0).2, 290, true, [[.rw g0 g1 (List.map eU8 a0.b), .v (.int .i64 v58)]]⟩), (1000514, ent b59 c60 66 (List.map ePt [])), (1000515, ent b61 c62 82 (List.map eTag [])), (32, ⟨b63, 1, 100, true, [[.v (.string (⟨#[]⟩ : Str)), .v (.int .i64 0), .al 1000514 b59 c60 0 ([] : List Pt).length 66, .al 1000515 b61 c62 0 ([] : List Tag).length 82]]⟩), (1000642, ent b64 c65 66 (List.map ePt x2.1.pts)), (1000643, ent b67 c68 82 (List.map eTag v66)), (40, ⟨b69, 1, 100, true, [[.v (.string a1), .v (.int .i64 x2.1.kind), .al 1000642 b64 c65 0 x2.1.pts.length 66, .al 1000643 b67 c68 0 v66.length 82]]⟩)] o)) _ ⟨_, _, _, _, _, _, _, _, _, _, _, _, _, _, h91, rfl, pin, pinh⟩ ?_
  rintro n t o ⟨n70, v57, v58, v66, b59, c60, b61, c62, b63, b64, c65, b67, c68, b69, h91, rfl, pq1, pq2⟩
  refine pinned pq1 pq2 ?_
  cases n70 with
  | zero => rw [gl_db9_1] at h91; cases h91
  | succ n70 =>
   rw [gl_db9_1] at h91
   refine go ?_;intros
   refine w_cond rfl (fun c => ?_) (fun c => ?_)
   ·replace h91 := itt h91 c
    try rw [c]
    obtain ⟨x71, h72, h91⟩ := bnd h91
    refine go ?_;intros
    refine c_callg (c := c_dd9) ((⟨a0.b, v58⟩ : Rd), g0, g1) H_dd9 h72 fun ch => ?_
    obtain ⟨x73, h74, h91⟩ := bnd h91
    refine go ?_;intros
    refine c_callg (c := c_dh9) ((⟨a0.b, x71.2⟩ : Rd), g0, g1) H_dh9 h74 fun ch => ?_
    obtain ⟨x75, h76, h91⟩ := bnd h91
    refine go ?_;intros
    refine c_call (c := c_de9) (v66, x71.1, x73.1) H_de9 h76 fun ch => ?_
    refine go ?_;intros
    exact k_ln2 _ (Nat.lt_succ_self _) ⟨_, _, _, _, _, _, _, _, _, _, _, _, _, _, h91, rfl, pin, pinh⟩
   replace h91 := itf h91 c
   try rw [c]
   refine go ?_;intros
   cases h91
   exact k_cn ⟨_, _, _, _, _, _, _, _, _, _, pin, pinh⟩
 rintro t o ⟨b79, c80, b81, c82, b83, b84, c85, b87, c88, b89, pq1, pq2⟩
 refine pinnedQ pq1 pq2 ?_
 refine go ?_;intros
 cases h
 exact r_endg
theorem d_cr9 {G : Gam} (H_cy9 : Has G c_cy9) (H_cq9 : Has G c_cq9) (H_co9 : Has G c_co9) (a0 : Rd) (g0 : Option Addr) (g1 : Nat) (r : (Shape × Int)) (h : gf_cr9 a0 = some r) : Does G if_cr9 ks_cr9 (c_cr9.args (a0, g0, g1)) (c_cr9.ins (a0, g0, g1)) (c_cr9.ans (a0, g0, g1) r) := by
 refine does_pg (L := fun bs => [(0, .ptr 0 (bs 0).1 290 0 0)]) (H := fun bs => [(0, ⟨(bs 0).1, (bs 0).2, 290, true, [[.rw g0 g1 (List.map eU8 a0.b), .v (.int .i64 a0.p)]]⟩)]) (fun bs => pin) (fun bs => pinh) fun bs t o => ?_
 show vwp _ ib_cr9 _ _
 unfold ib_cr9
 refine w_ir ?_
 unfold gf_cr9 at h
 obtain ⟨x2, h3, h⟩ := bnd h
 refine go ?_;intros
 refine c_callg (c := c_cy9) (a0, g0, g1) H_cy9 h3 fun ch => ?_
 obtain ⟨x7, h8, h⟩ := bnd h
 refine go ?_;intros
 refine c_callg (c := c_cq9) ((⟨a0.b, x2.2⟩ : Rd), (x2.1.pts.length : Int), g0, g1) H_cq9 h8 fun ch => ?_
 obtain ⟨x9, h10, h⟩ := bnd h
 refine go ?_;intros
 refine c_callg (c := c_cq9) ((⟨a0.b, x7.2⟩ : Rd), 40, g0, g1) H_cq9 h10 fun ch => ?_
 obtain ⟨q11, h34, h⟩ := bnd h
 refine go ?_;intros
 refine w_cut (fun t o => ∃ b12 c13 b14 b15 c16 b17, Pin t (ovr [(0, .ptr 0 (bs 0).1 290 0 0), (2, .ptr 16 b14 226 0 0), (3, .ptr 24 b17 226 0 0), (4, .v (.int .i64 x7.1)), (13, .v (.int .i64 x9.1)), (14, .v (.bool (x9.1 == 0)))] t) ∧ PinH o (ovh [(0, ⟨(bs 0).1, (bs 0).2, 290, true, [[.rw g0 g1 (List.map eU8 a0.b), .v (.int .i64 x9.2)]]⟩), (1000257, ent b12 c13 66 (List.map ePt [])), (16, ⟨b14, 1, 226, true, [[.v (.int .i64 0), .al 1000257 b12 c13 0 ([] : List Pt).length 66]]⟩), (1000385, ent b15 c16 66 (List.map ePt x2.1.pts)), (24, ⟨b17, 1, 226, true, [[.v (.int .i64 x2.1.kind), .al 1000385 b15 c16 0 x2.1.pts.length 66]]⟩)] o)) ?_ ?_
 ·refine go ?_;intros
  cases h34
  exact k_cn ⟨_, _, _, _, _, _, pin, pinh⟩
 rintro t o ⟨b12, c13, b14, b15, c16, b17, pq1, pq2⟩
 refine pinned pq1 pq2 ?_
 refine go ?_;intros
 refine w_cond rfl (fun c => ?_) (fun c => ?_)
 ·replace h := itt h c
  try rw [c]
  obtain ⟨x19, h20, h⟩ := bnd h
  refine go ?_;intros
  refine c_callg (c := c_co9) ((⟨a0.b, x9.2⟩ : Rd), ([0, 4, 1, 2, 3] : (List Int)), g0, g1) H_co9 h20 fun ch => ?_
  refine go ?_;intros
  cases h
  exact r_endg
 replace h := itf h c
 try rw [c]
 refine go ?_;intros
 refine w_cond rfl (fun c => ?_) (fun c => ?_)
 ·replace h := itt h c
  try rw [c]
  obtain ⟨x22, h23, h⟩ := bnd h
  refine go ?_;intros
  refine c_callg (c := c_co9) ((⟨a0.b, x9.2⟩ : Rd), ([1000, 1001, (-1001)] : (List Int)), g0, g1) H_co9 h23 fun ch => ?_
  obtain ⟨x24, h25, h⟩ := bnd h
  refine go ?_;intros
  refine r_ire (xs := x2.1.pts) rfl rfl h25 rfl ?_
  refine go ?_;intros
  refine c_ste (f := ePt) x2.1.pts (⟨x22.1, x24.y⟩ : Pt) (idx_get h25).2 ?_
  refine go ?_;intros
  cases h
  exact r_endg
 replace h := itf h c
 try rw [c]
 refine go ?_;intros
 refine w_cond rfl (fun c => ?_) (fun c => ?_)
 ·replace h := itt h c
  try rw [c]
  obtain ⟨x26, h27, h⟩ := bnd h
  refine go ?_;intros
  refine r_ire (xs := x2.1.pts) rfl rfl h27 rfl ?_
  refine go ?_;intros
  refine r_lde (f := ePt) (xs := x2.1.pts) (x := x26) rfl rfl (idx_get h27).2 rfl rfl rfl ?_
  obtain ⟨h31, h⟩ := gd h
  refine go ?_;intros
  refine r_app (f := ePt) (xs := x2.1.pts) (ys := ([x26] : (List Pt))) rfl (src_mv rfl rfl (by first | rfl | simp)) rfl rfl (by first | rfl | simp) h31 fun b29 c30 => ?_
  refine go ?_;intros
  cases h
  exact r_endg
 replace h := itf h c
 try rw [c]
 refine go ?_;intros
 refine w_cond rfl (fun c => ?_) (fun c => ?_)
 ·replace h := itt h c
  try rw [c]
  refine go ?_;intros
  refine r_trn ?_
  obtain ⟨x32, h33, h⟩ := bnd h
  refine go ?_;intros
  refine r_slr (xs := x2.1.pts) h33 rfl rfl rfl rfl (by first | rfl | simp) ?_
  refine go ?_;intros
  refine r_tr (f := ePt) h33 rfl rfl rfl ?_
  refine go ?_;intros
  cases h
  exact r_endg
 replace h := itf h c
 try rw [c]
 refine go ?_;intros
 cases h
 exact r_endg
theorem d_cz9 {G : Gam} (H_dc9 : Has G c_dc9) (H_db9 : Has G c_db9) (H_cq9 : Has G c_cq9) (H_cp9 : Has G c_cp9) (H_cr9 : Has G c_cr9) (a0 : Rd) (g0 : Option Addr) (g1 : Nat) (r : (Feat × Int)) (h : gf_cz9 a0 = some r) : Does G if_cz9 ks_cz9 (c_cz9.args (a0, g0, g1)) (c_cz9.ins (a0, g0, g1)) (c_cz9.ans (a0, g0, g1) r) := by
 refine does_pg (L := fun bs => [(0, .ptr 0 (bs 0).1 290 0 0)]) (H := fun bs => [(0, ⟨(bs 0).1, (bs 0).2, 290, true, [[.rw g0 g1 (List.map eU8 a0.b), .v (.int .i64 a0.p)]]⟩)]) (fun bs => pin) (fun bs => pinh) fun bs t o => ?_
 show vwp _ ib_cz9 _ _
 unfold ib_cz9
 refine w_ir ?_
 unfold gf_cz9 at h
 obtain ⟨q2, h47, h⟩ := bnd h
 refine go ?_;intros
 refine w_cut (fun t o => ∃ b13 c14 b15 c16 b17 b19 c20 b22 c23 b26, Pin t (ovr [(0, .ptr 0 (bs 0).1 290 0 0), (2, .ptr 16 b17 100 0 0), (3, .ptr 24 b26 100 0 0)] t) ∧ PinH o (ovh [(0, ⟨(bs 0).1, (bs 0).2, 290, true, [[.rw g0 g1 (List.map eU8 a0.b), .v (.int .i64 q2.1)]]⟩), (1000258, ent b13 c14 66 (List.map ePt [])), (1000259, ent b15 c16 82 (List.map eTag [])), (16, ⟨b17, 1, 100, true, [[.v (.string (⟨#[]⟩ : Str)), .v (.int .i64 0), .al 1000258 b13 c14 0 ([] : List Pt).length 66, .al 1000259 b15 c16 0 ([] : List Tag).length 82]]⟩), (1000386, ent b19 c20 66 (List.map ePt q2.2.1)), (1000387, ent b22 c23 82 (List.map eTag q2.2.2.1)), (24, ⟨b26, 1, 100, true, [[.v (.string q2.2.2.2.1), .v (.int .i64 q2.2.2.2.2), .al 1000386 b19 c20 0 q2.2.1.length 66, .al 1000387 b22 c23 0 q2.2.2.1.length 82]]⟩)] o)) ?_ ?_
 ·obtain ⟨x3, h4, h47⟩ := bnd h47
  refine go ?_;intros
  refine c_callg (c := c_dc9) (a0, g0, g1) H_dc9 h4 fun ch => ?_
  obtain ⟨x5, h6, h47⟩ := bnd h47
  refine go ?_;intros
  refine c_callg (c := c_db9) ((⟨a0.b, x3.2⟩ : Rd), x3.1, g0, g1) H_db9 h6 fun ch => ?_
  refine go ?_;intros
  cases h47
  exact k_cn ⟨_, _, _, _, _, _, _, _, _, _, pin, pinh⟩
 rintro t o ⟨b13, c14, b15, c16, b17, b19, c20, b22, c23, b26, pq1, pq2⟩
 refine pinned pq1 pq2 ?_
 obtain ⟨x27, h28, h⟩ := bnd h
 refine go ?_;intros
 refine c_callg (c := c_cq9) ((⟨a0.b, q2.1⟩ : Rd), 40, g0, g1) H_cq9 h28 fun ch => ?_
 refine go ?_;intros
 refine w_cond rfl (fun c => ?_) (fun c => ?_)
 ·replace h := itt h c
  try rw [c]
  obtain ⟨x30, h31, h⟩ := bnd h
  refine go ?_;intros
  refine c_callg (c := c_cp9) ((⟨a0.b, x27.2⟩ : Rd), ([(⟨#[]⟩ : Str), (⟨#[65]⟩ : Str), (⟨#[97, 98, 99, 100, 101, 102, 103]⟩ : Str)] : (List Str)), g0, g1) H_cp9 h31 fun ch => ?_
  refine go ?_;intros
  cases h
  exact r_endg
 replace h := itf h c
 try rw [c]
 refine go ?_;intros
 refine w_cond rfl (fun c => ?_) (fun c => ?_)
 ·replace h := itt h c
  try rw [c]
  obtain ⟨x32, h33, h⟩ := bnd h
  refine go ?_;intros
  refine c_callg (c := c_cr9) ((⟨a0.b, x27.2⟩ : Rd), g0, g1) H_cr9 h33 fun ch => ?_
  refine go ?_;intros
  cases h
  exact r_endg
 replace h := itf h c
 try rw [c]
 refine go ?_;intros
 refine w_cond rfl (fun c => ?_) (fun c => ?_)
 ·replace h := itt h c
  try rw [c]
  obtain ⟨h39, h⟩ := gd h
  refine go ?_;intros
  refine r_app (f := eTag) (xs := q2.2.2.1) (ys := ([(⟨(⟨#[97]⟩ : Str), (⟨#[98]⟩ : Str)⟩ : Tag)] : (List Tag))) rfl (src_mv rfl rfl (by first | rfl | simp)) rfl rfl (by first | rfl | simp) h39 fun b37 c38 => ?_
  refine go ?_;intros
  cases h
  exact r_endg
 replace h := itf h c
 try rw [c]
 refine go ?_;intros
 refine w_cond rfl (fun c => ?_) (fun c => ?_)
 ·replace h := itt h c
  try rw [c]
  obtain ⟨x41, h42, h⟩ := bnd h
  refine go ?_;intros
  refine c_callg (c := c_cp9) ((⟨a0.b, x27.2⟩ : Rd), ([(⟨#[]⟩ : Str), (⟨#[66]⟩ : Str)] : (List Str)), g0, g1) H_cp9 h42 fun ch => ?_
  obtain ⟨h46, h⟩ := gd h
  refine go ?_;intros
  refine r_app (f := eTag) (xs := q2.2.2.1) (ys := ([(⟨(⟨#[122, 122]⟩ : Str), x41.1⟩ : Tag)] : (List Tag))) rfl (src_mv rfl rfl (by first | rfl | simp)) rfl rfl (by first | rfl | simp) h46 fun b44 c45 => ?_
  refine go ?_;intros
  cases h
  exact r_endg
 replace h := itf h c
 try rw [c]
 refine go ?_;intros
 cases h
 exact r_endg
theorem d_dn9 {G : Gam}  (a0 : (List Feat)) (a1 : Feat) (r : (List Feat)) (h : gf_dn9 a0 a1 = some r) : Does G if_dn9 ks_dn9 (c_dn9.args (a0, a1)) (c_dn9.ins (a0, a1)) (c_dn9.ans (a0, a1) r) := by
 refine does_pg (L := fun bs => [(0, .ref 0 (bs 0).1 (bs 0).2 0 a0.length 100), (1, .agg [.v (.string a1.id), .v (.int .i64 a1.shape.kind), .ro (List.map ePt a1.shape.pts), .ro (List.map eTag a1.tags)])]) (H := fun bs => [(0, ent (bs 0).1 (bs 0).2 100 (List.map (eFeat false) a0))]) (fun bs => pin) (fun bs => pinh) fun bs t o => ?_
 show vwp _ ib_dn9 _ _
 unfold ib_dn9
 refine w_ir ?_
 unfold gf_dn9 at h
 obtain ⟨hf100, h⟩ := gd h
 obtain ⟨q85, h128, h⟩ := bnd h
 refine go ?_;intros
 refine w_last (fun t o => ∃ b120 b122 c123, Pin t (ovr [(3, .ptr 24 b120 100 0 0), (5, .ref 64 b122 c123 0 q85.2.length 100), (6, .v (.bool q85.1))] t) ∧ PinH o (ovh [(24, ⟨b120, 1, 100, true, [[.v (.string a1.id), .v (.int .i64 a1.shape.kind), .sl false 2 (List.map ePt a1.shape.pts), .sl false 2 (List.map eTag a1.tags)]]⟩), (64, ent b122 c123 100 (List.map (eFeat false) q85.2))] o)) ?_ ?_
 ·refine w_loop2 (fun n t o => ∃ l94 k92 v86 v89 b88 b90 c91, gl_dn9_1 a1 l94 k92 v86 v89 = some q85 ∧ n = l94.length ∧ (a0).drop k92 = l94 ∧ Pin t (ovr [(0, .ref 0 (bs 0).1 (bs 0).2 0 a0.length 100), (3, .ptr 24 b88 100 0 0), (5, .ref 64 b90 c91 0 v89.length 100), (6, .v (.bool v86)), (7, .v (.int .i64 (k92 : Int)))] t) ∧ PinH o (ovh [(0, ent (bs 0).1 (bs 0).2 100 (List.map (eFeat false) a0)), (24, ⟨b88, 1, 100, true, [[.v (.string a1.id), .v (.int .i64 a1.shape.kind), .sl false 2 (List.map ePt a1.shape.pts), .sl false 2 (List.map eTag a1.tags)]]⟩), (64, ent b90 c91 100 (List.map (eFeat false) v89))] o)) _ ⟨_, _, _, _, _, _, _, h128, rfl, rfl, pin, pinh⟩ ?_
  rintro n t o ⟨l94, k92, v86, v89, b88, b90, c91, h128, rfl, hd95, pq1, pq2⟩
  refine pinned pq1 pq2 ?_
  cases l94 with
  | nil =>
   have hge97 := drop_ge hd95
   rw [gl_dn9_1] at h128
   refine go ?_;intros
   rw [hge97]
   refine go ?_;intros
   cases h128
   exact k_cn ⟨_, _, _, pin, pinh⟩
  | cons x93 l94 =>
   have hlt96 := drop_lt hd95
   have hx98 := drop_ix hd95
   have hw99 := drop_wr hd95 hf100
   rw [gl_dn9_1] at h128
   refine go ?_;intros
   rw [hlt96]
   obtain ⟨q105, h129, h128⟩ := bnd h128
   refine go ?_;intros
   refine w_cut (fun t o => ∃ b111 b113 c114, Pin t (ovr [(0, .ref 0 (bs 0).1 (bs 0).2 0 a0.length 100), (3, .ptr 24 b111 100 0 0), (5, .ref 64 b113 c114 0 q105.2.length 100), (6, .v (.bool q105.1)), (7, .v (.int .i64 (k92 : Int)))] t) ∧ PinH o (ovh [(0, ent (bs 0).1 (bs 0).2 100 (List.map (eFeat false) a0)), (24, ⟨b111, 1, 100, true, [[.v (.string a1.id), .v (.int .i64 a1.shape.kind), .sl false 2 (List.map ePt a1.shape.pts), .sl false 2 (List.map eTag a1.tags)]]⟩), (64, ent b113 c114 100 (List.map (eFeat false) q105.2))] o)) ?_ ?_
   ·refine go ?_;intros
    refine s_split rfl (fun c => ?_) (fun c => ?_)
    ·replace h129 := itt h129 c
     rw [c]
     refine go ?_;intros
     refine r_ire (xs := a0) rfl rfl hx98 rfl ?_
     refine go ?_;intros
     refine r_lde (f := (eFeat false)) (xs := a0) (x := x93) rfl rfl (idx_get hx98).2 rfl rfl rfl ?_
     refine go ?_;intros
     refine w_cond rfl (fun c => ?_) (fun c => ?_)
     ·replace h129 := itt h129 c
      try rw [c]
      obtain ⟨h109, h129⟩ := gd h129
      refine go ?_;intros
      refine r_app (f := (eFeat false)) (xs := v89) (ys := ([a1] : (List Feat))) rfl (src_mv rfl rfl (by first | rfl | simp)) rfl rfl (by first | rfl | simp) h109 fun b107 c108 => ?_
      refine go ?_;intros
      cases h129
      exact k_cn ⟨_, _, _, pin, pinh⟩
     replace h129 := itf h129 c
     try rw [c]
     refine go ?_;intros
     cases h129
     exact k_cn ⟨_, _, _, pin, pinh⟩
    replace h129 := itf h129 c
    rw [c]
    refine go ?_;intros
    cases h129
    exact k_cn ⟨_, _, _, pin, pinh⟩
   rintro t o ⟨b111, b113, c114, pq1, pq2⟩
   refine pinned pq1 pq2 ?_
   refine go ?_;intros
   refine r_ire (xs := a0) rfl rfl hx98 rfl ?_
   refine go ?_;intros
   refine r_lde (f := (eFeat false)) (xs := a0) (x := x93) rfl rfl (idx_get hx98).2 rfl rfl rfl ?_
   refine go ?_;intros
   refine w_cond rfl (fun c => ?_) (fun c => ?_)
   ·replace h128 := itt h128 c
    try rw [c]
    refine go ?_;intros
    refine r_ire (xs := a0) rfl rfl hx98 rfl ?_
    refine go ?_;intros
    refine r_lde (f := (eFeat false)) (xs := a0) (x := x93) rfl rfl (idx_get hx98).2 rfl rfl rfl ?_
    obtain ⟨h118, h128⟩ := gd h128
    refine go ?_;intros
    refine r_app (f := (eFeat false)) (xs := q105.2) (ys := ([x93] : (List Feat))) rfl (src_mv rfl rfl (by first | rfl | simp)) rfl rfl (by first | rfl | simp) h118 fun b116 c117 => ?_
    refine go ?_;intros
    rw [hw99]
    exact k_ln2 _ (Nat.lt_succ_self _) ⟨_, _, _, _, _, _, _, h128, rfl, drop_next hd95, pin, pinh⟩
   replace h128 := itf h128 c
   try rw [c]
   refine go ?_;intros
   rw [hw99]
   exact k_ln2 _ (Nat.lt_succ_self _) ⟨_, _, _, _, _, _, _, h128, rfl, drop_next hd95, pin, pinh⟩
 rintro t o ⟨b120, b122, c123, pq1, pq2⟩
 refine pinnedQ pq1 pq2 ?_
 refine go ?_;intros
 refine w_cond rfl (fun c => ?_) (fun c => ?_)
 ·replace h := itt h c
  try rw [c]
  obtain ⟨h127, h⟩ := gd h
  refine go ?_;intros
  refine r_app (f := (eFeat false)) (xs := q85.2) (ys := ([a1] : (List Feat))) rfl (src_mv rfl rfl (by first | rfl | simp)) rfl rfl (by first | rfl | simp) h127 fun b125 c126 => ?_
  refine go ?_;intros
  cases h
  exact r_endg
 replace h := itf h c
 try rw [c]
 refine go ?_;intros
 cases h
 exact r_endg
theorem d_do9 {G : Gam} (H_cq9 : Has G c_cq9) (H_dc9 : Has G c_dc9) (H_db9 : Has G c_db9) (H_dn9 : Has G c_dn9) (a0 : Rd) (g0 : Option Addr) (g1 : Nat) (r : ((List Feat) × Int)) (h : gf_do9 a0 = some r) : Does G if_do9 ks_do9 (c_do9.args (a0, g0, g1)) (c_do9.ins (a0, g0, g1)) (c_do9.ans (a0, g0, g1) r) := by
 refine does_pg (L := fun bs => [(0, .ptr 0 (bs 0).1 290 0 0)]) (H := fun bs => [(0, ⟨(bs 0).1, (bs 0).2, 290, true, [[.rw g0 g1 (List.map eU8 a0.b), .v (.int .i64 a0.p)]]⟩)]) (fun bs => pin) (fun bs => pinh) fun bs t o => ?_
 show vwp _ ib_do9 _ _
 unfold ib_do9
 refine w_ir ?_
 unfold gf_do9 at h
 refine go ?_;intros
 refine r_ren ?_
 refine go ?_;intros
 refine r_rn rfl rfl ?_
 obtain ⟨x2, h3, h⟩ := bnd h
 refine go ?_;intros
 refine c_callg (c := c_cq9) (a0, 5, g0, g1) H_cq9 h3 fun ch => ?_
 obtain ⟨q47, h70, h⟩ := bnd h
 refine go ?_;intros
 refine w_last (fun t o => ∃ b67 c68, Pin t (ovr [(3, .ref 2000003 b67 c68 0 q47.1.length 100)] t) ∧ PinH o (ovh [(2000003, ent b67 c68 100 (List.map (eFeat false) q47.1)), (0, ⟨(bs 0).1, (bs 0).2, 290, true, [[.rw g0 g1 (List.map eU8 a0.b), .v (.int .i64 q47.2)]]⟩)] o)) ?_ ?_
 ·refine w_loop2 (fun n t o => ∃ n53 v48 v49 v50 b51 c52, gl_do9_1 a0 n53 v48 v49 v50 = some q47 ∧ n53 = n ∧ Pin t (ovr [(0, .ptr 0 (bs 0).1 290 0 0), (3, .ref 2000003 b51 c52 0 v50.length 100), (4, .v (.int .i64 v48))] t) ∧ PinH o (ovh [(0, ⟨(bs 0).1, (bs 0).2, 290, true, [[.rw g0 g1 (List.map eU8 a0.b), .v (.int .i64 v49)]]⟩), (2000003, ent b51 c52 100 (List.map (eFeat false) v50))] o)) _ ⟨_, _, _, _, _, _, h70, rfl, pin, pinh⟩ ?_
  rintro n t o ⟨n53, v48, v49, v50, b51, c52, h70, rfl, pq1, pq2⟩
  refine pinned pq1 pq2 ?_
  cases n53 with
  | zero => rw [gl_do9_1] at h70; cases h70
  | succ n53 =>
   rw [gl_do9_1] at h70
   refine go ?_;intros
   refine w_cond rfl (fun c => ?_) (fun c => ?_)
   ·replace h70 := itt h70 c
    try rw [c]
    obtain ⟨x54, h55, h70⟩ := bnd h70
    refine go ?_;intros
    refine c_callg (c := c_dc9) ((⟨a0.b, v49⟩ : Rd), g0, g1) H_dc9 h55 fun ch => ?_
    refine go ?_;intros
    refine r_frz ?_
    obtain ⟨x56, h57, h70⟩ := bnd h70
    refine go ?_;intros
    refine c_callg (c := c_db9) ((⟨a0.b, x54.2⟩ : Rd), x54.1, g0, g1) H_db9 h57 fun ch => ?_
    refine go ?_;intros
    refine c_fz ?_
    obtain ⟨x62, h63, h70⟩ := bnd h70
    refine go ?_;intros
    refine c_callg (c := c_dn9) (v50, x56.1) H_dn9 h63 fun ch => ?_
    refine go ?_;intros
    refine r_ren ?_
    refine go ?_;intros
    refine r_rn rfl rfl ?_
    refine go ?_;intros
    exact k_ln2 _ (Nat.lt_succ_self _) ⟨_, _, _, _, _, _, h70, rfl, pin, pinh⟩
   replace h70 := itf h70 c
   try rw [c]
   refine go ?_;intros
   cases h70
   exact k_cn ⟨_, _, pin, pinh⟩
 rintro t o ⟨b67, c68, pq1, pq2⟩
 refine pinnedQ pq1 pq2 ?_
 refine go ?_;intros
 cases h
 exact r_endg
theorem d_di9 {G : Gam} (H_do9 : Has G c_do9) (H_cq9 : Has G c_cq9) (H_cz9 : Has G c_cz9) (H_dn9 : Has G c_dn9) (a0 : Rd) (g0 : Option Addr) (g1 : Nat) (r : ((List Feat) × Int)) (h : gf_di9 a0 = some r) : Does G if_di9 ks_di9 (c_di9.args (a0, g0, g1)) (c_di9.ins (a0, g0, g1)) (c_di9.ans (a0, g0, g1) r) := by
 refine does_pg (L := fun bs => [(0, .ptr 0 (bs 0).1 290 0 0)]) (H := fun bs => [(0, ⟨(bs 0).1, (bs 0).2, 290, true, [[.rw g0 g1 (List.map eU8 a0.b), .v (.int .i64 a0.p)]]⟩)]) (fun bs => pin) (fun bs => pinh) fun bs t o => ?_
 show vwp _ ib_di9 _ _
 unfold ib_di9
 refine w_ir ?_
 unfold gf_di9 at h
 obtain ⟨x1, h2, h⟩ := bnd h
 refine go ?_;intros
 refine c_callg (c := c_do9) (a0, g0, g1) H_do9 h2 fun ch => ?_
 refine go ?_;intros
 refine r_ren ?_
 refine go ?_;intros
 refine r_rn rfl rfl ?_
 obtain ⟨x5, h6, h⟩ := bnd h
 refine go ?_;intros
 refine c_callg (c := c_cq9) ((⟨a0.b, x1.2⟩ : Rd), 40, g0, g1) H_cq9 h6 fun ch => ?_
 refine go ?_;intros
 refine w_cond rfl (fun c => ?_) (fun c => ?_)
 ·replace h := itt h c
  try rw [c]
  refine go ?_;intros
  refine r_frz ?_
  obtain ⟨x7, h8, h⟩ := bnd h
  refine go ?_;intros
  refine c_callg (c := c_cz9) ((⟨a0.b, x5.2⟩ : Rd), g0, g1) H_cz9 h8 fun ch => ?_
  refine go ?_;intros
  refine c_fz ?_
  obtain ⟨h16, h⟩ := gd h
  refine go ?_;intros
  refine r_app (f := (eFeat false)) (xs := x1.1) (ys := ([x7.1] : (List Feat))) rfl (src_mv rfl rfl (by first | rfl | simp)) rfl rfl (by first | rfl | simp) h16 fun b14 c15 => ?_
  refine go ?_;intros
  refine r_ren ?_
  refine go ?_;intros
  refine r_rn rfl rfl ?_
  refine go ?_;intros
  cases h
  exact r_endg
 replace h := itf h c
 try rw [c]
 refine go ?_;intros
 refine w_cond rfl (fun c => ?_) (fun c => ?_)
 ·replace h := itt h c
  try rw [c]
  obtain ⟨h19, h⟩ := gd h
  refine go ?_;intros
  refine r_app (f := (eFeat false)) (xs := x1.1) (ys := x1.1) rfl (src_cp (f := (eFeat false)) rfl (by first | rfl | simp) (fun _ => rfl)) rfl rfl (by first | rfl | simp) h19 fun b17 c18 => ?_
  refine go ?_;intros
  cases h
  exact r_endg
 replace h := itf h c
 try rw [c]
 refine go ?_;intros
 refine w_cond rfl (fun c => ?_) (fun c => ?_)
 ·replace h := itt h c
  try rw [c]
  obtain ⟨q47, h63, h⟩ := bnd h
  refine go ?_;intros
  refine w_last (fun t o => ∃ b61 c62, Pin t (ovr [(3, .ref 2000003 b61 c62 0 q47.length 100)] t) ∧ PinH o (ovh [(2000003, ent b61 c62 100 (List.map (eFeat false) q47)), (0, ⟨(bs 0).1, (bs 0).2, 290, true, [[.rw g0 g1 (List.map eU8 a0.b), .v (.int .i64 x5.2)]]⟩)] o)) ?_ ?_
  ·refine w_loop2 (fun n t o => ∃ n52 v48 v49 b50 c51, gl_di9_1 n52 v48 v49 = some q47 ∧ n52 = n ∧ Pin t (ovr [(3, .ref 2000003 b50 c51 0 v49.length 100), (4, .v (.int .i64 v48))] t) ∧ PinH o (ovh [(2000003, ent b50 c51 100 (List.map (eFeat false) v49)), (0, ⟨(bs 0).1, (bs 0).2, 290, true, [[.rw g0 g1 (List.map eU8 a0.b), .v (.int .i64 x5.2)]]⟩)] o)) _ ⟨_, _, _, _, _, h63, rfl, pin, pinh⟩ ?_
   rintro n t o ⟨n52, v48, v49, b50, c51, h63, rfl, pq1, pq2⟩
   refine pinned pq1 pq2 ?_
   cases n52 with
   | zero => rw [gl_di9_1] at h63; cases h63
   | succ n52 =>
    rw [gl_di9_1] at h63
    refine go ?_;intros
    refine w_cond rfl (fun c => ?_) (fun c => ?_)
    ·replace h63 := itt h63 c
     try rw [c]
     obtain ⟨x53, h54, h63⟩ := bnd h63
     refine go ?_;intros
     refine r_ssl rfl rfl rfl h54 ?_
     refine go ?_;intros
     refine r_frz ?_
     refine go ?_;intros
     refine c_fz (h := (fz_agg (fzs_cons fz_v (fzs_cons fz_v (fzs_cons (fz_ref (f := ePt) (g := ePt) (xs := ([(⟨0, 0⟩ : Pt)] : (List Pt))) rfl er_Pt (by first | rfl | simp)) (fzs_cons fz_nil fzs_nil)))))) ?_
     obtain ⟨x56, h57, h63⟩ := bnd h63
     refine go ?_;intros
     refine c_callg (c := c_dn9) (v49, (⟨x53, ⟨1, [(⟨0, 0⟩ : Pt)]⟩, []⟩ : Feat)) H_dn9 h57 fun ch => ?_
     refine go ?_;intros
     refine r_ren ?_
     refine go ?_;intros
     refine r_rn rfl rfl ?_
     refine go ?_;intros
     exact k_ln2 _ (Nat.lt_succ_self _) ⟨_, _, _, _, _, h63, rfl, pin, pinh⟩
    replace h63 := itf h63 c
    try rw [c]
    refine go ?_;intros
    cases h63
    exact k_cn ⟨_, _, pin, pinh⟩
  rintro t o ⟨b61, c62, pq1, pq2⟩
  refine pinnedQ pq1 pq2 ?_
  refine go ?_;intros
  cases h
  exact r_endg
 replace h := itf h c
 try rw [c]
 refine go ?_;intros
 cases h
 exact r_endg
theorem d_cb9 {G : Gam} (H_ci9 : Has G c_ci9) (a0 : Str) (r : (Repo × Bool)) (h : gf_cb9 a0 = some r) : Does G if_cb9 ks_cb9 (c_cb9.args (a0)) [] (c_cb9.ans (a0) r) := by
 refine does_pn (L := [(0, .v (.string a0))]) (fun bs => pin) fun bs t o => ?_
 show vwp _ ib_cb9 _ _
 unfold ib_cb9
 refine w_ir ?_
 unfold gf_cb9 at h
 obtain ⟨x2, h3, h⟩ := bnd h
 refine go ?_;intros
 refine c_call (c := c_ci9) (a0) H_ci9 h3 fun ch => ?_
 refine go ?_;intros
 refine w_cond rfl (fun c => ?_) (fun c => ?_)
 ·replace h := itt h c
  try rw [c]
  refine go ?_;intros
  cases h
  exact r_end
 replace h := itf h c
 try rw [c]
 refine go ?_;intros
 cases h
 exact r_end
theorem d_ca9 {G : Gam} (H_cc9 : Has G c_cc9) (H_ci9 : Has G c_ci9) (H_dt9 : Has G c_dt9) (H_dw9 : Has G c_dw9) (a0 : Repo) (a1 : Str) (a2 : Str) (r : (Repo × Int)) (h : gf_ca9 a0 a1 a2 = some r) : Does G if_ca9 ks_ca9 (c_ca9.args (a0, a1, a2)) [] (c_ca9.ans (a0, a1, a2) r) := by
 refine does_pn (L := [(0, .agg [.ro (List.map (eCommit false) a0.commits), .ro (List.map eHead a0.heads)]), (1, .v (.string a1)), (2, .v (.string a2))]) (fun bs => pin) fun bs t o => ?_
 show vwp _ ib_ca9 _ _
 unfold ib_ca9
 refine w_ir ?_
 unfold gf_ca9 at h
 obtain ⟨x3, h4, h⟩ := bnd h
 refine go ?_;intros
 refine c_call (c := c_cc9) (a0) H_cc9 h4 fun ch => ?_
 refine go ?_;intros
 refine s_split rfl (fun c => ?_) (fun c => ?_)
 ·replace h := itt h c
  rw [c]
  refine go ?_;intros
  cases h
  exact r_end
 replace h := itf h c
 rw [c]
 obtain ⟨x5, h6, h⟩ := bnd h
 refine go ?_;intros
 refine c_call (c := c_ci9) (a1) H_ci9 h6 fun ch => ?_
 refine go ?_;intros
 refine w_cond rfl (fun c => ?_) (fun c => ?_)
 ·replace h := itt h c
  try rw [c]
  refine go ?_;intros
  cases h
  exact r_end
 replace h := itf h c
 try rw [c]
 obtain ⟨q7, h38, h⟩ := bnd h
 refine go ?_;intros
 refine w_cut (fun t o => ∃ b15 b16 c17 b18 c19 b20 b22 c23 b25 c26 b27, Pin t (ovr [(1, .v (.string a1)), (2, .v (.string a2)), (3, .ptr 24 b15 210 0 0), (6, .ptr 48 b20 210 0 0), (8, .ptr 64 b27 210 0 0)] t) ∧ PinH o (ovh [(24, ⟨b15, 1, 210, true, [[.sl false 3 (List.map (eCommit false) a0.commits), .sl false 2 (List.map eHead a0.heads)]]⟩), (1000768, ent b16 c17 115 (List.map (eCommit true) [])), (1000769, ent b18 c19 130 (List.map eHead [])), (48, ⟨b20, 1, 210, true, [[.al 1000768 b16 c17 0 ([] : List Commit).length 115, .al 1000769 b18 c19 0 ([] : List Head).length 130]]⟩), (1001024, ent b22 c23 115 (List.map (eCommit true) q7.1)), (1001025, ent b25 c26 130 (List.map eHead q7.2)), (64, ⟨b27, 1, 210, true, [[.al 1001024 b22 c23 0 q7.1.length 115, .al 1001025 b25 c26 0 q7.2.length 130]]⟩)] o)) ?_ ?_
 ·obtain ⟨x8, h9, h38⟩ := bnd h38
  refine go ?_;intros
  refine c_call (c := c_dt9) (a0) H_dt9 h9 fun ch => ?_
  refine go ?_;intros
  cases h38
  exact k_cn ⟨_, _, _, _, _, _, _, _, _, _, _, pin, pinh⟩
 rintro t o ⟨b15, b16, c17, b18, c19, b20, b22, c23, b25, c26, b27, pq1, pq2⟩
 refine pinned pq1 pq2 ?_
 obtain ⟨x28, h29, h⟩ := bnd h
 refine go ?_;intros
 refine c_call (c := c_dw9) (a0, a2) H_dw9 h29 fun ch => ?_
 refine go ?_;intros
 refine w_cond rfl (fun c => ?_) (fun c => ?_)
 ·replace h := itt h c
  try rw [c]
  refine go ?_;intros
  cases h
  exact r_end
 replace h := itf h c
 try rw [c]
 obtain ⟨x30, h31, h⟩ := bnd h
 refine go ?_;intros
 refine c_call (c := c_dw9) (a0, a1) H_dw9 h31 fun ch => ?_
 refine go ?_;intros
 refine s_split rfl (fun c => ?_) (fun c => ?_)
 ·replace h := itt h c
  rw [c]
  refine go ?_;intros
  cases h
  exact r_end
 replace h := itf h c
 rw [c]
 refine go ?_;intros
 refine w_cond rfl (fun c => ?_) (fun c => ?_)
 ·replace h := itt h (by first | exact c | (have c2 := c; simp only [List.length_map] at c2; exact c2))
  try rw [c]
  refine go ?_;intros
  cases h
  exact r_end
 replace h := itf h (by first | exact c | (have c2 := c; simp only [List.length_map] at c2; exact c2))
 try rw [c]
 obtain ⟨x32, h33, h⟩ := bnd h
 refine go ?_;intros
 refine r_iro rfl rfl h33 rfl ?_
 obtain ⟨h37, h⟩ := gd h
 refine go ?_;intros
 refine r_app (f := eHead) (xs := q7.2) (ys := ([(⟨a1, x32.at_⟩ : Head)] : (List Head))) rfl (src_mv rfl rfl (by first | rfl | simp)) rfl rfl (by first | rfl | simp) h37 fun b35 c36 => ?_
 refine go ?_;intros
 cases h
 exact r_end
theorem d_ea9 {G : Gam} (H_cp9 : Has G c_cp9) (a0 : Rd) (g0 : Option Addr) (g1 : Nat) (r : (Str × Int)) (h : gf_ea9 a0 = some r) : Does G if_ea9 ks_ea9 (c_ea9.args (a0, g0, g1)) (c_ea9.ins (a0, g0, g1)) (c_ea9.ans (a0, g0, g1) r) := by
 refine does_pg (L := fun bs => [(0, .ptr 0 (bs 0).1 290 0 0)]) (H := fun bs => [(0, ⟨(bs 0).1, (bs 0).2, 290, true, [[.rw g0 g1 (List.map eU8 a0.b), .v (.int .i64 a0.p)]]⟩)]) (fun bs => pin) (fun bs => pinh) fun bs t o => ?_
 show vwp _ ib_ea9 _ _
 unfold ib_ea9
 refine w_ir ?_
 unfold gf_ea9 at h
 obtain ⟨x2, h3, h⟩ := bnd h
 refine go ?_;intros
 refine c_callg (c := c_cp9) (a0, ([(⟨#[109, 97, 105, 110]⟩ : Str), (⟨#[97, 110, 110]⟩ : Str), (⟨#[98, 111, 98]⟩ : Str)] : (List Str)), g0, g1) H_cp9 h3 fun ch => ?_
 refine go ?_;intros
 cases h
 exact r_endg
theorem d_dk9 {G : Gam}  (a0 : (List Feat)) (a1 : Str) (r : (List Feat)) (h : gf_dk9 a0 a1 = some r) : Does G if_dk9 ks_dk9 (c_dk9.args (a0, a1)) [] (c_dk9.ans (a0, a1) r) := by
 refine does_pn (L := [(0, .ro (List.map (eFeat false) a0)), (1, .v (.string a1))]) (fun bs => pin) fun bs t o => ?_
 show vwp _ ib_dk9 _ _
 unfold ib_dk9
 refine w_ir ?_
 unfold gf_dk9 at h
 obtain ⟨hf39, h⟩ := gd h
 obtain ⟨q26, h47, h⟩ := bnd h
 refine go ?_;intros
 refine w_last (fun t o => ∃ b45 c46, Pin t (ovr [(5, .ref 56 b45 c46 0 q26.length 100)] t) ∧ PinH o (ovh [(56, ent b45 c46 100 (List.map (eFeat false) q26))] o)) ?_ ?_
 ·refine w_loop2 (fun n t o => ∃ l33 k31 v28 b29 c30, gl_dk9_1 a1 l33 k31 v28 = some q26 ∧ n = l33.length ∧ (a0).drop k31 = l33 ∧ Pin t (ovr [(0, .ro (List.map (eFeat false) a0)), (1, .v (.string a1)), (5, .ref 56 b29 c30 0 v28.length 100), (6, .v (.int .i64 (k31 : Int)))] t) ∧ PinH o (ovh [(56, ent b29 c30 100 (List.map (eFeat false) v28))] o)) _ ⟨_, _, _, _, _, h47, rfl, rfl, pin, pinh⟩ ?_
  rintro n t o ⟨l33, k31, v28, b29, c30, h47, rfl, hd34, pq1, pq2⟩
  refine pinned pq1 pq2 ?_
  cases l33 with
  | nil =>
   have hge36 := drop_ge hd34
   rw [gl_dk9_1] at h47
   refine go ?_;intros
   rw [hge36]
   refine go ?_;intros
   cases h47
   exact k_cn ⟨_, _, pin, pinh⟩
  | cons x32 l33 =>
   have hlt35 := drop_lt hd34
   have hx37 := drop_ix hd34
   have hw38 := drop_wr hd34 hf39
   rw [gl_dk9_1] at h47
   refine go ?_;intros
   rw [hlt35]
   refine go ?_;intros
   refine r_iro rfl rfl hx37 rfl ?_
   refine go ?_;intros
   refine w_cond rfl (fun c => ?_) (fun c => ?_)
   ·replace h47 := itt h47 c
    try rw [c]
    refine go ?_;intros
    refine r_iro rfl rfl hx37 rfl ?_
    obtain ⟨h43, h47⟩ := gd h47
    refine go ?_;intros
    refine r_app (f := (eFeat false)) (xs := v28) (ys := ([x32] : (List Feat))) rfl (src_mv rfl rfl (by first | rfl | simp)) rfl rfl (by first | rfl | simp) h43 fun b41 c42 => ?_
    refine go ?_;intros
    rw [hw38]
    exact k_ln2 _ (Nat.lt_succ_self _) ⟨_, _, _, _, _, h47, rfl, drop_next hd34, pin, pinh⟩
   replace h47 := itf h47 c
   try rw [c]
   refine go ?_;intros
   rw [hw38]
   exact k_ln2 _ (Nat.lt_succ_self _) ⟨_, _, _, _, _, h47, rfl, drop_next hd34, pin, pinh⟩
 rintro t o ⟨b45, c46, pq1, pq2⟩
 refine pinnedQ pq1 pq2 ?_
 refine go ?_;intros
 cases h
 exact r_end
end Go.Proofs.AM
