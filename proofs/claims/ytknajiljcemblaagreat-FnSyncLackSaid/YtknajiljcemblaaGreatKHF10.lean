/- Lemmas of the proof (KHF10), on an abstract machine. Conditions: none. -/
import Derived.Test.YtknajiljcemblaaGreatKHD
set_option linter.unusedVariables false
set_option linter.unusedSimpArgs false
set_option maxRecDepth 100000
set_option maxHeartbeats 4000000
namespace Go.Proofs.AM
attribute [local irreducible] vwp vstps vstpLs vstp vdo vret kseq kblk kloop kend kcut kloop2 frzV renV shutK pfzV trnV unrV
theorem d_as9 {G : Gam} (H_ad9 : Has G c_ad9) (H_ak9 : Has G c_ak9) (H_av9 : Has G c_av9) (a0 : Repo) (a1 : Int) (a2 : Repo) (a3 : Int) (r : Bool) (h : gf_as9 a0 a1 a2 a3 = some r) : Does G if_as9 ks_as9 (c_as9.args (a0, a1, a2, a3)) [] (c_as9.ans (a0, a1, a2, a3) r) := by
 refine does_pn (L := [(0, .agg [.ro (List.map (eCommit false) a0.commits), .ro (List.map eHead a0.heads)]), (1, .v (.int .i64 a1)), (2, .agg [.ro (List.map (eCommit false) a2.commits), .ro (List.map eHead a2.heads)]), (3, .v (.int .i64 a3))]) (fun bs => pin) fun bs t o => ?_
 show vwp _ ib_as9 _ _
 unfold ib_as9
 refine w_ir ?_
 unfold gf_as9 at h
 obtain ⟨x3, h4, h⟩ := bnd h
 refine go ?_;intros
 refine c_call (c := c_ad9) (a0) H_ad9 h4 fun ch => ?_
 refine go ?_;intros
 refine s_split rfl (fun c => ?_) (fun c => ?_)
 ·replace h := itt h c
  rw [c]
  obtain ⟨x5, h6, h⟩ := bnd h
  refine go ?_;intros
  refine c_call (c := c_ad9) (a2) H_ad9 h6 fun ch => ?_
  refine go ?_;intros
  refine s_split rfl (fun c => ?_) (fun c => ?_)
  ·replace h := itt h c
   rw [c]
   obtain ⟨x7, h8, h⟩ := bnd h
   refine go ?_;intros
   refine c_call (c := c_ak9) (a0, a1) H_ak9 h8 fun ch => ?_
   refine go ?_;intros
   refine s_split rfl (fun c => ?_) (fun c => ?_)
   ·replace h := itt h c
    rw [c]
    obtain ⟨x9, h10, h⟩ := bnd h
    refine go ?_;intros
    refine c_call (c := c_ak9) (a2, a3) H_ak9 h10 fun ch => ?_
    refine go ?_;intros
    refine s_split rfl (fun c => ?_) (fun c => ?_)
    ·replace h := itt h c
     rw [c]
     obtain ⟨x11, h12, h⟩ := bnd h
     refine go ?_;intros
     refine c_call (c := c_av9) (a0, a2) H_av9 h12 fun ch => ?_
     obtain ⟨x15, h16, h⟩ := bnd h
     refine go ?_;intros
     refine r_ire (xs := x11) rfl rfl h16 rfl ?_
     refine go ?_;intros
     refine r_lop (f := (eSl true 33 eBool)) (g := eBool) (xs := x11) (x := x15) (idx_get h16).2 rfl rfl rfl fun b17 c18 => ?_
     obtain ⟨x19, h20, h⟩ := bnd h
     refine go ?_;intros
     refine r_ire (xs := x15) rfl rfl h20 rfl ?_
     refine go ?_;intros
     refine r_shut ?_
     refine go ?_;intros
     refine r_lde (f := eBool) (xs := x15) (x := x19) rfl rfl (idx_get h20).2 rfl rfl rfl ?_
     refine go ?_;intros
     refine k_sh0 (f := (eSl true 33 eBool)) (g := eBool) (idx_get h16).2 ?_
     refine go ?_;intros
     cases h
     exact r_end
    replace h := itf h c
    rw [c]
    refine go ?_;intros
    cases h
    exact r_end
   replace h := itf h c
   rw [c]
   refine go ?_;intros
   cases h
   exact r_end
  replace h := itf h c
  rw [c]
  refine go ?_;intros
  cases h
  exact r_end
 replace h := itf h c
 rw [c]
 refine go ?_;intros
 cases h
 exact r_end
theorem d_cj9 {G : Gam}  (a0 : (List UInt8)) (g0 : Option Addr) (g1 : Nat) (r : Rd) (h : gf_cj9 a0 = some r) : Does G if_cj9 ks_cj9 (c_cj9.args (a0, g0, g1)) [] (c_cj9.ans (a0, g0, g1) r) := by
 refine does_pn (L := [(0, .raw g0 g1 (List.map eU8 a0))]) (fun bs => pin) fun bs t o => ?_
 show vwp _ ib_cj9 _ _
 unfold ib_cj9
 refine w_ir ?_
 unfold gf_cj9 at h
 refine go ?_;intros
 refine w_cond rfl (fun c => ?_) (fun c => ?_)
 ·replace h := itt h (by first | exact c | (have c2 := c; simp only [List.length_map] at c2; exact c2))
  try rw [c]
  obtain ⟨x1, h2, h⟩ := bnd h
  refine go ?_;intros
  refine r_slsraw (f := eU8) rfl rfl rfl h2 ?_
  refine go ?_;intros
  cases h
  exact r_end
 replace h := itf h (by first | exact c | (have c2 := c; simp only [List.length_map] at c2; exact c2))
 try rw [c]
 refine go ?_;intros
 cases h
 exact r_end
theorem d_cm9 {G : Gam}  (a0 : Rd) (a1 : Int) (g0 : Option Addr) (g1 : Nat) (r : (Int × Int)) (h : gf_cm9 a0 a1 = some r) : Does G if_cm9 ks_cm9 (c_cm9.args (a0, a1, g0, g1)) (c_cm9.ins (a0, a1, g0, g1)) (c_cm9.ans (a0, a1, g0, g1) r) := by
 refine does_pg (L := fun bs => [(0, .ptr 0 (bs 0).1 290 0 0), (1, .v (.int .i64 a1))]) (H := fun bs => [(0, ⟨(bs 0).1, (bs 0).2, 290, true, [[.rw g0 g1 (List.map eU8 a0.b), .v (.int .i64 a0.p)]]⟩)]) (fun bs => pin) (fun bs => pinh) fun bs t o => ?_
 show vwp _ ib_cm9 _ _
 unfold ib_cm9
 refine w_ir ?_
 unfold gf_cm9 at h
 refine go ?_;intros
 refine s_split rfl (fun c => ?_) (fun c => ?_)
 ·replace h := itt h c
  rw [c]
  refine go ?_;intros
  cases h
  exact r_endg
 replace h := itf h c
 rw [c]
 refine go ?_;intros
 refine w_cond rfl (fun c => ?_) (fun c => ?_)
 ·replace h := itt h (by first | exact c | (have c2 := c; simp only [List.length_map] at c2; exact c2))
  try rw [c]
  refine go ?_;intros
  cases h
  exact r_endg
 replace h := itf h (by first | exact c | (have c2 := c; simp only [List.length_map] at c2; exact c2))
 try rw [c]
 refine go ?_;intros
 refine w_cond rfl (fun c => ?_) (fun c => ?_)
 ·replace h := itt h (by first | exact c | (have c2 := c; simp only [List.length_map] at c2; exact c2))
  try rw [c]
  obtain ⟨x1, h2, h⟩ := bnd h
  refine go ?_;intros
  refine r_iro rfl rfl h2 rfl ?_
  obtain ⟨x3, h4, h⟩ := bnd h
  refine go ?_;intros
  refine r_imod rfl rfl h4 ?_
  refine go ?_;intros
  cases h
  exact r_endg
 replace h := itf h (by first | exact c | (have c2 := c; simp only [List.length_map] at c2; exact c2))
 try rw [c]
 obtain ⟨x5, h6, h⟩ := bnd h
 refine go ?_;intros
 refine r_imod rfl rfl h6 ?_
 obtain ⟨x7, h8, h⟩ := bnd h
 refine go ?_;intros
 refine r_iro rfl rfl h8 rfl ?_
 obtain ⟨x9, h10, h⟩ := bnd h
 refine go ?_;intros
 refine r_imod rfl rfl h10 ?_
 obtain ⟨x11, h12, h⟩ := bnd h
 refine go ?_;intros
 refine r_iro rfl rfl h12 rfl ?_
 obtain ⟨x13, h14, h⟩ := bnd h
 refine go ?_;intros
 refine r_idiv rfl rfl h14 ?_
 refine go ?_;intros
 refine r_ixor rfl rfl ?_
 obtain ⟨x15, h16, h⟩ := bnd h
 refine go ?_;intros
 refine r_imod rfl rfl h16 ?_
 refine go ?_;intros
 cases h
 exact r_endg
theorem d_cl9 {G : Gam} (H_cm9 : Has G c_cm9) (a0 : Rd) (a1 : (List Str)) (g0 : Option Addr) (g1 : Nat) (r : (Str × Int)) (h : gf_cl9 a0 a1 = some r) : Does G if_cl9 ks_cl9 (c_cl9.args (a0, a1, g0, g1)) (c_cl9.ins (a0, a1, g0, g1)) (c_cl9.ans (a0, a1, g0, g1) r) := by
 refine does_pg (L := fun bs => [(0, .ptr 0 (bs 0).1 290 0 0), (1, .ro (List.map eStr a1))]) (H := fun bs => [(0, ⟨(bs 0).1, (bs 0).2, 290, true, [[.rw g0 g1 (List.map eU8 a0.b), .v (.int .i64 a0.p)]]⟩)]) (fun bs => pin) (fun bs => pinh) fun bs t o => ?_
 show vwp _ ib_cl9 _ _
 unfold ib_cl9
 refine w_ir ?_
 unfold gf_cl9 at h
 obtain ⟨x1, h2, h⟩ := bnd h
 refine go ?_;intros
 refine c_callg (c := c_cm9) (a0, (a1.length : Int), g0, g1) H_cm9 h2 fun ch => ?_
 obtain ⟨x3, h4, h⟩ := bnd h
 refine go ?_;intros
 refine r_iro rfl rfl h4 rfl ?_
 refine go ?_;intros
 cases h
 exact r_endg
theorem d_cy9 {G : Gam} (H_cl9 : Has G c_cl9) (a0 : Rd) (g0 : Option Addr) (g1 : Nat) (r : (Str × Int)) (h : gf_cy9 a0 = some r) : Does G if_cy9 ks_cy9 (c_cy9.args (a0, g0, g1)) (c_cy9.ins (a0, g0, g1)) (c_cy9.ans (a0, g0, g1) r) := by
 refine does_pg (L := fun bs => [(0, .ptr 0 (bs 0).1 290 0 0)]) (H := fun bs => [(0, ⟨(bs 0).1, (bs 0).2, 290, true, [[.rw g0 g1 (List.map eU8 a0.b), .v (.int .i64 a0.p)]]⟩)]) (fun bs => pin) (fun bs => pinh) fun bs t o => ?_
 show vwp _ ib_cy9 _ _
 unfold ib_cy9
 refine w_ir ?_
 unfold gf_cy9 at h
 obtain ⟨x2, h3, h⟩ := bnd h
 refine go ?_;intros
 refine c_callg (c := c_cl9) (a0, ([(⟨#[97]⟩ : Str), (⟨#[98]⟩ : Str), (⟨#[99]⟩ : Str), (⟨#[100]⟩ : Str), (⟨#[101]⟩ : Str)] : (List Str)), g0, g1) H_cl9 h3 fun ch => ?_
 refine go ?_;intros
 cases h
 exact r_endg
theorem d_cz9 {G : Gam} (H_cl9 : Has G c_cl9) (a0 : Rd) (g0 : Option Addr) (g1 : Nat) (r : (Str × Int)) (h : gf_cz9 a0 = some r) : Does G if_cz9 ks_cz9 (c_cz9.args (a0, g0, g1)) (c_cz9.ins (a0, g0, g1)) (c_cz9.ans (a0, g0, g1) r) := by
 refine does_pg (L := fun bs => [(0, .ptr 0 (bs 0).1 290 0 0)]) (H := fun bs => [(0, ⟨(bs 0).1, (bs 0).2, 290, true, [[.rw g0 g1 (List.map eU8 a0.b), .v (.int .i64 a0.p)]]⟩)]) (fun bs => pin) (fun bs => pinh) fun bs t o => ?_
 show vwp _ ib_cz9 _ _
 unfold ib_cz9
 refine w_ir ?_
 unfold gf_cz9 at h
 obtain ⟨x2, h3, h⟩ := bnd h
 refine go ?_;intros
 refine c_callg (c := c_cl9) (a0, ([(⟨#[110, 97, 109, 101]⟩ : Str), (⟨#[107, 105, 110, 100]⟩ : Str), (⟨#[117, 115, 101]⟩ : Str), (⟨#[116, 111, 110, 101]⟩ : Str)] : (List Str)), g0, g1) H_cl9 h3 fun ch => ?_
 refine go ?_;intros
 cases h
 exact r_endg
theorem d_dd9 {G : Gam} (H_cl9 : Has G c_cl9) (a0 : Rd) (g0 : Option Addr) (g1 : Nat) (r : (Str × Int)) (h : gf_dd9 a0 = some r) : Does G if_dd9 ks_dd9 (c_dd9.args (a0, g0, g1)) (c_dd9.ins (a0, g0, g1)) (c_dd9.ans (a0, g0, g1) r) := by
 refine does_pg (L := fun bs => [(0, .ptr 0 (bs 0).1 290 0 0)]) (H := fun bs => [(0, ⟨(bs 0).1, (bs 0).2, 290, true, [[.rw g0 g1 (List.map eU8 a0.b), .v (.int .i64 a0.p)]]⟩)]) (fun bs => pin) (fun bs => pinh) fun bs t o => ?_
 show vwp _ ib_dd9 _ _
 unfold ib_dd9
 refine w_ir ?_
 unfold gf_dd9 at h
 obtain ⟨x2, h3, h⟩ := bnd h
 refine go ?_;intros
 refine c_callg (c := c_cl9) (a0, ([(⟨#[97]⟩ : Str), (⟨#[98]⟩ : Str), (⟨#[111, 97, 107]⟩ : Str), (⟨#[97, 115, 104]⟩ : Str), (⟨#[114, 111, 97, 100]⟩ : Str)] : (List Str)), g0, g1) H_cl9 h3 fun ch => ?_
 refine go ?_;intros
 cases h
 exact r_endg
theorem d_ck9 {G : Gam} (H_cm9 : Has G c_cm9) (a0 : Rd) (a1 : (List Int)) (g0 : Option Addr) (g1 : Nat) (r : (Int × Int)) (h : gf_ck9 a0 a1 = some r) : Does G if_ck9 ks_ck9 (c_ck9.args (a0, a1, g0, g1)) (c_ck9.ins (a0, a1, g0, g1)) (c_ck9.ans (a0, a1, g0, g1) r) := by
 refine does_pg (L := fun bs => [(0, .ptr 0 (bs 0).1 290 0 0), (1, .ro (List.map eInt a1))]) (H := fun bs => [(0, ⟨(bs 0).1, (bs 0).2, 290, true, [[.rw g0 g1 (List.map eU8 a0.b), .v (.int .i64 a0.p)]]⟩)]) (fun bs => pin) (fun bs => pinh) fun bs t o => ?_
 show vwp _ ib_ck9 _ _
 unfold ib_ck9
 refine w_ir ?_
 unfold gf_ck9 at h
 obtain ⟨x1, h2, h⟩ := bnd h
 refine go ?_;intros
 refine c_callg (c := c_cm9) (a0, (a1.length : Int), g0, g1) H_cm9 h2 fun ch => ?_
 obtain ⟨x3, h4, h⟩ := bnd h
 refine go ?_;intros
 refine r_iro rfl rfl h4 rfl ?_
 refine go ?_;intros
 cases h
 exact r_endg
theorem d_cr9 {G : Gam} (H_cm9 : Has G c_cm9) (H_ck9 : Has G c_ck9) (a0 : Rd) (g0 : Option Addr) (g1 : Nat) (r : (Pt × Int)) (h : gf_cr9 a0 = some r) : Does G if_cr9 ks_cr9 (c_cr9.args (a0, g0, g1)) (c_cr9.ins (a0, g0, g1)) (c_cr9.ans (a0, g0, g1) r) := by
 refine does_pg (L := fun bs => [(0, .ptr 0 (bs 0).1 290 0 0)]) (H := fun bs => [(0, ⟨(bs 0).1, (bs 0).2, 290, true, [[.rw g0 g1 (List.map eU8 a0.b), .v (.int .i64 a0.p)]]⟩)]) (fun bs => pin) (fun bs => pinh) fun bs t o => ?_
 show vwp _ ib_cr9 _ _
 unfold ib_cr9
 refine w_ir ?_
 unfold gf_cr9 at h
 obtain ⟨x2, h3, h⟩ := bnd h
 refine go ?_;intros
 refine c_callg (c := c_cm9) (a0, 4, g0, g1) H_cm9 h3 fun ch => ?_
 obtain ⟨x5, h6, h⟩ := bnd h
 refine go ?_;intros
 refine c_callg (c := c_ck9) ((⟨a0.b, x2.2⟩ : Rd), ([0, 1, 2, 5] : (List Int)), g0, g1) H_ck9 h6 fun ch => ?_
 refine go ?_;intros
 cases h
 exact r_endg
theorem d_cp9 {G : Gam}  (a0 : Int) (a1 : Int) (r : Int) (h : gf_cp9 a0 a1 = some r) : Does G if_cp9 ks_cp9 (c_cp9.args (a0, a1)) [] (c_cp9.ans (a0, a1) r) := by
 refine does_pn (L := [(0, .v (.int .i64 a0)), (1, .v (.int .i64 a1))]) (fun bs => pin) fun bs t o => ?_
 show vwp _ ib_cp9 _ _
 unfold ib_cp9
 refine w_ir ?_
 unfold gf_cp9 at h
 refine go ?_;intros
 refine w_cond rfl (fun c => ?_) (fun c => ?_)
 ·replace h := itt h c
  try rw [c]
  refine go ?_;intros
  cases h
  exact r_end
 replace h := itf h c
 try rw [c]
 refine go ?_;intros
 cases h
 exact r_end
theorem d_cu9 {G : Gam} (H_ck9 : Has G c_ck9) (H_cm9 : Has G c_cm9) (H_cp9 : Has G c_cp9) (H_cr9 : Has G c_cr9) (H_ca9 : Has G c_ca9) (a0 : Rd) (g0 : Option Addr) (g1 : Nat) (r : (Shape × Int)) (h : gf_cu9 a0 = some r) : Does G if_cu9 ks_cu9 (c_cu9.args (a0, g0, g1)) (c_cu9.ins (a0, g0, g1)) (c_cu9.ans (a0, g0, g1) r) := by
 refine does_pg (L := fun bs => [(0, .ptr 0 (bs 0).1 290 0 0)]) (H := fun bs => [(0, ⟨(bs 0).1, (bs 0).2, 290, true, [[.rw g0 g1 (List.map eU8 a0.b), .v (.int .i64 a0.p)]]⟩)]) (fun bs => pin) (fun bs => pinh) fun bs t o => ?_
 show vwp _ ib_cu9 _ _
 unfold ib_cu9
 refine w_ir ?_
 unfold gf_cu9 at h
 obtain ⟨x3, h4, h⟩ := bnd h
 refine go ?_;intros
 refine c_callg (c := c_ck9) (a0, ([1, 2, 2, 3, 3] : (List Int)), g0, g1) H_ck9 h4 fun ch => ?_
 obtain ⟨x6, h7, h⟩ := bnd h
 refine go ?_;intros
 refine c_callg (c := c_cm9) ((⟨a0.b, x3.2⟩ : Rd), 4, g0, g1) H_cm9 h7 fun ch => ?_
 obtain ⟨q8, h159, h⟩ := bnd h
 refine go ?_;intros
 refine w_cut (fun t o => ∃ b10 c11 b12 b13 c14 b15, Pin t (ovr [(0, .ptr 0 (bs 0).1 290 0 0), (2, .ptr 16 b12 226 0 0), (3, .ptr 24 b15 226 0 0), (4, .v (.int .i64 q8))] t) ∧ PinH o (ovh [(0, ⟨(bs 0).1, (bs 0).2, 290, true, [[.rw g0 g1 (List.map eU8 a0.b), .v (.int .i64 x6.2)]]⟩), (1000257, ent b10 c11 66 (List.map ePt [])), (16, ⟨b12, 1, 226, true, [[.v (.int .i64 0), .al 1000257 b10 c11 0 ([] : List Pt).length 66]]⟩), (1000385, ent b13 c14 66 (List.map ePt [])), (24, ⟨b15, 1, 226, true, [[.v (.int .i64 x3.1), .al 1000385 b13 c14 0 ([] : List Pt).length 66]]⟩)] o)) ?_ ?_
 ·refine go ?_;intros
  refine w_cond rfl (fun c => ?_) (fun c => ?_)
  ·replace h159 := itt h159 c
   try rw [c]
   refine go ?_;intros
   cases h159
   exact k_cn ⟨_, _, _, _, _, _, pin, pinh⟩
  replace h159 := itf h159 c
  try rw [c]
  refine go ?_;intros
  cases h159
  exact k_cn ⟨_, _, _, _, _, _, pin, pinh⟩
 rintro t o ⟨b10, c11, b12, b13, c14, b15, pq1, pq2⟩
 refine pinned pq1 pq2 ?_
 obtain ⟨q109, h160, h⟩ := bnd h
 refine go ?_;intros
 refine w_last (fun t o => ∃ b147 c148 b149 b151 c152 b153, Pin t (ovr [(0, .ptr 0 (bs 0).1 290 0 0), (2, .ptr 16 b149 226 0 0), (3, .ptr 24 b153 226 0 0)] t) ∧ PinH o (ovh [(0, ⟨(bs 0).1, (bs 0).2, 290, true, [[.rw g0 g1 (List.map eU8 a0.b), .v (.int .i64 q109.1)]]⟩), (1000257, ent b147 c148 66 (List.map ePt [])), (16, ⟨b149, 1, 226, true, [[.v (.int .i64 0), .al 1000257 b147 c148 0 ([] : List Pt).length 66]]⟩), (1000385, ent b151 c152 66 (List.map ePt q109.2)), (24, ⟨b153, 1, 226, true, [[.v (.int .i64 x3.1), .al 1000385 b151 c152 0 q109.2.length 66]]⟩)] o)) ?_ ?_
 ·refine w_loop2 (fun n t o => ∃ n119 v110 v111 v115 b112 c113 b114 b116 c117 b118, gl_cu9_1 q8 a0 x3 n119 v110 v111 v115 = some q109 ∧ n119 = n ∧ Pin t (ovr [(0, .ptr 0 (bs 0).1 290 0 0), (2, .ptr 16 b114 226 0 0), (3, .ptr 24 b118 226 0 0), (4, .v (.int .i64 q8)), (5, .v (.int .i64 v110))] t) ∧ PinH o (ovh [(0, ⟨(bs 0).1, (bs 0).2, 290, true, [[.rw g0 g1 (List.map eU8 a0.b), .v (.int .i64 v111)]]⟩), (1000257, ent b112 c113 66 (List.map ePt [])), (16, ⟨b114, 1, 226, true, [[.v (.int .i64 0), .al 1000257 b112 c113 0 ([] : List Pt).length 66]]⟩), (1000385, ent b116 c117 66 (List.map ePt v115)), (24, ⟨b118, 1, 226, true, [[.v (.int .i64 x3.1), .al 1000385 b116 c117 0 v115.length 66]]⟩)] o)) _ ⟨_, _, _, _, _, _, _, _, _, _, h160, rfl, pin, pinh⟩ ?_
  rintro n t o ⟨n119, v110, v111, v115, b112, c113, b114, b116, c117, b118, h160, rfl, pq1, pq2⟩
  refine pinned pq1 pq2 ?_
  cases n119 with
  | zero => rw [gl_cu9_1] at h160; cases h160
  | succ n119 =>
   rw [gl_cu9_1] at h160
   refine go ?_;intros
   refine s_split rfl (fun c => ?_) (fun c => ?_)
   ·replace h160 := itt h160 c
    rw [c]
    obtain ⟨x120, h121, h160⟩ := bnd h160
    refine go ?_;intros
    refine c_call (c := c_cp9) (q8, 6) H_cp9 h121 fun ch => ?_
    refine go ?_;intros
    refine w_cond rfl (fun c => ?_) (fun c => ?_)
    ·replace h160 := itt h160 (by first | exact c | (have c2 := c; simp only [List.length_map] at c2; exact c2))
     try rw [c]
     obtain ⟨x122, h123, h160⟩ := bnd h160
     refine go ?_;intros
     refine c_callg (c := c_cr9) ((⟨a0.b, v111⟩ : Rd), g0, g1) H_cr9 h123 fun ch => ?_
     obtain ⟨q129, h161, h160⟩ := bnd h160
     refine go ?_;intros
     refine w_cut (fun t o => ∃ b135 c136 b137 b138 c139 b140 b141, Pin t (ovr [(0, .ptr 0 (bs 0).1 290 0 0), (2, .ptr 16 b137 226 0 0), (3, .ptr 24 b140 226 0 0), (4, .v (.int .i64 q8)), (5, .v (.int .i64 v110)), (6, .ptr 48 b141 66 0 0), (23, .ptr 24 b140 226 0 1), (24, .ref 1000385 b138 c139 0 v115.length 66), (25, .v (.int .i64 (v115.length : Int))), (26, .v (.int .i64 q8)), (27, .v (.int .i64 x120)), (28, .v (.bool true)), (61, .v (.bool q129))] t) ∧ PinH o (ovh [(0, ⟨(bs 0).1, (bs 0).2, 290, true, [[.rw g0 g1 (List.map eU8 a0.b), .v (.int .i64 x122.2)]]⟩), (1000257, ent b135 c136 66 (List.map ePt [])), (16, ⟨b137, 1, 226, true, [[.v (.int .i64 0), .al 1000257 b135 c136 0 ([] : List Pt).length 66]]⟩), (1000385, ent b138 c139 66 (List.map ePt v115)), (24, ⟨b140, 1, 226, true, [[.v (.int .i64 x3.1), .al 1000385 b138 c139 0 v115.length 66]]⟩), (48, ⟨b141, 1, 66, true, [[.v (.int .i64 x122.1.x), .v (.int .i64 x122.1.y)]]⟩)] o)) ?_ ?_
     ·refine go ?_;intros
      refine s_split rfl (fun c => ?_) (fun c => ?_)
      ·replace h161 := itt h161 (by first | exact c | (have c2 := c; simp only [List.length_map] at c2; exact c2))
       rw [c]
       refine go ?_;intros
       cases h161
       exact k_cn ⟨_, _, _, _, _, _, _, pin, pinh⟩
      replace h161 := itf h161 (by first | exact c | (have c2 := c; simp only [List.length_map] at c2; exact c2))
      rw [c]
      obtain ⟨x130, h131, h161⟩ := bnd h161
      refine go ?_;intros
      refine r_ire (xs := v115) rfl rfl h131 rfl ?_
      refine go ?_;intros
      refine r_lde (f := ePt) (xs := v115) (x := x130) rfl rfl (idx_get h131).2 rfl rfl rfl ?_
      refine go ?_;intros
      refine s_split rfl (fun c => ?_) (fun c => ?_)
      ·replace h161 := itt h161 c
       rw [c]
       refine go ?_;intros
       refine s_split rfl (fun c => ?_) (fun c => ?_)
       ·replace h161 := itt h161 c
        rw [c]
        refine go ?_;intros
        cases h161
        exact k_cn ⟨_, _, _, _, _, _, _, pin, pinh⟩
       replace h161 := itf h161 c
       rw [c]
       obtain ⟨x132, h133, h161⟩ := bnd h161
       refine go ?_;intros
       refine r_ire (xs := v115) rfl rfl h133 rfl ?_
       refine go ?_;intros
       refine r_lde (f := ePt) (xs := v115) (x := x132) rfl rfl (idx_get h133).2 rfl rfl rfl ?_
       refine go ?_;intros
       cases h161
       exact k_cn ⟨_, _, _, _, _, _, _, pin, pinh⟩
      replace h161 := itf h161 c
      rw [c]
      refine go ?_;intros
      cases h161
      exact k_cn ⟨_, _, _, _, _, _, _, pin, pinh⟩
     rintro t o ⟨b135, c136, b137, b138, c139, b140, b141, pq1, pq2⟩
     refine pinned pq1 pq2 ?_
     refine go ?_;intros
     refine w_cond rfl (fun c => ?_) (fun c => ?_)
     ·replace h160 := itt h160 c
      try rw [c]
      obtain ⟨h145, h160⟩ := gd h160
      refine go ?_;intros
      refine r_app (f := ePt) (xs := v115) (ys := ([x122.1] : (List Pt))) rfl (src_mv rfl rfl (by first | rfl | simp)) rfl rfl (by first | rfl | simp) h145 fun b143 c144 => ?_
      refine go ?_;intros
      exact k_ln2 _ (Nat.lt_succ_self _) ⟨_, _, _, _, _, _, _, _, _, _, h160, rfl, pin, pinh⟩
     replace h160 := itf h160 c
     try rw [c]
     refine go ?_;intros
     exact k_ln2 _ (Nat.lt_succ_self _) ⟨_, _, _, _, _, _, _, _, _, _, h160, rfl, pin, pinh⟩
    replace h160 := itf h160 (by first | exact c | (have c2 := c; simp only [List.length_map] at c2; exact c2))
    try rw [c]
    refine go ?_;intros
    cases h160
    exact k_cn ⟨_, _, _, _, _, _, pin, pinh⟩
   replace h160 := itf h160 c
   rw [c]
   refine go ?_;intros
   cases h160
   exact k_cn ⟨_, _, _, _, _, _, pin, pinh⟩
 rintro t o ⟨b147, c148, b149, b151, c152, b153, pq1, pq2⟩
 refine pinnedQ pq1 pq2 ?_
 obtain ⟨x154, h155, h⟩ := bnd h
 refine go ?_;intros
 refine c_call (c := c_ca9) ((⟨x3.1, q109.2⟩ : Shape)) H_ca9 h155 fun ch => ?_
 refine go ?_;intros
 refine w_cond rfl (fun c => ?_) (fun c => ?_)
 ·replace h := itt h c
  try rw [c]
  obtain ⟨x156, h157, h⟩ := bnd h
  refine go ?_;intros
  refine c_callg (c := c_cr9) ((⟨a0.b, q109.1⟩ : Rd), g0, g1) H_cr9 h157 fun ch => ?_
  refine go ?_;intros
  cases h
  exact r_endg
 replace h := itf h c
 try rw [c]
 refine go ?_;intros
 cases h
 exact r_endg
theorem d_cx9 {G : Gam} (H_cu9 : Has G c_cu9) (H_cm9 : Has G c_cm9) (H_cz9 : Has G c_cz9) (H_dd9 : Has G c_dd9) (H_da9 : Has G c_da9) (a0 : Rd) (a1 : Str) (g0 : Option Addr) (g1 : Nat) (r : (Feat × Int)) (h : gf_cx9 a0 a1 = some r) : Does G if_cx9 ks_cx9 (c_cx9.args (a0, a1, g0, g1)) (c_cx9.ins (a0, a1, g0, g1)) (c_cx9.ans (a0, a1, g0, g1) r) := by
 refine does_pg (L := fun bs => [(0, .ptr 0 (bs 0).1 290 0 0), (1, .v (.string a1))]) (H := fun bs => [(0, ⟨(bs 0).1, (bs 0).2, 290, true, [[.rw g0 g1 (List.map eU8 a0.b), .v (.int .i64 a0.p)]]⟩)]) (fun bs => pin) (fun bs => pinh) fun bs t o => ?_
 show vwp _ ib_cx9 _ _
 unfold ib_cx9
 refine w_ir ?_
 unfold gf_cx9 at h
 obtain ⟨x2, h3, h⟩ := bnd h
 refine go ?_;intros
 refine c_callg (c := c_cu9) (a0, g0, g1) H_cu9 h3 fun ch => ?_
 obtain ⟨x7, h8, h⟩ := bnd h
 refine go ?_;intros
 refine c_callg (c := c_cm9) ((⟨a0.b, x2.2⟩ : Rd), 4, g0, g1) H_cm9 h8 fun ch => ?_
 obtain ⟨q56, h91, h⟩ := bnd h
 refine go ?_;intros
 refine w_last (fun t o => ∃ b79 c80 b81 c82 b83 b84 c85 b87 c88 b89, Pin t (ovr [(4, .ptr 32 b83 100 0 0), (5, .ptr 40 b89 100 0 0)] t) ∧ PinH o (ovh [(1000514, ent b79 c80 66 (List.map ePt [])), (1000515, ent b81 c82 82 (List.map eTag [])), (32, ⟨b83, 1, 100, true, [[.v (.string (⟨#[]⟩ : Str)), .v (.int .i64 0), .al 1000514 b79 c80 0 ([] : List Pt).length 66, .al 1000515 b81 c82 0 ([] : List Tag).length 82]]⟩), (1000642, ent b84 c85 66 (List.map ePt x2.1.pts)), (1000643, ent b87 c88 82 (List.map eTag q56.1)), (40, ⟨b89, 1, 100, true, [[.v (.string a1), .v (.int .i64 x2.1.kind), .al 1000642 b84 c85 0 x2.1.pts.length 66, .al 1000643 b87 c88 0 q56.1.length 82]]⟩), (0, ⟨(bs 0).1, (bs 0).2, 290, true, [[.rw g0 g1 (List.map eU8 a0.b), .v (.int .i64 q56.2)]]⟩)] o)) ?_ ?_
 ·refine w_loop2 (fun n t o => ∃ n70 v57 v58 v66 b59 c60 b61 c62 b63 b64 c65 b67 c68 b69, gl_cx9_1 a0 n70 v57 v58 v66 = some q56 ∧ n70 = n ∧ Pin t (ovr [(0, .ptr 0 (bs 0).1 290 0 0), (4, .ptr 32 b63 100 0 0), (5, .ptr 40 b69 100 0 0), (6, .v (.int .i64 v57))] t) ∧ PinH o (ovh [(0, ⟨(bs 0).1, (bs 0).2, 290, true, [[.rw g0 g1 (List.map eU8 a0.b), .v (.int .i64 v58)]]⟩), (1000514, ent b59 c60 66 (List.map ePt [])), (1000515, ent b61 c62 82 (List.map eTag [])), (32, ⟨b63, 1, 100, true, [[.v (.string (⟨#[]⟩ : Str)), .v (.int .i64 0), .al 1000514 b59 c60 0 ([] : List Pt).length 66, .al 1000515 b61 c62 0 ([] : List Tag).length 82]]⟩), (1000642, ent b64 c65 66 (List.map ePt x2.1.pts)), (1000643, ent b67 c68 82 (List.map eTag v66)), (40, ⟨b69, 1, 100, true, [[.v (.string a1), .v (.int .i64 x2.1.kind), .al 1000642 b64 c65 0 x2.1.pts.length 66, .al 1000643 b67 c68 0 v66.length 82]]⟩)] o)) _ ⟨_, _, _, _, _, _, _, _, _, _, _, _, _, _, h91, rfl, pin, pinh⟩ ?_
  rintro n t o ⟨n70, v57, v58, v66, b59, c60, b61, c62, b63, b64, c65, b67, c68, b69, h91, rfl, pq1, pq2⟩
  refine pinned pq1 pq2 ?_
  cases n70 with
  | zero => rw [gl_cx9_1] at h91; cases h91
  | succ n70 =>
   rw [gl_cx9_1] at h91
   refine go ?_;intros
   refine w_cond rfl (fun c => ?_) (fun c => ?_)
   ·replace h91 := itt h91 c
    try rw [c]
    obtain ⟨x71, h72, h91⟩ := bnd h91
    refine go ?_;intros
    refine c_callg (c := c_cz9) ((⟨a0.b, v58⟩ : Rd), g0, g1) H_cz9 h72 fun ch => ?_
    obtain ⟨x73, h74, h91⟩ := bnd h91
    refine go ?_;intros
    refine c_callg (c := c_dd9) ((⟨a0.b, x71.2⟩ : Rd), g0, g1) H_dd9 h74 fun ch => ?_
    obtain ⟨x75, h76, h91⟩ := bnd h91
    refine go ?_;intros
    refine c_call (c := c_da9) (v66, x71.1, x73.1) H_da9 h76 fun ch => ?_
    refine go ?_;intros
    exact k_ln2 _ (Nat.lt_succ_self _) ⟨_, _, _, _, _, _, _, _, _, _, _, _, _, _, h91, rfl, pin, pinh⟩
   replace h91 := itf h91 c
   try rw [c]
   refine go ?_;intros
   cases h91
   exact k_cn ⟨_, _, _, _, _, _, _, _, _, _, pin, pinh⟩
 rintro t o ⟨b79, c80, b81, c82, b83, b84, c85, b87, c88, b89, pq1, pq2⟩
 refine pinnedQ pq1 pq2 ?_
 refine go ?_;intros
 cases h
 exact r_endg
theorem d_cn9 {G : Gam} (H_cu9 : Has G c_cu9) (H_cm9 : Has G c_cm9) (H_ck9 : Has G c_ck9) (a0 : Rd) (g0 : Option Addr) (g1 : Nat) (r : (Shape × Int)) (h : gf_cn9 a0 = some r) : Does G if_cn9 ks_cn9 (c_cn9.args (a0, g0, g1)) (c_cn9.ins (a0, g0, g1)) (c_cn9.ans (a0, g0, g1) r) := by
 refine does_pg (L := fun bs => [(0, .ptr 0 (bs 0).1 290 0 0)]) (H := fun bs => [(0, ⟨(bs 0).1, (bs 0).2, 290, true, [[.rw g0 g1 (List.map eU8 a0.b), .v (.int .i64 a0.p)]]⟩)]) (fun bs => pin) (fun bs => pinh) fun bs t o => ?_
 show vwp _ ib_cn9 _ _
 unfold ib_cn9
 refine w_ir ?_
 unfold gf_cn9 at h
 obtain ⟨x2, h3, h⟩ := bnd h
 refine go ?_;intros
 refine c_callg (c := c_cu9) (a0, g0, g1) H_cu9 h3 fun ch => ?_
 obtain ⟨x7, h8, h⟩ := bnd h
 refine go ?_;intros
 refine c_callg (c := c_cm9) ((⟨a0.b, x2.2⟩ : Rd), (x2.1.pts.length : Int), g0, g1) H_cm9 h8 fun ch => ?_
 obtain ⟨x9, h10, h⟩ := bnd h
 refine go ?_;intros
 refine c_callg (c := c_cm9) ((⟨a0.b, x7.2⟩ : Rd), 40, g0, g1) H_cm9 h10 fun ch => ?_
 obtain ⟨q11, h34, h⟩ := bnd h
 refine go ?_;intros
 refine w_cut (fun t o => ∃ b12 c13 b14 b15 c16 b17, Pin t (ovr [(0, .ptr 0 (bs 0).1 290 0 0), (2, .ptr 16 b14 226 0 0), (3, .ptr 24 b17 226 0 0), (4, .v (.int .i64 x7.1)), (13, .v (.int .i64 x9.1)), (14, .v (.bool (x9.1 == 0)))] t) ∧ PinH o (ovh [(0, ⟨(bs 0).1, (bs 0).2, 290, true, [[.rw g0 g1 (List.map eU8 a0.b), .v (.int .i64 x9.2)]]⟩), (1000257, ent b12 c13 66 (List.map ePt [])), (16, ⟨b14, 1, 226, true, [[.v (.int .i64 0), .al 1000257 b12 c13 0 ([] : List Pt).length 66]]⟩), (1000385, ent b15 c16 66 (List.map ePt x2.1.pts)), (24, ⟨b17, 1, 226, true, [[.v (.int .i64 x2.1.kind), .al 1000385 b15 c16 0 x2.1.pts.length 66]]⟩)] o)) ?_ ?_
 ·refine go ?_;intros
  cases h34
  exact k_cn ⟨_, _, _, _, _, _, pin, pinh⟩
 rintro t o ⟨b12, c13, b14, b15, c16, b17, pq1, pq2⟩
 refine pinned pq1 pq2 ?_
 refine go ?_;intros
 refine w_cond rfl (fun c => ?_) (fun c => ?_)
 ·replace h := itt h c
  try rw [c]
  obtain ⟨x19, h20, h⟩ := bnd h
  refine go ?_;intros
  refine c_callg (c := c_ck9) ((⟨a0.b, x9.2⟩ : Rd), ([0, 4, 1, 2, 3] : (List Int)), g0, g1) H_ck9 h20 fun ch => ?_
  refine go ?_;intros
  cases h
  exact r_endg
 replace h := itf h c
 try rw [c]
 refine go ?_;intros
 refine w_cond rfl (fun c => ?_) (fun c => ?_)
 ·replace h := itt h c
  try rw [c]
  obtain ⟨x22, h23, h⟩ := bnd h
  refine go ?_;intros
  refine c_callg (c := c_ck9) ((⟨a0.b, x9.2⟩ : Rd), ([1000, 1001, (-1001)] : (List Int)), g0, g1) H_ck9 h23 fun ch => ?_
  obtain ⟨x24, h25, h⟩ := bnd h
  refine go ?_;intros
  refine r_ire (xs := x2.1.pts) rfl rfl h25 rfl ?_
  refine go ?_;intros
  refine c_ste (f := ePt) x2.1.pts (⟨x22.1, x24.y⟩ : Pt) (idx_get h25).2 ?_
  refine go ?_;intros
  cases h
  exact r_endg
 replace h := itf h c
 try rw [c]
 refine go ?_;intros
 refine w_cond rfl (fun c => ?_) (fun c => ?_)
 ·replace h := itt h c
  try rw [c]
  obtain ⟨x26, h27, h⟩ := bnd h
  refine go ?_;intros
  refine r_ire (xs := x2.1.pts) rfl rfl h27 rfl ?_
  refine go ?_;intros
  refine r_lde (f := ePt) (xs := x2.1.pts) (x := x26) rfl rfl (idx_get h27).2 rfl rfl rfl ?_
  obtain ⟨h31, h⟩ := gd h
  refine go ?_;intros
  refine r_app (f := ePt) (xs := x2.1.pts) (ys := ([x26] : (List Pt))) rfl (src_mv rfl rfl (by first | rfl | simp)) rfl rfl (by first | rfl | simp) h31 fun b29 c30 => ?_
  refine go ?_;intros
  cases h
  exact r_endg
 replace h := itf h c
 try rw [c]
 refine go ?_;intros
 refine w_cond rfl (fun c => ?_) (fun c => ?_)
 ·replace h := itt h c
  try rw [c]
  refine go ?_;intros
  refine r_trn ?_
  obtain ⟨x32, h33, h⟩ := bnd h
  refine go ?_;intros
  refine r_slr (xs := x2.1.pts) h33 rfl rfl rfl rfl (by first | rfl | simp) ?_
  refine go ?_;intros
  refine r_tr (f := ePt) h33 rfl rfl rfl ?_
  refine go ?_;intros
  cases h
  exact r_endg
 replace h := itf h c
 try rw [c]
 refine go ?_;intros
 cases h
 exact r_endg
theorem d_cv9 {G : Gam} (H_cy9 : Has G c_cy9) (H_cx9 : Has G c_cx9) (H_cm9 : Has G c_cm9) (H_cl9 : Has G c_cl9) (H_cn9 : Has G c_cn9) (a0 : Rd) (g0 : Option Addr) (g1 : Nat) (r : (Feat × Int)) (h : gf_cv9 a0 = some r) : Does G if_cv9 ks_cv9 (c_cv9.args (a0, g0, g1)) (c_cv9.ins (a0, g0, g1)) (c_cv9.ans (a0, g0, g1) r) := by
 refine does_pg (L := fun bs => [(0, .ptr 0 (bs 0).1 290 0 0)]) (H := fun bs => [(0, ⟨(bs 0).1, (bs 0).2, 290, true, [[.rw g0 g1 (List.map eU8 a0.b), .v (.int .i64 a0.p)]]⟩)]) (fun bs => pin) (fun bs => pinh) fun bs t o => ?_
 show vwp _ ib_cv9 _ _
 unfold ib_cv9
 refine w_ir ?_
 unfold gf_cv9 at h
 obtain ⟨q2, h47, h⟩ := bnd h
 refine go ?_;intros
 refine w_cut (fun t o => ∃ b13 c14 b15 c16 b17 b19 c20 b22 c23 b26, Pin t (ovr [(0, .ptr 0 (bs 0).1 290 0 0), (2, .ptr 16 b17 100 0 0), (3, .ptr 24 b26 100 0 0)] t) ∧ PinH o (ovh [(0, ⟨(bs 0).1, (bs 0).2, 290, true, [[.rw g0 g1 (List.map eU8 a0.b), .v (.int .i64 q2.1)]]⟩), (1000258, ent b13 c14 66 (List.map ePt [])), (1000259, ent b15 c16 82 (List.map eTag [])), (16, ⟨b17, 1, 100, true, [[.v (.string (⟨#[]⟩ : Str)), .v (.int .i64 0), .al 1000258 b13 c14 0 ([] : List Pt).length 66, .al 1000259 b15 c16 0 ([] : List Tag).length 82]]⟩), (1000386, ent b19 c20 66 (List.map ePt q2.2.1)), (1000387, ent b22 c23 82 (List.map eTag q2.2.2.1)), (24, ⟨b26, 1, 100, true, [[.v (.string q2.2.2.2.1), .v (.int .i64 q2.2.2.2.2), .al 1000386 b19 c20 0 q2.2.1.length 66, .al 1000387 b22 c23 0 q2.2.2.1.length 82]]⟩)] o)) ?_ ?_
 ·obtain ⟨x3, h4, h47⟩ := bnd h47
  refine go ?_;intros
  refine c_callg (c := c_cy9) (a0, g0, g1) H_cy9 h4 fun ch => ?_
  obtain ⟨x5, h6, h47⟩ := bnd h47
  refine go ?_;intros
  refine c_callg (c := c_cx9) ((⟨a0.b, x3.2⟩ : Rd), x3.1, g0, g1) H_cx9 h6 fun ch => ?_
  refine go ?_;intros
  cases h47
  exact k_cn ⟨_, _, _, _, _, _, _, _, _, _, pin, pinh⟩
 rintro t o ⟨b13, c14, b15, c16, b17, b19, c20, b22, c23, b26, pq1, pq2⟩
 refine pinned pq1 pq2 ?_
 obtain ⟨x27, h28, h⟩ := bnd h
 refine go ?_;intros
 refine c_callg (c := c_cm9) ((⟨a0.b, q2.1⟩ : Rd), 40, g0, g1) H_cm9 h28 fun ch => ?_
 refine go ?_;intros
 refine w_cond rfl (fun c => ?_) (fun c => ?_)
 ·replace h := itt h c
  try rw [c]
  obtain ⟨x30, h31, h⟩ := bnd h
  refine go ?_;intros
  refine c_callg (c := c_cl9) ((⟨a0.b, x27.2⟩ : Rd), ([(⟨#[]⟩ : Str), (⟨#[65]⟩ : Str), (⟨#[97, 98, 99, 100, 101, 102, 103]⟩ : Str)] : (List Str)), g0, g1) H_cl9 h31 fun ch => ?_
  refine go ?_;intros
  cases h
  exact r_endg
 replace h := itf h c
 try rw [c]
 refine go ?_;intros
 refine w_cond rfl (fun c => ?_) (fun c => ?_)
 ·replace h := itt h c
  try rw [c]
  obtain ⟨x32, h33, h⟩ := bnd h
  refine go ?_;intros
  refine c_callg (c := c_cn9) ((⟨a0.b, x27.2⟩ : Rd), g0, g1) H_cn9 h33 fun ch => ?_
  refine go ?_;intros
  cases h
  exact r_endg
 replace h := itf h c
 try rw [c]
 refine go ?_;intros
 refine w_cond rfl (fun c => ?_) (fun c => ?_)
 ·replace h := itt h c
  try rw [c]
  obtain ⟨h39, h⟩ := gd h
  refine go ?_;intros
  refine r_app (f := eTag) (xs := q2.2.2.1) (ys := ([(⟨(⟨#[97]⟩ : Str), (⟨#[98]⟩ : Str)⟩ : Tag)] : (List Tag))) rfl (src_mv rfl rfl (by first | rfl | simp)) rfl rfl (by first | rfl | simp) h39 fun b37 c38 => ?_
  refine go ?_;intros
  cases h
  exact r_endg
 replace h := itf h c
 try rw [c]
 refine go ?_;intros
 refine w_cond rfl (fun c => ?_) (fun c => ?_)
 ·replace h := itt h c
  try rw [c]
  obtain ⟨x41, h42, h⟩ := bnd h
  refine go ?_;intros
  refine c_callg (c := c_cl9) ((⟨a0.b, x27.2⟩ : Rd), ([(⟨#[]⟩ : Str), (⟨#[66]⟩ : Str)] : (List Str)), g0, g1) H_cl9 h42 fun ch => ?_
  obtain ⟨h46, h⟩ := gd h
  refine go ?_;intros
  refine r_app (f := eTag) (xs := q2.2.2.1) (ys := ([(⟨(⟨#[122, 122]⟩ : Str), x41.1⟩ : Tag)] : (List Tag))) rfl (src_mv rfl rfl (by first | rfl | simp)) rfl rfl (by first | rfl | simp) h46 fun b44 c45 => ?_
  refine go ?_;intros
  cases h
  exact r_endg
 replace h := itf h c
 try rw [c]
 refine go ?_;intros
 cases h
 exact r_endg
theorem d_dj9 {G : Gam}  (a0 : (List Feat)) (a1 : Feat) (r : (List Feat)) (h : gf_dj9 a0 a1 = some r) : Does G if_dj9 ks_dj9 (c_dj9.args (a0, a1)) (c_dj9.ins (a0, a1)) (c_dj9.ans (a0, a1) r) := by
 refine does_pg (L := fun bs => [(0, .ref 0 (bs 0).1 (bs 0).2 0 a0.length 100), (1, .agg [.v (.string a1.id), .v (.int .i64 a1.shape.kind), .ro (List.map ePt a1.shape.pts), .ro (List.map eTag a1.tags)])]) (H := fun bs => [(0, ent (bs 0).1 (bs 0).2 100 (List.map (eFeat false) a0))]) (fun bs => pin) (fun bs => pinh) fun bs t o => ?_
 show vwp _ ib_dj9 _ _
 unfold ib_dj9
 refine w_ir ?_
 unfold gf_dj9 at h
 obtain ⟨hf100, h⟩ := gd h
 obtain ⟨q85, h128, h⟩ := bnd h
 refine go ?_;intros
 refine w_last (fun t o => ∃ b120 b122 c123, Pin t (ovr [(3, .ptr 24 b120 100 0 0), (5, .ref 64 b122 c123 0 q85.2.length 100), (6, .v (.bool q85.1))] t) ∧ PinH o (ovh [(24, ⟨b120, 1, 100, true, [[.v (.string a1.id), .v (.int .i64 a1.shape.kind), .sl false 2 (List.map ePt a1.shape.pts), .sl false 2 (List.map eTag a1.tags)]]⟩), (64, ent b122 c123 100 (List.map (eFeat false) q85.2))] o)) ?_ ?_
 ·refine w_loop2 (fun n t o => ∃ l94 k92 v86 v89 b88 b90 c91, gl_dj9_1 a1 l94 k92 v86 v89 = some q85 ∧ n = l94.length ∧ (a0).drop k92 = l94 ∧ Pin t (ovr [(0, .ref 0 (bs 0).1 (bs 0).2 0 a0.length 100), (3, .ptr 24 b88 100 0 0), (5, .ref 64 b90 c91 0 v89.length 100), (6, .v (.bool v86)), (7, .v (.int .i64 (k92 : Int)))] t) ∧ PinH o (ovh [(0, ent (bs 0).1 (bs 0).2 100 (List.map (eFeat false) a0)), (24, ⟨b88, 1, 100, true, [[.v (.string a1.id), .v (.int .i64 a1.shape.kind), .sl false 2 (List.map ePt a1.shape.pts), .sl false 2 (List.map eTag a1.tags)]]⟩), (64, ent b90 c91 100 (List.map (eFeat false) v89))] o)) _ ⟨_, _, _, _, _, _, _, h128, rfl, rfl, pin, pinh⟩ ?_
  rintro n t o ⟨l94, k92, v86, v89, b88, b90, c91, h128, rfl, hd95, pq1, pq2⟩
  refine pinned pq1 pq2 ?_
  cases l94 with
  | nil =>
   have hge97 := drop_ge hd95
   rw [gl_dj9_1] at h128
   refine go ?_;intros
   rw [hge97]
   refine go ?_;intros
   cases h128
   exact k_cn ⟨_, _, _, pin, pinh⟩
  | cons x93 l94 =>
   have hlt96 := drop_lt hd95
   have hx98 := drop_ix hd95
   have hw99 := drop_wr hd95 hf100
   rw [gl_dj9_1] at h128
   refine go ?_;intros
   rw [hlt96]
   obtain ⟨q105, h129, h128⟩ := bnd h128
   refine go ?_;intros
   refine w_cut (fun t o => ∃ b111 b113 c114, Pin t (ovr [(0, .ref 0 (bs 0).1 (bs 0).2 0 a0.length 100), (3, .ptr 24 b111 100 0 0), (5, .ref 64 b113 c114 0 q105.2.length 100), (6, .v (.bool q105.1)), (7, .v (.int .i64 (k92 : Int)))] t) ∧ PinH o (ovh [(0, ent (bs 0).1 (bs 0).2 100 (List.map (eFeat false) a0)), (24, ⟨b111, 1, 100, true, [[.v (.string a1.id), .v (.int .i64 a1.shape.kind), .sl false 2 (List.map ePt a1.shape.pts), .sl false 2 (List.map eTag a1.tags)]]⟩), (64, ent b113 c114 100 (List.map (eFeat false) q105.2))] o)) ?_ ?_
   ·refine go ?_;intros
    refine s_split rfl (fun c => ?_) (fun c => ?_)
    ·replace h129 := itt h129 c
     rw [c]
     refine go ?_;intros
     refine r_ire (xs := a0) rfl rfl hx98 rfl ?_
     refine go ?_;intros
     refine r_lde (f := (eFeat false)) (xs := a0) (x := x93) rfl rfl (idx_get hx98).2 rfl rfl rfl ?_
     refine go ?_;intros
     refine w_cond rfl (fun c => ?_) (fun c => ?_)
     ·replace h129 := itt h129 c
      try rw [c]
      obtain ⟨h109, h129⟩ := gd h129
      refine go ?_;intros
      refine r_app (f := (eFeat false)) (xs := v89) (ys := ([a1] : (List Feat))) rfl (src_mv rfl rfl (by first | rfl | simp)) rfl rfl (by first | rfl | simp) h109 fun b107 c108 => ?_
      refine go ?_;intros
      cases h129
      exact k_cn ⟨_, _, _, pin, pinh⟩
     replace h129 := itf h129 c
     try rw [c]
     refine go ?_;intros
     cases h129
     exact k_cn ⟨_, _, _, pin, pinh⟩
    replace h129 := itf h129 c
    rw [c]
    refine go ?_;intros
    cases h129
    exact k_cn ⟨_, _, _, pin, pinh⟩
   rintro t o ⟨b111, b113, c114, pq1, pq2⟩
   refine pinned pq1 pq2 ?_
   refine go ?_;intros
   refine r_ire (xs := a0) rfl rfl hx98 rfl ?_
   refine go ?_;intros
   refine r_lde (f := (eFeat false)) (xs := a0) (x := x93) rfl rfl (idx_get hx98).2 rfl rfl rfl ?_
   refine go ?_;intros
   refine w_cond rfl (fun c => ?_) (fun c => ?_)
   ·replace h128 := itt h128 c
    try rw [c]
    refine go ?_;intros
    refine r_ire (xs := a0) rfl rfl hx98 rfl ?_
    refine go ?_;intros
    refine r_lde (f := (eFeat false)) (xs := a0) (x := x93) rfl rfl (idx_get hx98).2 rfl rfl rfl ?_
    obtain ⟨h118, h128⟩ := gd h128
    refine go ?_;intros
    refine r_app (f := (eFeat false)) (xs := q105.2) (ys := ([x93] : (List Feat))) rfl (src_mv rfl rfl (by first | rfl | simp)) rfl rfl (by first | rfl | simp) h118 fun b116 c117 => ?_
    refine go ?_;intros
    rw [hw99]
    exact k_ln2 _ (Nat.lt_succ_self _) ⟨_, _, _, _, _, _, _, h128, rfl, drop_next hd95, pin, pinh⟩
   replace h128 := itf h128 c
   try rw [c]
   refine go ?_;intros
   rw [hw99]
   exact k_ln2 _ (Nat.lt_succ_self _) ⟨_, _, _, _, _, _, _, h128, rfl, drop_next hd95, pin, pinh⟩
 rintro t o ⟨b120, b122, c123, pq1, pq2⟩
 refine pinnedQ pq1 pq2 ?_
 refine go ?_;intros
 refine w_cond rfl (fun c => ?_) (fun c => ?_)
 ·replace h := itt h c
  try rw [c]
  obtain ⟨h127, h⟩ := gd h
  refine go ?_;intros
  refine r_app (f := (eFeat false)) (xs := q85.2) (ys := ([a1] : (List Feat))) rfl (src_mv rfl rfl (by first | rfl | simp)) rfl rfl (by first | rfl | simp) h127 fun b125 c126 => ?_
  refine go ?_;intros
  cases h
  exact r_endg
 replace h := itf h c
 try rw [c]
 refine go ?_;intros
 cases h
 exact r_endg
end Go.Proofs.AM
