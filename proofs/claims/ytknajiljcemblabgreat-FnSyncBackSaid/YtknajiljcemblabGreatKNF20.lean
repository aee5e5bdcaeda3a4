/- Lemmas of the proof (KNF20), on an abstract machine. Conditions: none. -/
import Derived.Test.YtknajiljcemblabGreatKND
set_option linter.unusedVariables false
set_option linter.unusedSimpArgs false
set_option maxRecDepth 100000
set_option maxHeartbeats 4000000
namespace Go.Proofs.AM
attribute [local irreducible] vwp vstps vstpLs vstp vdo vret kseq kblk kloop kend kcut kloop2 frzV renV shutK pfzV trnV unrV
theorem d_ch9 {G : Gam} (H_cc9 : Has G c_cc9) (H_bz9 : Has G c_bz9) (H_ck9 : Has G c_ck9) (H_dt9 : Has G c_dt9) (H_cj9 : Has G c_cj9) (H_dw9 : Has G c_dw9) (H_by9 : Has G c_by9) (a0 : Repo) (a1 : Repo) (a2 : Str) (r : (Repo × Int)) (h : gf_ch9 a0 a1 a2 = some r) : Does G if_ch9 ks_ch9 (c_ch9.args (a0, a1, a2)) [] (c_ch9.ans (a0, a1, a2) r) := by
 refine does_pn (L := [(0, .agg [.ro (List.map (eCommit false) a0.commits), .ro (List.map eHead a0.heads)]), (1, .agg [.ro (List.map (eCommit false) a1.commits), .ro (List.map eHead a1.heads)]), (2, .v (.string a2))]) (fun bs => pin) fun bs t o => ?_
 show vwp _ ib_ch9 _ _
 unfold ib_ch9
 refine w_ir ?_
 unfold gf_ch9 at h
 obtain ⟨x4, h5, h⟩ := bnd h
 refine go ?_;intros
 refine c_call (c := c_cc9) (a0) H_cc9 h5 fun ch => ?_
 refine go ?_;intros
 refine s_split rfl (fun c => ?_) (fun c => ?_)
 ·replace h := itt h c
  rw [c]
  refine go ?_;intros
  cases h
  exact r_end
 replace h := itf h c
 rw [c]
 obtain ⟨x6, h7, h⟩ := bnd h
 refine go ?_;intros
 refine c_call (c := c_cc9) (a1) H_cc9 h7 fun ch => ?_
 refine go ?_;intros
 refine w_cond rfl (fun c => ?_) (fun c => ?_)
 ·replace h := itt h c
  try rw [c]
  refine go ?_;intros
  cases h
  exact r_end
 replace h := itf h c
 try rw [c]
 obtain ⟨x8, h9, h⟩ := bnd h
 refine go ?_;intros
 refine c_call (c := c_bz9) (a1, a2) H_bz9 h9 fun ch => ?_
 obtain ⟨q10, h86, h⟩ := bnd h
 refine go ?_;intros
 refine w_cut (fun t o => ∃ b14 b15 b16 c17 b18 c19 b20, Pin t (ovr [(2, .v (.string a2)), (3, .ptr 24 b14 210 0 0), (4, .ptr 32 b15 210 0 0), (6, .ptr 48 b20 210 0 0), (8, .v (.int .i64 x8)), (31, .v (.bool q10))] t) ∧ PinH o (ovh [(24, ⟨b14, 1, 210, true, [[.sl false 3 (List.map (eCommit false) a0.commits), .sl false 2 (List.map eHead a0.heads)]]⟩), (32, ⟨b15, 1, 210, true, [[.sl false 3 (List.map (eCommit false) a1.commits), .sl false 2 (List.map eHead a1.heads)]]⟩), (1000768, ent b16 c17 115 (List.map (eCommit true) [])), (1000769, ent b18 c19 130 (List.map eHead [])), (48, ⟨b20, 1, 210, true, [[.al 1000768 b16 c17 0 ([] : List Commit).length 115, .al 1000769 b18 c19 0 ([] : List Head).length 130]]⟩)] o)) ?_ ?_
 ·refine go ?_;intros
  refine s_split rfl (fun c => ?_) (fun c => ?_)
  ·replace h86 := itt h86 c
   rw [c]
   refine go ?_;intros
   cases h86
   exact k_cn ⟨_, _, _, _, _, _, _, pin, pinh⟩
  replace h86 := itf h86 c
  rw [c]
  obtain ⟨x11, h12, h86⟩ := bnd h86
  refine go ?_;intros
  refine c_call (c := c_ck9) (a0, a1, 0) H_ck9 h12 fun ch => ?_
  refine go ?_;intros
  cases h86
  exact k_cn ⟨_, _, _, _, _, _, _, pin, pinh⟩
 rintro t o ⟨b14, b15, b16, c17, b18, c19, b20, pq1, pq2⟩
 refine pinned pq1 pq2 ?_
 refine go ?_;intros
 refine w_cond rfl (fun c => ?_) (fun c => ?_)
 ·replace h := itt h c
  try rw [c]
  obtain ⟨x21, h22, h⟩ := bnd h
  refine go ?_;intros
  refine c_call (c := c_dt9) (a0) H_dt9 h22 fun ch => ?_
  refine go ?_;intros
  cases h
  exact r_end
 replace h := itf h c
 try rw [c]
 obtain ⟨x27, h28, h⟩ := bnd h
 refine go ?_;intros
 refine c_call (c := c_dt9) (a0) H_dt9 h28 fun ch => ?_
 obtain ⟨x33, h34, h⟩ := bnd h
 refine go ?_;intros
 refine c_callg (c := c_cj9) (x27, a1, x8) H_cj9 h34 fun ch => ?_
 obtain ⟨x40, h41, h⟩ := bnd h
 refine go ?_;intros
 refine c_call (c := c_dw9) (a0, a2) H_dw9 h41 fun ch => ?_
 refine go ?_;intros
 refine s_split rfl (fun c => ?_) (fun c => ?_)
 ·replace h := itt h c
  rw [c]
  obtain ⟨x42, h43, h⟩ := bnd h
  refine go ?_;intros
  refine c_call (c := c_dt9) (a0) H_dt9 h43 fun ch => ?_
  refine go ?_;intros
  cases h
  exact r_end
 replace h := itf h c
 rw [c]
 refine go ?_;intros
 refine s_split rfl (fun c => ?_) (fun c => ?_)
 ·replace h := itt h c
  rw [c]
  refine go ?_;intros
  refine w_cond rfl (fun c => ?_) (fun c => ?_)
  ·replace h := itt h (by first | exact c | (have c2 := c; simp only [List.length_map] at c2; exact c2))
   try rw [c]
   obtain ⟨x48, h49, h⟩ := bnd h
   refine go ?_;intros
   refine c_call (c := c_dt9) (a0) H_dt9 h49 fun ch => ?_
   refine go ?_;intros
   cases h
   exact r_end
  replace h := itf h (by first | exact c | (have c2 := c; simp only [List.length_map] at c2; exact c2))
  try rw [c]
  refine go ?_;intros
  refine w_cond rfl (fun c => ?_) (fun c => ?_)
  ·replace h := itt h c
   try rw [c]
   obtain ⟨h57, h⟩ := gd h
   refine go ?_;intros
   refine r_app (f := eHead) (xs := x33.1.heads) (ys := ([(⟨a2, x33.2⟩ : Head)] : (List Head))) rfl (src_mv rfl rfl (by first | rfl | simp)) rfl rfl (by first | rfl | simp) h57 fun b55 c56 => ?_
   refine go ?_;intros
   cases h
   exact r_end
  replace h := itf h c
  try rw [c]
  obtain ⟨x58, h59, h⟩ := bnd h
  refine go ?_;intros
  refine r_ire (xs := x33.1.heads) rfl rfl h59 rfl ?_
  refine go ?_;intros
  refine r_lde (f := eHead) (xs := x33.1.heads) (x := x58) rfl rfl (idx_get h59).2 rfl rfl rfl ?_
  obtain ⟨x60, h61, h⟩ := bnd h
  refine go ?_;intros
  refine c_call (c := c_by9) (x33.1, x33.2, x58.at_) H_by9 h61 fun ch => ?_
  refine go ?_;intros
  refine w_cond rfl (fun c => ?_) (fun c => ?_)
  ·replace h := itt h c
   try rw [c]
   refine go ?_;intros
   cases h
   exact r_end
  replace h := itf h c
  try rw [c]
  refine go ?_;intros
  refine r_ire (xs := x33.1.heads) rfl rfl h59 rfl ?_
  refine go ?_;intros
  refine r_lde (f := eHead) (xs := x33.1.heads) (x := x58) rfl rfl (idx_get h59).2 rfl rfl rfl ?_
  obtain ⟨x62, h63, h⟩ := bnd h
  refine go ?_;intros
  refine c_call (c := c_by9) (x33.1, x58.at_, x33.2) H_by9 h63 fun ch => ?_
  refine go ?_;intros
  refine w_cond rfl (fun c => ?_) (fun c => ?_)
  ·replace h := itt h c
   try rw [c]
   refine go ?_;intros
   refine r_ire (xs := x33.1.heads) rfl rfl h59 rfl ?_
   refine go ?_;intros
   refine c_ste (f := eHead) x33.1.heads (⟨x58.name, x33.2⟩ : Head) (idx_get h59).2 ?_
   refine go ?_;intros
   cases h
   exact r_end
  replace h := itf h c
  try rw [c]
  obtain ⟨x64, h65, h⟩ := bnd h
  refine go ?_;intros
  refine c_call (c := c_dt9) (a0) H_dt9 h65 fun ch => ?_
  refine go ?_;intros
  cases h
  exact r_end
 replace h := itf h c
 rw [c]
 refine go ?_;intros
 refine w_cond rfl (fun c => ?_) (fun c => ?_)
 ·replace h := itt h c
  try rw [c]
  obtain ⟨h73, h⟩ := gd h
  refine go ?_;intros
  refine r_app (f := eHead) (xs := x33.1.heads) (ys := ([(⟨a2, x33.2⟩ : Head)] : (List Head))) rfl (src_mv rfl rfl (by first | rfl | simp)) rfl rfl (by first | rfl | simp) h73 fun b71 c72 => ?_
  refine go ?_;intros
  cases h
  exact r_end
 replace h := itf h c
 try rw [c]
 obtain ⟨x74, h75, h⟩ := bnd h
 refine go ?_;intros
 refine r_ire (xs := x33.1.heads) rfl rfl h75 rfl ?_
 refine go ?_;intros
 refine r_lde (f := eHead) (xs := x33.1.heads) (x := x74) rfl rfl (idx_get h75).2 rfl rfl rfl ?_
 obtain ⟨x76, h77, h⟩ := bnd h
 refine go ?_;intros
 refine c_call (c := c_by9) (x33.1, x33.2, x74.at_) H_by9 h77 fun ch => ?_
 refine go ?_;intros
 refine w_cond rfl (fun c => ?_) (fun c => ?_)
 ·replace h := itt h c
  try rw [c]
  refine go ?_;intros
  cases h
  exact r_end
 replace h := itf h c
 try rw [c]
 refine go ?_;intros
 refine r_ire (xs := x33.1.heads) rfl rfl h75 rfl ?_
 refine go ?_;intros
 refine r_lde (f := eHead) (xs := x33.1.heads) (x := x74) rfl rfl (idx_get h75).2 rfl rfl rfl ?_
 obtain ⟨x78, h79, h⟩ := bnd h
 refine go ?_;intros
 refine c_call (c := c_by9) (x33.1, x74.at_, x33.2) H_by9 h79 fun ch => ?_
 refine go ?_;intros
 refine w_cond rfl (fun c => ?_) (fun c => ?_)
 ·replace h := itt h c
  try rw [c]
  refine go ?_;intros
  refine r_ire (xs := x33.1.heads) rfl rfl h75 rfl ?_
  refine go ?_;intros
  refine c_ste (f := eHead) x33.1.heads (⟨x74.name, x33.2⟩ : Head) (idx_get h75).2 ?_
  refine go ?_;intros
  cases h
  exact r_end
 replace h := itf h c
 try rw [c]
 obtain ⟨x80, h81, h⟩ := bnd h
 refine go ?_;intros
 refine c_call (c := c_dt9) (a0) H_dt9 h81 fun ch => ?_
 refine go ?_;intros
 cases h
 exact r_end
theorem d_bg9 {G : Gam} (H_bv9 : Has G c_bv9) (H_av9 : Has G c_av9) (H_ch9 : Has G c_ch9) (H_ac9 : Has G c_ac9) (H_ae9 : Has G c_ae9) (H_au9 : Has G c_au9) (H_ad9 : Has G c_ad9) (a0 : (List UInt8)) (g0 : Option Addr) (g1 : Nat) (r : Bool) (h : gf_bg9 a0 = some r) : Does G if_bg9 ks_bg9 (c_bg9.args (a0, g0, g1)) [] (c_bg9.ans (a0, g0, g1) r) := by
 refine does_pn (L := [(0, .raw g0 g1 (List.map eU8 a0))]) (fun bs => pin) fun bs t o => ?_
 show vwp _ ib_bg9 _ _
 unfold ib_bg9
 refine w_ir ?_
 unfold gf_bg9 at h
 refine go ?_;intros
 refine w_cond rfl (fun c => ?_) (fun c => ?_)
 ·replace h := itt h (by first | exact c | (have c2 := c; simp only [List.length_map] at c2; exact c2))
  try rw [c]
  refine go ?_;intros
  cases h
  exact r_end
 replace h := itf h (by first | exact c | (have c2 := c; simp only [List.length_map] at c2; exact c2))
 try rw [c]
 obtain ⟨q1, h63, h⟩ := bnd h
 refine go ?_;intros
 refine w_cut (fun t o => ∃ b9 b12, Pin t (ovr [(3, .ptr 24 b9 210 0 0), (4, .ptr 32 b12 210 0 0), (5, .v (.string q1.1))] t) ∧ PinH o (ovh [(24, ⟨b9, 1, 210, true, [[.sl false 3 (List.map (eCommit false) q1.2.1), .sl false 2 (List.map eHead q1.2.2.1)]]⟩), (32, ⟨b12, 1, 210, true, [[.sl false 3 (List.map (eCommit false) q1.2.2.2.1), .sl false 2 (List.map eHead q1.2.2.2.2)]]⟩)] o)) ?_ ?_
 ·refine go ?_;intros
  refine r_frz ?_
  obtain ⟨x2, h3, h63⟩ := bnd h63
  refine go ?_;intros
  refine c_call (c := c_bv9) (a0, g0, g1) H_bv9 h3 fun ch => ?_
  refine go ?_;intros
  refine c_fz ?_
  refine go ?_;intros
  cases h63
  exact k_cn ⟨_, _, pin, pinh⟩
 rintro t o ⟨b9, b12, pq1, pq2⟩
 refine pinned pq1 pq2 ?_
 obtain ⟨x13, h14, h⟩ := bnd h
 refine go ?_;intros
 refine c_call (c := c_av9) ((⟨q1.2.1, q1.2.2.1⟩ : Repo), (⟨q1.2.2.2.1, q1.2.2.2.2⟩ : Repo), q1.1) H_av9 h14 fun ch => ?_
 obtain ⟨q20, h64, h⟩ := bnd h
 refine go ?_;intros
 refine w_cut (fun t o => ∃ b29 b30 c31 b32 c33 b34, Pin t (ovr [(4, .ptr 32 b29 210 0 0), (5, .v (.string q1.1)), (6, .ptr 48 b34 210 0 0), (7, .v (.int .i64 x13.2)), (9, .v (.int .i64 q20))] t) ∧ PinH o (ovh [(32, ⟨b29, 1, 210, true, [[.sl false 3 (List.map (eCommit false) q1.2.2.2.1), .sl false 2 (List.map eHead q1.2.2.2.2)]]⟩), (1000768, ent b30 c31 115 (List.map (eCommit true) x13.1.commits)), (1000769, ent b32 c33 130 (List.map eHead x13.1.heads)), (48, ⟨b34, 1, 210, true, [[.al 1000768 b30 c31 0 x13.1.commits.length 115, .al 1000769 b32 c33 0 x13.1.heads.length 130]]⟩)] o)) ?_ ?_
 ·obtain ⟨x21, h22, h64⟩ := bnd h64
  refine go ?_;intros
  refine c_call (c := c_ch9) ((⟨q1.2.1, q1.2.2.1⟩ : Repo), (⟨q1.2.2.2.1, q1.2.2.2.2⟩ : Repo), q1.1) H_ch9 h22 fun ch => ?_
  refine go ?_;intros
  cases h64
  exact k_cn ⟨_, _, _, _, _, _, pin, pinh⟩
 rintro t o ⟨b29, b30, c31, b32, c33, b34, pq1, pq2⟩
 refine pinned pq1 pq2 ?_
 refine go ?_;intros
 refine s_split rfl (fun c => ?_) (fun c => ?_)
 ·replace h := itt h c
  rw [c]
  refine go ?_;intros
  cases h
  exact r_end
 replace h := itf h c
 rw [c]
 refine go ?_;intros
 refine s_split rfl (fun c => ?_) (fun c => ?_)
 ·replace h := itt h c
  rw [c]
  refine go ?_;intros
  cases h
  exact r_end
 replace h := itf h c
 rw [c]
 refine go ?_;intros
 refine s_split rfl (fun c => ?_) (fun c => ?_)
 ·replace h := itt h (by first | exact c | (have c2 := c; simp only [List.length_map] at c2; exact c2))
  rw [c]
  refine go ?_;intros
  cases h
  exact r_end
 replace h := itf h (by first | exact c | (have c2 := c; simp only [List.length_map] at c2; exact c2))
 rw [c]
 refine go ?_;intros
 refine w_cond rfl (fun c => ?_) (fun c => ?_)
 ·replace h := itt h (by first | exact c | (have c2 := c; simp only [List.length_map] at c2; exact c2))
  try rw [c]
  refine go ?_;intros
  cases h
  exact r_end
 replace h := itf h (by first | exact c | (have c2 := c; simp only [List.length_map] at c2; exact c2))
 try rw [c]
 refine go ?_;intros
 refine r_frz ?_
 refine go ?_;intros
 try simp only [take_map_len, take_ent]
 refine go ?_;intros
 refine c_fz (h := (fz_ref (f := (eFeat true)) (g := (eFeat false)) (xs := ([(⟨(⟨#[113, 113]⟩ : Str), ⟨1, [(⟨3, 0⟩ : Pt)]⟩, []⟩ : Feat)] : (List Feat))) rfl er_Feat (by first | rfl | simp))) ?_
 obtain ⟨x37, h38, h⟩ := bnd h
 refine go ?_;intros
 refine c_call (c := c_ac9) (x13.1, q1.1, ([(⟨(⟨#[113, 113]⟩ : Str), ⟨1, [(⟨3, 0⟩ : Pt)]⟩, []⟩ : Feat)] : (List Feat)), (⟨#[111, 110]⟩ : Str)) H_ac9 h38 fun ch => ?_
 obtain ⟨x44, h45, h⟩ := bnd h
 refine go ?_;intros
 refine c_call (c := c_av9) ((⟨q1.2.2.2.1, q1.2.2.2.2⟩ : Repo), x37.1, q1.1) H_av9 h45 fun ch => ?_
 refine go ?_;intros
 refine s_split rfl (fun c => ?_) (fun c => ?_)
 ·replace h := itt h c
  rw [c]
  refine go ?_;intros
  cases h
  exact r_end
 replace h := itf h c
 rw [c]
 refine go ?_;intros
 refine w_cond rfl (fun c => ?_) (fun c => ?_)
 ·replace h := itt h c
  try rw [c]
  refine go ?_;intros
  cases h
  exact r_end
 replace h := itf h c
 try rw [c]
 obtain ⟨x51, h52, h⟩ := bnd h
 refine go ?_;intros
 refine c_call (c := c_ae9) (x44.1, q1.1) H_ae9 h52 fun ch => ?_
 obtain ⟨x53, h54, h⟩ := bnd h
 refine go ?_;intros
 refine c_call (c := c_ae9) (x37.1, q1.1) H_ae9 h54 fun ch => ?_
 obtain ⟨x55, h56, h⟩ := bnd h
 refine go ?_;intros
 refine c_call (c := c_au9) (x44.1, x51, x37.1, x53) H_au9 h56 fun ch => ?_
 refine go ?_;intros
 refine s_split rfl (fun c => ?_) (fun c => ?_)
 ·replace h := itt h c
  rw [c]
  refine go ?_;intros
  refine s_split rfl (fun c => ?_) (fun c => ?_)
  ·replace h := itt h (by first | exact c | (have c2 := c; simp only [List.length_map] at c2; exact c2))
   rw [c]
   obtain ⟨x57, h58, h⟩ := bnd h
   refine go ?_;intros
   refine c_call (c := c_ae9) ((⟨q1.2.2.2.1, q1.2.2.2.2⟩ : Repo), q1.1) H_ae9 h58 fun ch => ?_
   obtain ⟨x59, h60, h⟩ := bnd h
   refine go ?_;intros
   refine c_call (c := c_ae9) (x44.1, q1.1) H_ae9 h60 fun ch => ?_
   obtain ⟨x61, h62, h⟩ := bnd h
   refine go ?_;intros
   refine c_call (c := c_ad9) (x44.1, x57, x59) H_ad9 h62 fun ch => ?_
   refine go ?_;intros
   cases h
   exact r_end
  replace h := itf h (by first | exact c | (have c2 := c; simp only [List.length_map] at c2; exact c2))
  rw [c]
  refine go ?_;intros
  cases h
  exact r_end
 replace h := itf h c
 rw [c]
 refine go ?_;intros
 cases h
 exact r_end
end Go.Proofs.AM
