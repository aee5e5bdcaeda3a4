/- Lemmas of the proof (KNF18), on an abstract machine. Conditions: none. -/
import Derived.Test.YtknajiljcemblabGreatKND
set_option linter.unusedVariables false
set_option linter.unusedSimpArgs false
set_option maxRecDepth 100000
set_option maxHeartbeats 4000000
namespace Go.Proofs.AM
attribute [local irreducible] vwp vstps vstpLs vstp vdo vret kseq kblk kloop kend kcut kloop2 frzV renV shutK pfzV trnV unrV
theorem d_bu9 {G : Gam} (H_cn9 : Has G c_cn9) (H_cm9 : Has G c_cm9) (H_cp9 : Has G c_cp9) (a0 : (List UInt8)) (g0 : Option Addr) (g1 : Nat) (r : (Repo × Repo × Str)) (h : gf_bu9 a0 = some r) : Does G if_bu9 ks_bu9 (c_bu9.args (a0, g0, g1)) [] (c_bu9.ans (a0, g0, g1) r) := by
 refine does_pn (L := [(0, .raw g0 g1 (List.map eU8 a0))]) (fun bs => pin) fun bs t o => ?_
 show vwp _ ib_bu9 _ _
 unfold ib_bu9
 refine w_ir ?_
 unfold gf_bu9 at h
 obtain ⟨x3, h4, h⟩ := bnd h
 refine go ?_;intros
 refine c_call (c := c_cn9) (a0, g0, g1) H_cn9 h4 fun ch => ?_
 refine go ?_;intros
 refine r_frz ?_
 obtain ⟨x6, h7, h⟩ := bnd h
 refine go ?_;intros
 refine c_callg (c := c_cm9) (x3, g0, g1) H_cm9 h7 fun ch => ?_
 refine go ?_;intros
 refine c_fz ?_
 obtain ⟨x19, h20, h⟩ := bnd h
 refine go ?_;intros
 refine c_callg (c := c_cp9) ((⟨x3.b, x6.2.2⟩ : Rd), ([(⟨#[109, 97, 105, 110]⟩ : Str), (⟨#[97, 110, 110]⟩ : Str), (⟨#[98, 111, 98]⟩ : Str), (⟨#[99, 97, 116]⟩ : Str)] : (List Str)), g0, g1) H_cp9 h20 fun ch => ?_
 refine go ?_;intros
 cases h
 exact r_end
theorem d_at9 {G : Gam} (H_af9 : Has G c_af9) (H_ai9 : Has G c_ai9) (H_ak9 : Has G c_ak9) (H_ar9 : Has G c_ar9) (a0 : Repo) (a1 : Repo) (a2 : Str) (r : (List Int)) (h : gf_at9 a0 a1 a2 = some r) : Does G if_at9 ks_at9 (c_at9.args (a0, a1, a2)) [] (c_at9.ans (a0, a1, a2) r) := by
 refine does_pn (L := [(0, .agg [.ro (List.map (eCommit false) a0.commits), .ro (List.map eHead a0.heads)]), (1, .agg [.ro (List.map (eCommit false) a1.commits), .ro (List.map eHead a1.heads)]), (2, .v (.string a2))]) (fun bs => pin) fun bs t o => ?_
 show vwp _ ib_at9 _ _
 unfold ib_at9
 refine w_ir ?_
 unfold gf_at9 at h
 obtain ⟨x4, h5, h⟩ := bnd h
 refine go ?_;intros
 refine c_call (c := c_af9) (a0) H_af9 h5 fun ch => ?_
 refine go ?_;intros
 refine s_split rfl (fun c => ?_) (fun c => ?_)
 ·replace h := itt h c
  rw [c]
  refine go ?_;intros
  cases h
  exact r_end
 replace h := itf h c
 rw [c]
 obtain ⟨x6, h7, h⟩ := bnd h
 refine go ?_;intros
 refine c_call (c := c_af9) (a1) H_af9 h7 fun ch => ?_
 refine go ?_;intros
 refine s_split rfl (fun c => ?_) (fun c => ?_)
 ·replace h := itt h c
  rw [c]
  refine go ?_;intros
  cases h
  exact r_end
 replace h := itf h c
 rw [c]
 obtain ⟨x8, h9, h⟩ := bnd h
 refine go ?_;intros
 refine c_call (c := c_ai9) (a1, a2) H_ai9 h9 fun ch => ?_
 refine go ?_;intros
 refine w_cond rfl (fun c => ?_) (fun c => ?_)
 ·replace h := itt h c
  try rw [c]
  refine go ?_;intros
  cases h
  exact r_end
 replace h := itf h c
 try rw [c]
 obtain ⟨x10, h11, h⟩ := bnd h
 refine go ?_;intros
 refine c_call (c := c_ai9) (a1, a2) H_ai9 h11 fun ch => ?_
 obtain ⟨x12, h13, h⟩ := bnd h
 refine go ?_;intros
 refine r_iro rfl rfl h13 rfl ?_
 obtain ⟨x14, h15, h⟩ := bnd h
 refine go ?_;intros
 refine c_call (c := c_ak9) (a1, x12.at_) H_ak9 h15 fun ch => ?_
 obtain ⟨hf73, h⟩ := gd h
 obtain ⟨q56, h83, h⟩ := bnd h
 refine go ?_;intros
 refine w_last (fun t o => ∃ b81 c82, Pin t (ovr [(7, .ref 80 b81 c82 0 q56.length 17)] t) ∧ PinH o (ovh [(80, ent b81 c82 17 (List.map eInt q56))] o)) ?_ ?_
 ·refine w_loop2 (fun n t o => ∃ l67 k65 v60 b58 b59 b61 c62 b63 c64, gl_at9_1 a0 a1 l67 k65 v60 = some q56 ∧ n = l67.length ∧ (x14).drop k65 = l67 ∧ Pin t (ovr [(3, .ptr 24 b58 210 0 0), (4, .ptr 32 b59 210 0 0), (7, .ref 80 b61 c62 0 v60.length 17), (35, .ref 280 b63 c64 0 x14.length 33), (36, .v (.int .i64 (x14.length : Int))), (37, .v (.int .i64 (k65 : Int)))] t) ∧ PinH o (ovh [(24, ⟨b58, 1, 210, true, [[.sl false 3 (List.map (eCommit false) a0.commits), .sl false 2 (List.map eHead a0.heads)]]⟩), (32, ⟨b59, 1, 210, true, [[.sl false 3 (List.map (eCommit false) a1.commits), .sl false 2 (List.map eHead a1.heads)]]⟩), (80, ent b61 c62 17 (List.map eInt v60)), (280, ent b63 c64 33 (List.map eBool x14))] o)) _ ⟨_, _, _, _, _, _, _, _, _, h83, rfl, rfl, pin, pinh⟩ ?_
  rintro n t o ⟨l67, k65, v60, b58, b59, b61, c62, b63, c64, h83, rfl, hd68, pq1, pq2⟩
  refine pinned pq1 pq2 ?_
  cases l67 with
  | nil =>
   have hge70 := drop_ge hd68
   rw [gl_at9_1] at h83
   refine go ?_;intros
   rw [hge70]
   refine go ?_;intros
   cases h83
   exact k_cn ⟨_, _, pin, pinh⟩
  | cons x66 l67 =>
   have hlt69 := drop_lt hd68
   have hx71 := drop_ix hd68
   have hw72 := drop_wr hd68 hf73
   rw [gl_at9_1] at h83
   refine go ?_;intros
   rw [hlt69]
   refine go ?_;intros
   refine r_ire (xs := x14) rfl rfl hx71 rfl ?_
   refine go ?_;intros
   refine r_lde (f := eBool) (xs := x14) (x := x66) rfl rfl (idx_get hx71).2 rfl rfl rfl ?_
   refine go ?_;intros
   refine s_split rfl (fun c => ?_) (fun c => ?_)
   ·replace h83 := itt h83 c
    rw [c]
    obtain ⟨x74, h75, h83⟩ := bnd h83
    refine go ?_;intros
    refine c_call (c := c_ar9) (a0, a1, (k65 : Int)) H_ar9 h75 fun ch => ?_
    refine go ?_;intros
    refine w_cond rfl (fun c => ?_) (fun c => ?_)
    ·replace h83 := itt h83 c
     try rw [c]
     obtain ⟨h79, h83⟩ := gd h83
     refine go ?_;intros
     refine r_app (f := eInt) (xs := v60) (ys := ([(k65 : Int)] : (List Int))) rfl (src_mv rfl rfl (by first | rfl | simp)) rfl rfl (by first | rfl | simp) h79 fun b77 c78 => ?_
     refine go ?_;intros
     rw [hw72]
     exact k_ln2 _ (Nat.lt_succ_self _) ⟨_, _, _, _, _, _, _, _, _, h83, rfl, drop_next hd68, pin, pinh⟩
    replace h83 := itf h83 c
    try rw [c]
    refine go ?_;intros
    rw [hw72]
    exact k_ln2 _ (Nat.lt_succ_self _) ⟨_, _, _, _, _, _, _, _, _, h83, rfl, drop_next hd68, pin, pinh⟩
   replace h83 := itf h83 c
   rw [c]
   refine go ?_;intros
   rw [hw72]
   exact k_ln2 _ (Nat.lt_succ_self _) ⟨_, _, _, _, _, _, _, _, _, h83, rfl, drop_next hd68, pin, pinh⟩
 rintro t o ⟨b81, c82, pq1, pq2⟩
 refine pinnedQ pq1 pq2 ?_
 refine go ?_;intros
 cases h
 exact r_end
theorem d_av9 {G : Gam} (H_af9 : Has G c_af9) (H_ai9 : Has G c_ai9) (H_au9 : Has G c_au9) (H_ba9 : Has G c_ba9) (H_ar9 : Has G c_ar9) (H_at9 : Has G c_at9) (H_ay9 : Has G c_ay9) (H_ak9 : Has G c_ak9) (a0 : Repo) (a1 : Repo) (a2 : Str) (r : (Repo × Int)) (h : gf_av9 a0 a1 a2 = some r) : Does G if_av9 ks_av9 (c_av9.args (a0, a1, a2)) [] (c_av9.ans (a0, a1, a2) r) := by
 refine does_pn (L := [(0, .agg [.ro (List.map (eCommit false) a0.commits), .ro (List.map eHead a0.heads)]), (1, .agg [.ro (List.map (eCommit false) a1.commits), .ro (List.map eHead a1.heads)]), (2, .v (.string a2))]) (fun bs => pin) fun bs t o => ?_
 show vwp _ ib_av9 _ _
 unfold ib_av9
 refine w_ir ?_
 unfold gf_av9 at h
 obtain ⟨x4, h5, h⟩ := bnd h
 refine go ?_;intros
 refine c_call (c := c_af9) (a0) H_af9 h5 fun ch => ?_
 refine go ?_;intros
 refine s_split rfl (fun c => ?_) (fun c => ?_)
 ·replace h := itt h c
  rw [c]
  refine go ?_;intros
  cases h
  exact r_end
 replace h := itf h c
 rw [c]
 obtain ⟨x6, h7, h⟩ := bnd h
 refine go ?_;intros
 refine c_call (c := c_af9) (a1) H_af9 h7 fun ch => ?_
 refine go ?_;intros
 refine w_cond rfl (fun c => ?_) (fun c => ?_)
 ·replace h := itt h c
  try rw [c]
  refine go ?_;intros
  cases h
  exact r_end
 replace h := itf h c
 try rw [c]
 obtain ⟨x8, h9, h⟩ := bnd h
 refine go ?_;intros
 refine c_call (c := c_ai9) (a1, a2) H_ai9 h9 fun ch => ?_
 obtain ⟨q10, h700, h⟩ := bnd h
 refine go ?_;intros
 refine w_cut (fun t o => ∃ b14 b15 b16 c17 b18 c19 b20, Pin t (ovr [(2, .v (.string a2)), (3, .ptr 24 b14 210 0 0), (4, .ptr 32 b15 210 0 0), (6, .ptr 48 b20 210 0 0), (8, .v (.int .i64 x8)), (38, .v (.bool q10))] t) ∧ PinH o (ovh [(24, ⟨b14, 1, 210, true, [[.sl false 3 (List.map (eCommit false) a0.commits), .sl false 2 (List.map eHead a0.heads)]]⟩), (32, ⟨b15, 1, 210, true, [[.sl false 3 (List.map (eCommit false) a1.commits), .sl false 2 (List.map eHead a1.heads)]]⟩), (1000768, ent b16 c17 115 (List.map (eCommit true) [])), (1000769, ent b18 c19 130 (List.map eHead [])), (48, ⟨b20, 1, 210, true, [[.al 1000768 b16 c17 0 ([] : List Commit).length 115, .al 1000769 b18 c19 0 ([] : List Head).length 130]]⟩)] o)) ?_ ?_
 ·refine go ?_;intros
  refine s_split rfl (fun c => ?_) (fun c => ?_)
  ·replace h700 := itt h700 c
   rw [c]
   refine go ?_;intros
   cases h700
   exact k_cn ⟨_, _, _, _, _, _, _, pin, pinh⟩
  replace h700 := itf h700 c
  rw [c]
  obtain ⟨x11, h12, h700⟩ := bnd h700
  refine go ?_;intros
  refine c_call (c := c_au9) (a0, 0, a1, 0) H_au9 h12 fun ch => ?_
  refine go ?_;intros
  cases h700
  exact k_cn ⟨_, _, _, _, _, _, _, pin, pinh⟩
 rintro t o ⟨b14, b15, b16, c17, b18, c19, b20, pq1, pq2⟩
 refine pinned pq1 pq2 ?_
 refine go ?_;intros
 refine w_cond rfl (fun c => ?_) (fun c => ?_)
 ·replace h := itt h c
  try rw [c]
  obtain ⟨x21, h22, h⟩ := bnd h
  refine go ?_;intros
  refine c_call (c := c_ba9) (a0) H_ba9 h22 fun ch => ?_
  refine go ?_;intros
  cases h
  exact r_end
 replace h := itf h c
 try rw [c]
 obtain ⟨x27, h28, h⟩ := bnd h
 refine go ?_;intros
 refine c_call (c := c_ba9) (a0) H_ba9 h28 fun ch => ?_
 refine go ?_;intros
 refine r_mnew fun b34 => ?_
 obtain ⟨hf93, h⟩ := gd h
 obtain ⟨q69, h701, h⟩ := bnd h
 refine go ?_;intros
 refine w_last (fun t o => ∃ b96 b97 b98 c99 b100 c101 b102 b103 c104 b105 c106 b107 b109, Pin t (ovr [(2, .v (.string a2)), (3, .ptr 24 b96 210 0 0), (4, .ptr 32 b97 210 0 0), (6, .ptr 48 b102 210 0 0), (8, .v (.int .i64 x8)), (9, .ptr 72 b107 210 0 0), (10, .v (.map (some b109)))] t) ∧ PinH o (ovh [(24, ⟨b96, 1, 210, true, [[.sl false 3 (List.map (eCommit false) a0.commits), .sl false 2 (List.map eHead a0.heads)]]⟩), (32, ⟨b97, 1, 210, true, [[.sl false 3 (List.map (eCommit false) a1.commits), .sl false 2 (List.map eHead a1.heads)]]⟩), (1000768, ent b98 c99 115 (List.map (eCommit true) [])), (1000769, ent b100 c101 130 (List.map eHead [])), (48, ⟨b102, 1, 210, true, [[.al 1000768 b98 c99 0 ([] : List Commit).length 115, .al 1000769 b100 c101 0 ([] : List Head).length 130]]⟩), (1001152, ent b103 c104 115 (List.map (eCommit true) x27.commits)), (1001153, ent b105 c106 130 (List.map eHead x27.heads)), (72, ⟨b107, 1, 210, true, [[.al 1001152 b103 c104 0 x27.commits.length 115, .al 1001153 b105 c106 0 x27.heads.length 130]]⟩), (344, mapent b109 q69)] o)) ?_ ?_
 ·refine w_loop2 (fun n t o => ∃ l87 k85 v83 b71 b72 b73 c74 b75 c76 b77 b78 c79 b80 c81 b82 b84, gl_av9_1 a0 a1 l87 k85 v83 = some q69 ∧ n = l87.length ∧ (a1.commits).drop k85 = l87 ∧ Pin t (ovr [(2, .v (.string a2)), (3, .ptr 24 b71 210 0 0), (4, .ptr 32 b72 210 0 0), (6, .ptr 48 b77 210 0 0), (8, .v (.int .i64 x8)), (9, .ptr 72 b82 210 0 0), (10, .v (.map (some b84))), (46, .v (.int .i64 (a1.commits.length : Int))), (47, .v (.int .i64 (k85 : Int)))] t) ∧ PinH o (ovh [(24, ⟨b71, 1, 210, true, [[.sl false 3 (List.map (eCommit false) a0.commits), .sl false 2 (List.map eHead a0.heads)]]⟩), (32, ⟨b72, 1, 210, true, [[.sl false 3 (List.map (eCommit false) a1.commits), .sl false 2 (List.map eHead a1.heads)]]⟩), (1000768, ent b73 c74 115 (List.map (eCommit true) [])), (1000769, ent b75 c76 130 (List.map eHead [])), (48, ⟨b77, 1, 210, true, [[.al 1000768 b73 c74 0 ([] : List Commit).length 115, .al 1000769 b75 c76 0 ([] : List Head).length 130]]⟩), (1001152, ent b78 c79 115 (List.map (eCommit true) x27.commits)), (1001153, ent b80 c81 130 (List.map eHead x27.heads)), (72, ⟨b82, 1, 210, true, [[.al 1001152 b78 c79 0 x27.commits.length 115, .al 1001153 b80 c81 0 x27.heads.length 130]]⟩), (344, mapent b84 v83)] o)) _ ⟨_, _, _, _, _, _, _, _, _, _, _, _, _, _, _, _, h701, rfl, rfl, pin, pinh⟩ ?_
  rintro n t o ⟨l87, k85, v83, b71, b72, b73, c74, b75, c76, b77, b78, c79, b80, c81, b82, b84, h701, rfl, hd88, pq1, pq2⟩
  refine pinned pq1 pq2 ?_
  cases l87 with
  | nil =>
   have hge90 := drop_ge hd88
   rw [gl_av9_1] at h701
   refine go ?_;intros
   rw [hge90]
   refine go ?_;intros
   cases h701
   exact k_cn ⟨_, _, _, _, _, _, _, _, _, _, _, _, _, pin, pinh⟩
  | cons x86 l87 =>
   have hlt89 := drop_lt hd88
   have hx91 := drop_ix hd88
   have hw92 := drop_wr hd88 hf93
   rw [gl_av9_1] at h701
   refine go ?_;intros
   rw [hlt89]
   obtain ⟨x94, h95, h701⟩ := bnd h701
   refine go ?_;intros
   refine c_call (c := c_ar9) (a0, a1, (k85 : Int)) H_ar9 h95 fun ch => ?_
   refine go ?_;intros
   refine r_mset rfl rfl rfl rfl ?_
   refine go ?_;intros
   rw [hw92]
   exact k_ln2 _ (Nat.lt_succ_self _) ⟨_, _, _, _, _, _, _, _, _, _, _, _, _, _, _, _, h701, rfl, drop_next hd88, pin, pinh⟩
 rintro t o ⟨b96, b97, b98, c99, b100, c101, b102, b103, c104, b105, c106, b107, b109, pq1, pq2⟩
 refine pinnedQ pq1 pq2 ?_
 obtain ⟨x110, h111, h⟩ := bnd h
 refine go ?_;intros
 refine c_call (c := c_at9) (a0, a1, a2) H_at9 h111 fun ch => ?_
 obtain ⟨hf528, h⟩ := gd h
 obtain ⟨q501, h702, h⟩ := bnd h
 refine go ?_;intros
 refine w_last (fun t o => ∃ b645 b646 b647 c648 b649 c650 b651 b653 c654 b655 c656 b657 b659, Pin t (ovr [(2, .v (.string a2)), (3, .ptr 24 b645 210 0 0), (4, .ptr 32 b646 210 0 0), (6, .ptr 48 b651 210 0 0), (8, .v (.int .i64 x8)), (9, .ptr 72 b657 210 0 0), (10, .v (.map (some b659)))] t) ∧ PinH o (ovh [(24, ⟨b645, 1, 210, true, [[.sl false 3 (List.map (eCommit false) a0.commits), .sl false 2 (List.map eHead a0.heads)]]⟩), (32, ⟨b646, 1, 210, true, [[.sl false 3 (List.map (eCommit false) a1.commits), .sl false 2 (List.map eHead a1.heads)]]⟩), (1000768, ent b647 c648 115 (List.map (eCommit true) [])), (1000769, ent b649 c650 130 (List.map eHead [])), (48, ⟨b651, 1, 210, true, [[.al 1000768 b647 c648 0 ([] : List Commit).length 115, .al 1000769 b649 c650 0 ([] : List Head).length 130]]⟩), (1001152, ent b653 c654 115 (List.map (eCommit true) q501.1)), (1001153, ent b655 c656 130 (List.map eHead x27.heads)), (72, ⟨b657, 1, 210, true, [[.al 1001152 b653 c654 0 q501.1.length 115, .al 1001153 b655 c656 0 x27.heads.length 130]]⟩), (344, mapent b659 q501.2)] o)) ?_ ?_
 ·refine w_loop2 (fun n t o => ∃ l522 k520 v510 v516 b503 b504 b505 c506 b507 c508 b509 b511 c512 b513 c514 b515 b517 b518 c519, gl_av9_5 a1 l522 k520 v510 v516 = some q501 ∧ n = l522.length ∧ (x110).drop k520 = l522 ∧ Pin t (ovr [(2, .v (.string a2)), (3, .ptr 24 b503 210 0 0), (4, .ptr 32 b504 210 0 0), (6, .ptr 48 b509 210 0 0), (8, .v (.int .i64 x8)), (9, .ptr 72 b515 210 0 0), (10, .v (.map (some b517))), (60, .ref 480 b518 c519 0 x110.length 17), (61, .v (.int .i64 (x110.length : Int))), (62, .v (.int .i64 (k520 : Int)))] t) ∧ PinH o (ovh [(24, ⟨b503, 1, 210, true, [[.sl false 3 (List.map (eCommit false) a0.commits), .sl false 2 (List.map eHead a0.heads)]]⟩), (32, ⟨b504, 1, 210, true, [[.sl false 3 (List.map (eCommit false) a1.commits), .sl false 2 (List.map eHead a1.heads)]]⟩), (1000768, ent b505 c506 115 (List.map (eCommit true) [])), (1000769, ent b507 c508 130 (List.map eHead [])), (48, ⟨b509, 1, 210, true, [[.al 1000768 b505 c506 0 ([] : List Commit).length 115, .al 1000769 b507 c508 0 ([] : List Head).length 130]]⟩), (1001152, ent b511 c512 115 (List.map (eCommit true) v510)), (1001153, ent b513 c514 130 (List.map eHead x27.heads)), (72, ⟨b515, 1, 210, true, [[.al 1001152 b511 c512 0 v510.length 115, .al 1001153 b513 c514 0 x27.heads.length 130]]⟩), (344, mapent b517 v516), (480, ent b518 c519 17 (List.map eInt x110))] o)) _ ⟨_, _, _, _, _, _, _, _, _, _, _, _, _, _, _, _, _, _, _, h702, rfl, rfl, pin, pinh⟩ ?_
  rintro n t o ⟨l522, k520, v510, v516, b503, b504, b505, c506, b507, c508, b509, b511, c512, b513, c514, b515, b517, b518, c519, h702, rfl, hd523, pq1, pq2⟩
  refine pinned pq1 pq2 ?_
  cases l522 with
  | nil =>
   have hge525 := drop_ge hd523
   rw [gl_av9_5] at h702
   refine go ?_;intros
   rw [hge525]
   refine go ?_;intros
   cases h702
   exact k_cn ⟨_, _, _, _, _, _, _, _, _, _, _, _, _, pin, pinh⟩
  | cons x521 l522 =>
   have hlt524 := drop_lt hd523
   have hx526 := drop_ix hd523
   have hw527 := drop_wr hd523 hf528
   rw [gl_av9_5] at h702
   refine go ?_;intros
   rw [hlt524]
   refine go ?_;intros
   refine r_ire (xs := x110) rfl rfl hx526 rfl ?_
   refine go ?_;intros
   refine r_lde (f := eInt) (xs := x110) (x := x521) rfl rfl (idx_get hx526).2 rfl rfl rfl ?_
   obtain ⟨x529, h530, h702⟩ := bnd h702
   refine go ?_;intros
   refine r_iro rfl rfl h530 rfl ?_
   obtain ⟨x531, h532, h702⟩ := bnd h702
   refine go ?_;intros
   refine c_call (c := c_ay9) (x529) H_ay9 h532 fun ch => ?_
   obtain ⟨hf617, h702⟩ := gd h702
   obtain ⟨q586, h703, h702⟩ := bnd h702
   refine go ?_;intros
   refine w_last (fun t o => ∃ b620 b621 b622 c623 b624 c625 b626 b627 c628 b629 c630 b631 b632 b634 c635 b636 c637 b638 b639 c640, Pin t (ovr [(2, .v (.string a2)), (3, .ptr 24 b620 210 0 0), (4, .ptr 32 b621 210 0 0), (6, .ptr 48 b626 210 0 0), (8, .v (.int .i64 x8)), (9, .ptr 72 b631 210 0 0), (10, .v (.map (some b632))), (13, .v (.int .i64 x521)), (14, .ptr 112 b638 115 0 0), (60, .ref 480 b639 c640 0 x110.length 17), (61, .v (.int .i64 (x110.length : Int))), (62, .v (.int .i64 (k520 : Int)))] t) ∧ PinH o (ovh [(24, ⟨b620, 1, 210, true, [[.sl false 3 (List.map (eCommit false) a0.commits), .sl false 2 (List.map eHead a0.heads)]]⟩), (32, ⟨b621, 1, 210, true, [[.sl false 3 (List.map (eCommit false) a1.commits), .sl false 2 (List.map eHead a1.heads)]]⟩), (1000768, ent b622 c623 115 (List.map (eCommit true) [])), (1000769, ent b624 c625 130 (List.map eHead [])), (48, ⟨b626, 1, 210, true, [[.al 1000768 b622 c623 0 ([] : List Commit).length 115, .al 1000769 b624 c625 0 ([] : List Head).length 130]]⟩), (1001152, ent b627 c628 115 (List.map (eCommit true) v510)), (1001153, ent b629 c630 130 (List.map eHead x27.heads)), (72, ⟨b631, 1, 210, true, [[.al 1001152 b627 c628 0 v510.length 115, .al 1001153 b629 c630 0 x27.heads.length 130]]⟩), (344, mapent b632 v516), (1001792, ent b634 c635 17 (List.map eInt q586)), (1001793, ent b636 c637 100 (List.map (eFeat true) x531.sheet)), (112, ⟨b638, 1, 115, true, [[.al 1001792 b634 c635 0 q586.length 17, .al 1001793 b636 c637 0 x531.sheet.length 100, .v (.string x531.note)]]⟩), (480, ent b639 c640 17 (List.map eInt x110))] o)) ?_ ?_
   ·refine w_loop2 (fun n t o => ∃ l611 k609 v601 b588 b589 b590 c591 b592 c593 b594 b595 c596 b597 c598 b599 b600 b602 c603 b604 c605 b606 b607 c608, gl_av9_6 v516 l611 k609 v601 = some q586 ∧ n = l611.length ∧ (x531.up).drop k609 = l611 ∧ Pin t (ovr [(2, .v (.string a2)), (3, .ptr 24 b588 210 0 0), (4, .ptr 32 b589 210 0 0), (6, .ptr 48 b594 210 0 0), (8, .v (.int .i64 x8)), (9, .ptr 72 b599 210 0 0), (10, .v (.map (some b600))), (13, .v (.int .i64 x521)), (14, .ptr 112 b606 115 0 0), (60, .ref 480 b607 c608 0 x110.length 17), (61, .v (.int .i64 (x110.length : Int))), (62, .v (.int .i64 (k520 : Int))), (73, .ref 1001792 b602 c603 0 v601.length 17), (74, .v (.int .i64 (x531.up.length : Int))), (75, .v (.int .i64 (k609 : Int)))] t) ∧ PinH o (ovh [(24, ⟨b588, 1, 210, true, [[.sl false 3 (List.map (eCommit false) a0.commits), .sl false 2 (List.map eHead a0.heads)]]⟩), (32, ⟨b589, 1, 210, true, [[.sl false 3 (List.map (eCommit false) a1.commits), .sl false 2 (List.map eHead a1.heads)]]⟩), (1000768, ent b590 c591 115 (List.map (eCommit true) [])), (1000769, ent b592 c593 130 (List.map eHead [])), (48, ⟨b594, 1, 210, true, [[.al 1000768 b590 c591 0 ([] : List Commit).length 115, .al 1000769 b592 c593 0 ([] : List Head).length 130]]⟩), (1001152, ent b595 c596 115 (List.map (eCommit true) v510)), (1001153, ent b597 c598 130 (List.map eHead x27.heads)), (72, ⟨b599, 1, 210, true, [[.al 1001152 b595 c596 0 v510.length 115, .al 1001153 b597 c598 0 x27.heads.length 130]]⟩), (344, mapent b600 v516), (1001792, ent b602 c603 17 (List.map eInt v601)), (1001793, ent b604 c605 100 (List.map (eFeat true) x531.sheet)), (112, ⟨b606, 1, 115, true, [[.al 1001792 b602 c603 0 v601.length 17, .al 1001793 b604 c605 0 x531.sheet.length 100, .v (.string x531.note)]]⟩), (480, ent b607 c608 17 (List.map eInt x110))] o)) _ ⟨_, _, _, _, _, _, _, _, _, _, _, _, _, _, _, _, _, _, _, _, _, _, _, h703, rfl, rfl, pin, pinh⟩ ?_
    rintro n t o ⟨l611, k609, v601, b588, b589, b590, c591, b592, c593, b594, b595, c596, b597, c598, b599, b600, b602, c603, b604, c605, b606, b607, c608, h703, rfl, hd612, pq1, pq2⟩
    refine pinned pq1 pq2 ?_
    cases l611 with
    | nil =>
     have hge614 := drop_ge hd612
     rw [gl_av9_6] at h703
     refine go ?_;intros
     rw [hge614]
     refine go ?_;intros
     cases h703
     exact k_cn ⟨_, _, _, _, _, _, _, _, _, _, _, _, _, _, _, _, _, _, _, _, pin, pinh⟩
    | cons x610 l611 =>
     have hlt613 := drop_lt hd612
     have hx615 := drop_ix hd612
     have hw616 := drop_wr hd612 hf617
     rw [gl_av9_6] at h703
     refine go ?_;intros
     rw [hlt613]
     obtain ⟨x618, h619, h703⟩ := bnd h703
     refine go ?_;intros
     refine r_ire (xs := v601) rfl rfl h619 rfl ?_
     refine go ?_;intros
     refine r_lde (f := eInt) (xs := v601) (x := x618) rfl rfl (idx_get h619).2 rfl rfl rfl ?_
     refine go ?_;intros
     refine r_mget rfl rfl rfl ?_
     refine go ?_;intros
     refine r_ire (xs := v601) rfl rfl h619 rfl ?_
     refine go ?_;intros
     refine c_ste (f := eInt) v601 (mget v516 x618) (idx_get h619).2 ?_
     refine go ?_;intros
     rw [hw616]
     exact k_ln2 _ (Nat.lt_succ_self _) ⟨_, _, _, _, _, _, _, _, _, _, _, _, _, _, _, _, _, _, _, _, _, _, _, h703, rfl, drop_next hd612, pin, pinh⟩
   rintro t o ⟨b620, b621, b622, c623, b624, c625, b626, b627, c628, b629, c630, b631, b632, b634, c635, b636, c637, b638, b639, c640, pq1, pq2⟩
   refine pinnedQ pq1 pq2 ?_
   refine go ?_;intros
   refine r_mset rfl rfl rfl rfl ?_
   refine go ?_;intros
   try simp only [take_map_len, take_ent]
   obtain ⟨h644, h702⟩ := gd h702
   refine go ?_;intros
   refine r_app (f := (eCommit true)) (xs := v510) (ys := ([(⟨q586, x531.sheet, x531.note⟩ : Commit)] : (List Commit))) rfl (src_mv rfl rfl (by first | rfl | simp)) rfl rfl (by first | rfl | simp) h644 fun b642 c643 => ?_
   refine go ?_;intros
   rw [hw527]
   exact k_ln2 _ (Nat.lt_succ_self _) ⟨_, _, _, _, _, _, _, _, _, _, _, _, _, _, _, _, _, _, _, h702, rfl, drop_next hd523, pin, pinh⟩
 rintro t o ⟨b645, b646, b647, c648, b649, c650, b651, b653, c654, b655, c656, b657, b659, pq1, pq2⟩
 refine pinnedQ pq1 pq2 ?_
 obtain ⟨x660, h661, h⟩ := bnd h
 refine go ?_;intros
 refine r_iro rfl rfl h661 rfl ?_
 refine go ?_;intros
 refine r_mget rfl rfl rfl ?_
 refine go ?_;intros
 refine w_cond rfl (fun c => ?_) (fun c => ?_)
 ·replace h := itt h (by first | exact c | (have c2 := c; simp only [List.length_map] at c2; exact c2))
  try rw [c]
  obtain ⟨x662, h663, h⟩ := bnd h
  refine go ?_;intros
  refine c_call (c := c_ba9) (a0) H_ba9 h663 fun ch => ?_
  refine go ?_;intros
  cases h
  exact r_end
 replace h := itf h (by first | exact c | (have c2 := c; simp only [List.length_map] at c2; exact c2))
 try rw [c]
 obtain ⟨x668, h669, h⟩ := bnd h
 refine go ?_;intros
 refine c_call (c := c_ai9) ((⟨q501.1, x27.heads⟩ : Repo), a2) H_ai9 h669 fun ch => ?_
 refine go ?_;intros
 refine w_cond rfl (fun c => ?_) (fun c => ?_)
 ·replace h := itt h c
  try rw [c]
  refine go ?_;intros
  refine w_cond rfl (fun c => ?_) (fun c => ?_)
  ·replace h := itt h (by first | exact c | (have c2 := c; simp only [List.length_map] at c2; exact c2))
   try rw [c]
   obtain ⟨x670, h671, h⟩ := bnd h
   refine go ?_;intros
   refine c_call (c := c_ba9) (a0) H_ba9 h671 fun ch => ?_
   refine go ?_;intros
   cases h
   exact r_end
  replace h := itf h (by first | exact c | (have c2 := c; simp only [List.length_map] at c2; exact c2))
  try rw [c]
  obtain ⟨h679, h⟩ := gd h
  refine go ?_;intros
  refine r_app (f := eHead) (xs := x27.heads) (ys := ([(⟨a2, (mget q501.2 x660.at_)⟩ : Head)] : (List Head))) rfl (src_mv rfl rfl (by first | rfl | simp)) rfl rfl (by first | rfl | simp) h679 fun b677 c678 => ?_
  refine go ?_;intros
  cases h
  exact r_end
 replace h := itf h c
 try rw [c]
 obtain ⟨x680, h681, h⟩ := bnd h
 refine go ?_;intros
 refine r_ire (xs := x27.heads) rfl rfl h681 rfl ?_
 refine go ?_;intros
 refine r_lde (f := eHead) (xs := x27.heads) (x := x680) rfl rfl (idx_get h681).2 rfl rfl rfl ?_
 obtain ⟨x682, h683, h⟩ := bnd h
 refine go ?_;intros
 refine c_call (c := c_ak9) ((⟨q501.1, x27.heads⟩ : Repo), x680.at_) H_ak9 h683 fun ch => ?_
 obtain ⟨x686, h687, h⟩ := bnd h
 refine go ?_;intros
 refine r_ire (xs := x682) rfl rfl h687 rfl ?_
 refine go ?_;intros
 refine r_lde (f := eBool) (xs := x682) (x := x686) rfl rfl (idx_get h687).2 rfl rfl rfl ?_
 refine go ?_;intros
 refine w_cond rfl (fun c => ?_) (fun c => ?_)
 ·replace h := itt h c
  try rw [c]
  refine go ?_;intros
  cases h
  exact r_end
 replace h := itf h c
 try rw [c]
 obtain ⟨x688, h689, h⟩ := bnd h
 refine go ?_;intros
 refine c_call (c := c_ak9) ((⟨q501.1, x27.heads⟩ : Repo), (mget q501.2 x660.at_)) H_ak9 h689 fun ch => ?_
 refine go ?_;intros
 refine r_ire (xs := x27.heads) rfl rfl h681 rfl ?_
 refine go ?_;intros
 refine r_lde (f := eHead) (xs := x27.heads) (x := x680) rfl rfl (idx_get h681).2 rfl rfl rfl ?_
 obtain ⟨x692, h693, h⟩ := bnd h
 refine go ?_;intros
 refine r_ire (xs := x688) rfl rfl h693 rfl ?_
 refine go ?_;intros
 refine r_lde (f := eBool) (xs := x688) (x := x692) rfl rfl (idx_get h693).2 rfl rfl rfl ?_
 refine go ?_;intros
 refine w_cond rfl (fun c => ?_) (fun c => ?_)
 ·replace h := itt h c
  try rw [c]
  refine go ?_;intros
  refine r_ire (xs := x27.heads) rfl rfl h681 rfl ?_
  refine go ?_;intros
  refine c_ste (f := eHead) x27.heads (⟨x680.name, (mget q501.2 x660.at_)⟩ : Head) (idx_get h681).2 ?_
  refine go ?_;intros
  cases h
  exact r_end
 replace h := itf h c
 try rw [c]
 obtain ⟨x694, h695, h⟩ := bnd h
 refine go ?_;intros
 refine c_call (c := c_ba9) (a0) H_ba9 h695 fun ch => ?_
 refine go ?_;intros
 cases h
 exact r_end
theorem d_bv9 {G : Gam} (H_bu9 : Has G c_bu9) (a0 : (List UInt8)) (g0 : Option Addr) (g1 : Nat) (r : (Repo × Repo × Str)) (h : gf_bv9 a0 = some r) : Does G if_bv9 ks_bv9 (c_bv9.args (a0, g0, g1)) [] (c_bv9.ans (a0, g0, g1) r) := by
 refine does_pn (L := [(0, .raw g0 g1 (List.map eU8 a0))]) (fun bs => pin) fun bs t o => ?_
 show vwp _ ib_bv9 _ _
 unfold ib_bv9
 refine w_ir ?_
 unfold gf_bv9 at h
 obtain ⟨x3, h4, h⟩ := bnd h
 refine go ?_;intros
 refine c_call (c := c_bu9) (a0, g0, g1) H_bu9 h4 fun ch => ?_
 refine go ?_;intros
 cases h
 exact r_end
theorem d_cj9 {G : Gam} (H_dz9 : Has G c_dz9) (H_ck9 : Has G c_ck9) (H_ec9 : Has G c_ec9) (a0 : Repo) (a1 : Repo) (a2 : Int) (r : (Repo × Int)) (h : gf_cj9 a0 a1 a2 = some r) : Does G if_cj9 ks_cj9 (c_cj9.args (a0, a1, a2)) (c_cj9.ins (a0, a1, a2)) (c_cj9.ans (a0, a1, a2) r) := by
 refine does_pg (L := fun bs => [(0, .agg [.ref 0 (bs 0).1 (bs 0).2 0 a0.commits.length 115, .ref 8 (bs 1).1 (bs 1).2 0 a0.heads.length 130]), (1, .agg [.ro (List.map (eCommit false) a1.commits), .ro (List.map eHead a1.heads)]), (2, .v (.int .i64 a2))]) (H := fun bs => [(0, ent (bs 0).1 (bs 0).2 115 (List.map (eCommit true) a0.commits)), (8, ent (bs 1).1 (bs 1).2 130 (List.map eHead a0.heads))]) (fun bs => pin) (fun bs => pinh) fun bs t o => ?_
 show vwp _ ib_cj9 _ _
 unfold ib_cj9
 refine w_ir ?_
 unfold gf_cj9 at h
 obtain ⟨x5, h6, h⟩ := bnd h
 refine go ?_;intros
 refine c_call (c := c_dz9) (a1, ([a2] : (List Int))) H_dz9 h6 fun ch => ?_
 obtain ⟨h11, h⟩ := gd h
 refine go ?_;intros
 refine r_mks (f := eInt) (x := 0) rfl rfl (band1 h11) (band2 h11) rfl fun b9 => ?_
 obtain ⟨q443, h613, h⟩ := bnd h
 refine go ?_;intros
 refine w_last (fun t o => ∃ b600 c601 b602 b603 c604 b605 c606 b607 b609 c610, Pin t (ovr [(2, .v (.int .i64 a2)), (3, .ptr 24 b602 210 0 0), (6, .ptr 48 b607 210 0 0), (9, .ref 160 b609 c610 0 q443.2.length 17)] t) ∧ PinH o (ovh [(1000384, ent b600 c601 115 (List.map (eCommit true) q443.1)), (1000385, ent (bs 1).1 (bs 1).2 130 (List.map eHead a0.heads)), (24, ⟨b602, 1, 210, true, [[.al 1000384 b600 c601 0 q443.1.length 115, .al 1000385 (bs 1).1 (bs 1).2 0 a0.heads.length 130]]⟩), (1000768, ent b603 c604 115 (List.map (eCommit true) [])), (1000769, ent b605 c606 130 (List.map eHead [])), (48, ⟨b607, 1, 210, true, [[.al 1000768 b603 c604 0 ([] : List Commit).length 115, .al 1000769 b605 c606 0 ([] : List Head).length 130]]⟩), (160, ent b609 c610 17 (List.map eInt q443.2))] o)) ?_ ?_
 ·refine w_loop2 (fun n t o => ∃ n460 v444 v445 v457 b446 c447 b448 b449 b450 c451 b452 c453 b454 b455 c456 b458 c459, gl_cj9_4 a2 x5 a0 a1 n460 v444 v445 v457 = some q443 ∧ n460 = n ∧ Pin t (ovr [(2, .v (.int .i64 a2)), (3, .ptr 24 b448 210 0 0), (4, .ptr 32 b449 210 0 0), (6, .ptr 48 b454 210 0 0), (8, .ref 128 b455 c456 0 x5.length 33), (9, .ref 160 b458 c459 0 v457.length 17), (10, .v (.int .i64 v444))] t) ∧ PinH o (ovh [(1000384, ent b446 c447 115 (List.map (eCommit true) v445)), (1000385, ent (bs 1).1 (bs 1).2 130 (List.map eHead a0.heads)), (24, ⟨b448, 1, 210, true, [[.al 1000384 b446 c447 0 v445.length 115, .al 1000385 (bs 1).1 (bs 1).2 0 a0.heads.length 130]]⟩), (32, ⟨b449, 1, 210, true, [[.sl false 3 (List.map (eCommit false) a1.commits), .sl false 2 (List.map eHead a1.heads)]]⟩), (1000768, ent b450 c451 115 (List.map (eCommit true) [])), (1000769, ent b452 c453 130 (List.map eHead [])), (48, ⟨b454, 1, 210, true, [[.al 1000768 b450 c451 0 ([] : List Commit).length 115, .al 1000769 b452 c453 0 ([] : List Head).length 130]]⟩), (128, ent b455 c456 33 (List.map eBool x5)), (160, ent b458 c459 17 (List.map eInt v457))] o)) _ ⟨_, _, _, _, _, _, _, _, _, _, _, _, _, _, _, _, _, h613, rfl, pin, pinh⟩ ?_
  rintro n t o ⟨n460, v444, v445, v457, b446, c447, b448, b449, b450, c451, b452, c453, b454, b455, c456, b458, c459, h613, rfl, pq1, pq2⟩
  refine pinned pq1 pq2 ?_
  cases n460 with
  | zero => rw [gl_cj9_4] at h613; cases h613
  | succ n460 =>
   rw [gl_cj9_4] at h613
   refine go ?_;intros
   refine w_cond rfl (fun c => ?_) (fun c => ?_)
   ·replace h613 := itt h613 c
    try rw [c]
    obtain ⟨x461, h462, h613⟩ := bnd h613
    refine go ?_;intros
    refine r_ire (xs := x5) rfl rfl h462 rfl ?_
    refine go ?_;intros
    refine r_lde (f := eBool) (xs := x5) (x := x461) rfl rfl (idx_get h462).2 rfl rfl rfl ?_
    refine go ?_;intros
    refine w_cond rfl (fun c => ?_) (fun c => ?_)
    ·replace h613 := itt h613 c
     try rw [c]
     refine go ?_;intros
     exact k_ln2 _ (Nat.lt_succ_self _) ⟨_, _, _, _, _, _, _, _, _, _, _, _, _, _, _, _, _, h613, rfl, pin, pinh⟩
    replace h613 := itf h613 c
    try rw [c]
    obtain ⟨x463, h464, h613⟩ := bnd h613
    refine go ?_;intros
    refine c_call (c := c_ck9) ((⟨v445, a0.heads⟩ : Repo), a1, v444) H_ck9 h464 fun ch => ?_
    obtain ⟨x465, h466, h613⟩ := bnd h613
    refine go ?_;intros
    refine r_ire (xs := v457) rfl rfl h466 rfl ?_
    refine go ?_;intros
    refine c_ste (f := eInt) v457 x463 (idx_get h466).2 ?_
    obtain ⟨x467, h468, h613⟩ := bnd h613
    refine go ?_;intros
    refine r_ire (xs := (List.set v457 v444.toNat x463)) rfl rfl h468 rfl ?_
    refine go ?_;intros
    refine r_lde (f := eInt) (xs := (List.set v457 v444.toNat x463)) (x := x467) rfl rfl (idx_get h468).2 rfl rfl rfl ?_
    refine go ?_;intros
    refine w_cond rfl (fun c => ?_) (fun c => ?_)
    ·replace h613 := itt h613 c
     try rw [c]
     refine go ?_;intros
     exact k_ln2 _ (Nat.lt_succ_self _) ⟨_, _, _, _, _, _, _, _, _, _, _, _, _, _, _, _, _, h613, rfl, pin, pinh⟩
    replace h613 := itf h613 c
    try rw [c]
    obtain ⟨q469, h614, h613⟩ := bnd h613
    refine go ?_;intros
    refine w_cut (fun t o => ∃ b479 c480 b481 b482 b483 c484 b485 c486 b487 b488 c489 b490 c491 b493 c494 b496 c497 b499, Pin t (ovr [(2, .v (.int .i64 a2)), (3, .ptr 24 b481 210 0 0), (4, .ptr 32 b482 210 0 0), (6, .ptr 48 b487 210 0 0), (8, .ref 128 b488 c489 0 x5.length 33), (9, .ref 160 b490 c491 0 (List.set v457 v444.toNat x463).length 17), (10, .v (.int .i64 v444)), (11, .ptr 88 b499 115 0 0)] t) ∧ PinH o (ovh [(1000384, ent b479 c480 115 (List.map (eCommit true) v445)), (1000385, ent (bs 1).1 (bs 1).2 130 (List.map eHead a0.heads)), (24, ⟨b481, 1, 210, true, [[.al 1000384 b479 c480 0 v445.length 115, .al 1000385 (bs 1).1 (bs 1).2 0 a0.heads.length 130]]⟩), (32, ⟨b482, 1, 210, true, [[.sl false 3 (List.map (eCommit false) a1.commits), .sl false 2 (List.map eHead a1.heads)]]⟩), (1000768, ent b483 c484 115 (List.map (eCommit true) [])), (1000769, ent b485 c486 130 (List.map eHead [])), (48, ⟨b487, 1, 210, true, [[.al 1000768 b483 c484 0 ([] : List Commit).length 115, .al 1000769 b485 c486 0 ([] : List Head).length 130]]⟩), (128, ent b488 c489 33 (List.map eBool x5)), (160, ent b490 c491 17 (List.map eInt (List.set v457 v444.toNat x463))), (1001408, ent b493 c494 17 (List.map eInt q469.1)), (1001409, ent b496 c497 100 (List.map (eFeat true) q469.2.1)), (88, ⟨b499, 1, 115, true, [[.al 1001408 b493 c494 0 q469.1.length 17, .al 1001409 b496 c497 0 q469.2.1.length 100, .v (.string q469.2.2)]]⟩)] o)) ?_ ?_
    ·obtain ⟨x470, h471, h614⟩ := bnd h614
     refine go ?_;intros
     refine r_iro rfl rfl h471 rfl ?_
     obtain ⟨x472, h473, h614⟩ := bnd h614
     refine go ?_;intros
     refine c_call (c := c_ec9) (x470) H_ec9 h473 fun ch => ?_
     refine go ?_;intros
     cases h614
     exact k_cn ⟨_, _, _, _, _, _, _, _, _, _, _, _, _, _, _, _, _, _, pin, pinh⟩
    rintro t o ⟨b479, c480, b481, b482, b483, c484, b485, c486, b487, b488, c489, b490, c491, b493, c494, b496, c497, b499, pq1, pq2⟩
    refine pinned pq1 pq2 ?_
    obtain ⟨q550, h615, h613⟩ := bnd h613
    refine go ?_;intros
    refine w_last (fun t o => ∃ b576 c577 b578 b579 b580 c581 b582 c583 b584 b585 c586 b587 c588 b590 c591 b592 c593 b594, Pin t (ovr [(2, .v (.int .i64 a2)), (3, .ptr 24 b578 210 0 0), (4, .ptr 32 b579 210 0 0), (6, .ptr 48 b584 210 0 0), (8, .ref 128 b585 c586 0 x5.length 33), (9, .ref 160 b587 c588 0 (List.set v457 v444.toNat x463).length 17), (10, .v (.int .i64 v444)), (11, .ptr 88 b594 115 0 0)] t) ∧ PinH o (ovh [(1000384, ent b576 c577 115 (List.map (eCommit true) v445)), (1000385, ent (bs 1).1 (bs 1).2 130 (List.map eHead a0.heads)), (24, ⟨b578, 1, 210, true, [[.al 1000384 b576 c577 0 v445.length 115, .al 1000385 (bs 1).1 (bs 1).2 0 a0.heads.length 130]]⟩), (32, ⟨b579, 1, 210, true, [[.sl false 3 (List.map (eCommit false) a1.commits), .sl false 2 (List.map eHead a1.heads)]]⟩), (1000768, ent b580 c581 115 (List.map (eCommit true) [])), (1000769, ent b582 c583 130 (List.map eHead [])), (48, ⟨b584, 1, 210, true, [[.al 1000768 b580 c581 0 ([] : List Commit).length 115, .al 1000769 b582 c583 0 ([] : List Head).length 130]]⟩), (128, ent b585 c586 33 (List.map eBool x5)), (160, ent b587 c588 17 (List.map eInt (List.set v457 v444.toNat x463))), (1001408, ent b590 c591 17 (List.map eInt q550)), (1001409, ent b592 c593 100 (List.map (eFeat true) q469.2.1)), (88, ⟨b594, 1, 115, true, [[.al 1001408 b590 c591 0 q550.length 17, .al 1001409 b592 c593 0 q469.2.1.length 100, .v (.string q469.2.2)]]⟩)] o)) ?_ ?_
    ·refine w_loop2 (fun n t o => ∃ n571 v551 v565 b552 c553 b554 b555 b556 c557 b558 c559 b560 b561 c562 b563 c564 b566 c567 b568 c569 b570, gl_cj9_5 v457 v444 x463 n571 v551 v565 = some q550 ∧ n571 = n ∧ Pin t (ovr [(2, .v (.int .i64 a2)), (3, .ptr 24 b554 210 0 0), (4, .ptr 32 b555 210 0 0), (6, .ptr 48 b560 210 0 0), (8, .ref 128 b561 c562 0 x5.length 33), (9, .ref 160 b563 c564 0 (List.set v457 v444.toNat x463).length 17), (10, .v (.int .i64 v444)), (11, .ptr 88 b570 115 0 0), (12, .v (.int .i64 v551))] t) ∧ PinH o (ovh [(1000384, ent b552 c553 115 (List.map (eCommit true) v445)), (1000385, ent (bs 1).1 (bs 1).2 130 (List.map eHead a0.heads)), (24, ⟨b554, 1, 210, true, [[.al 1000384 b552 c553 0 v445.length 115, .al 1000385 (bs 1).1 (bs 1).2 0 a0.heads.length 130]]⟩), (32, ⟨b555, 1, 210, true, [[.sl false 3 (List.map (eCommit false) a1.commits), .sl false 2 (List.map eHead a1.heads)]]⟩), (1000768, ent b556 c557 115 (List.map (eCommit true) [])), (1000769, ent b558 c559 130 (List.map eHead [])), (48, ⟨b560, 1, 210, true, [[.al 1000768 b556 c557 0 ([] : List Commit).length 115, .al 1000769 b558 c559 0 ([] : List Head).length 130]]⟩), (128, ent b561 c562 33 (List.map eBool x5)), (160, ent b563 c564 17 (List.map eInt (List.set v457 v444.toNat x463))), (1001408, ent b566 c567 17 (List.map eInt v565)), (1001409, ent b568 c569 100 (List.map (eFeat true) q469.2.1)), (88, ⟨b570, 1, 115, true, [[.al 1001408 b566 c567 0 v565.length 17, .al 1001409 b568 c569 0 q469.2.1.length 100, .v (.string q469.2.2)]]⟩)] o)) _ ⟨_, _, _, _, _, _, _, _, _, _, _, _, _, _, _, _, _, _, _, _, _, h615, rfl, pin, pinh⟩ ?_
     rintro n t o ⟨n571, v551, v565, b552, c553, b554, b555, b556, c557, b558, c559, b560, b561, c562, b563, c564, b566, c567, b568, c569, b570, h615, rfl, pq1, pq2⟩
     refine pinned pq1 pq2 ?_
     cases n571 with
     | zero => rw [gl_cj9_5] at h615; cases h615
     | succ n571 =>
      rw [gl_cj9_5] at h615
      refine go ?_;intros
      refine w_cond rfl (fun c => ?_) (fun c => ?_)
      ·replace h615 := itt h615 (by first | exact c | (have c2 := c; simp only [List.length_map] at c2; exact c2))
       try rw [c]
       obtain ⟨x572, h573, h615⟩ := bnd h615
       refine go ?_;intros
       refine r_ire (xs := v565) rfl rfl h573 rfl ?_
       refine go ?_;intros
       refine r_lde (f := eInt) (xs := v565) (x := x572) rfl rfl (idx_get h573).2 rfl rfl rfl ?_
       obtain ⟨x574, h575, h615⟩ := bnd h615
       refine go ?_;intros
       refine r_ire (xs := (List.set v457 v444.toNat x463)) rfl rfl h575 rfl ?_
       refine go ?_;intros
       refine r_lde (f := eInt) (xs := (List.set v457 v444.toNat x463)) (x := x574) rfl rfl (idx_get h575).2 rfl rfl rfl ?_
       refine go ?_;intros
       refine r_ire (xs := v565) rfl rfl h573 rfl ?_
       refine go ?_;intros
       refine c_ste (f := eInt) v565 x574 (idx_get h573).2 ?_
       refine go ?_;intros
       exact k_ln2 _ (Nat.lt_succ_self _) ⟨_, _, _, _, _, _, _, _, _, _, _, _, _, _, _, _, _, _, _, _, _, h615, rfl, pin, pinh⟩
      replace h615 := itf h615 (by first | exact c | (have c2 := c; simp only [List.length_map] at c2; exact c2))
      try rw [c]
      refine go ?_;intros
      cases h615
      exact k_cn ⟨_, _, _, _, _, _, _, _, _, _, _, _, _, _, _, _, _, _, pin, pinh⟩
    rintro t o ⟨b576, c577, b578, b579, b580, c581, b582, c583, b584, b585, c586, b587, c588, b590, c591, b592, c593, b594, pq1, pq2⟩
    refine pinnedQ pq1 pq2 ?_
    refine go ?_;intros
    refine r_ire (xs := (List.set v457 v444.toNat x463)) rfl rfl h468 rfl ?_
    refine go ?_;intros
    refine c_ste (f := eInt) (List.set v457 v444.toNat x463) (v445.length : Int) (idx_get h468).2 ?_
    refine go ?_;intros
    try simp only [take_map_len, take_ent]
    obtain ⟨h598, h613⟩ := gd h613
    refine go ?_;intros
    refine r_app (f := (eCommit true)) (xs := v445) (ys := ([(⟨q550, q469.2.1, q469.2.2⟩ : Commit)] : (List Commit))) rfl (src_mv rfl rfl (by first | rfl | simp)) rfl rfl (by first | rfl | simp) h598 fun b596 c597 => ?_
    refine go ?_;intros
    exact k_ln2 _ (Nat.lt_succ_self _) ⟨_, _, _, _, _, _, _, _, _, _, _, _, _, _, _, _, _, h613, rfl, pin, pinh⟩
   replace h613 := itf h613 c
   try rw [c]
   refine go ?_;intros
   cases h613
   exact k_cn ⟨_, _, _, _, _, _, _, _, _, _, pin, pinh⟩
 rintro t o ⟨b600, c601, b602, b603, c604, b605, c606, b607, b609, c610, pq1, pq2⟩
 refine pinnedQ pq1 pq2 ?_
 refine go ?_;intros
 refine w_cond rfl (fun c => ?_) (fun c => ?_)
 ·replace h := itt h (by first | exact c | (have c2 := c; simp only [List.length_map] at c2; exact c2))
  try rw [c]
  refine go ?_;intros
  cases h
  exact r_endg
 replace h := itf h (by first | exact c | (have c2 := c; simp only [List.length_map] at c2; exact c2))
 try rw [c]
 obtain ⟨x611, h612, h⟩ := bnd h
 refine go ?_;intros
 refine r_ire (xs := q443.2) rfl rfl h612 rfl ?_
 refine go ?_;intros
 refine r_lde (f := eInt) (xs := q443.2) (x := x611) rfl rfl (idx_get h612).2 rfl rfl rfl ?_
 refine go ?_;intros
 cases h
 exact r_endg
end Go.Proofs.AM
