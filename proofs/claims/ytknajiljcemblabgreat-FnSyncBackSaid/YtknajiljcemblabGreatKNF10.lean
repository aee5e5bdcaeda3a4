/- Lemmas of the proof (KNF10), on an abstract machine. Conditions: none. -/
import Derived.Test.YtknajiljcemblabGreatKND
set_option linter.unusedVariables false
set_option linter.unusedSimpArgs false
set_option maxRecDepth 100000
set_option maxHeartbeats 4000000
namespace Go.Proofs.AM
attribute [local irreducible] vwp vstps vstpLs vstp vdo vret kseq kblk kloop kend kcut kloop2 frzV renV shutK pfzV trnV unrV
theorem d_ax9 {G : Gam} (H_aq9 : Has G c_aq9) (a0 : Repo) (a1 : Repo) (r : (List (List Bool))) (h : gf_ax9 a0 a1 = some r) : Does G if_ax9 ks_ax9 (c_ax9.args (a0, a1)) [] (c_ax9.ans (a0, a1) r) := by
 refine does_pn (L := [(0, .agg [.ro (List.map (eCommit false) a0.commits), .ro (List.map eHead a0.heads)]), (1, .agg [.ro (List.map (eCommit false) a1.commits), .ro (List.map eHead a1.heads)])]) (fun bs => pin) fun bs t o => ?_
 show vwp _ ib_ax9 _ _
 unfold ib_ax9
 refine w_ir ?_
 unfold gf_ax9 at h
 obtain ⟨h5, h⟩ := gd h
 refine go ?_;intros
 refine r_mks (f := (eSl true 33 eBool)) (x := ([] : (List Bool))) rfl rfl (band1 h5) (band2 h5) rfl fun b3 => ?_
 obtain ⟨hf1720, h⟩ := gd h
 obtain ⟨q1706, h2286, h⟩ := bnd h
 refine go ?_;intros
 refine w_last (fun t o => ∃ b2284 c2285, Pin t (ovr [(5, .ref 120 b2284 c2285 0 q1706.length 241)] t) ∧ PinH o (ovh [(120, ent b2284 c2285 241 (List.map (eSl true 33 eBool) q1706))] o)) ?_ ?_
 ·refine w_loop2 (fun n t o => ∃ l1714 k1712 v1709 b1708 b1710 c1711, gl_ax9_40 a1 l1714 k1712 v1709 = some q1706 ∧ n = l1714.length ∧ (a0.commits).drop k1712 = l1714 ∧ Pin t (ovr [(3, .ptr 24 b1708 210 0 0), (5, .ref 120 b1710 c1711 0 v1709.length 241), (17, .ro (List.map (eCommit false) a0.commits)), (18, .v (.int .i64 (a0.commits.length : Int))), (19, .v (.int .i64 (k1712 : Int)))] t) ∧ PinH o (ovh [(24, ⟨b1708, 1, 210, true, [[.sl false 3 (List.map (eCommit false) a1.commits), .sl false 2 (List.map eHead a1.heads)]]⟩), (120, ent b1710 c1711 241 (List.map (eSl true 33 eBool) v1709))] o)) _ ⟨_, _, _, _, _, _, h2286, rfl, rfl, pin, pinh⟩ ?_
  rintro n t o ⟨l1714, k1712, v1709, b1708, b1710, c1711, h2286, rfl, hd1715, pq1, pq2⟩
  refine pinned pq1 pq2 ?_
  cases l1714 with
  | nil =>
   have hge1717 := drop_ge hd1715
   rw [gl_ax9_40] at h2286
   refine go ?_;intros
   rw [hge1717]
   refine go ?_;intros
   cases h2286
   exact k_cn ⟨_, _, pin, pinh⟩
  | cons x1713 l1714 =>
   have hlt1716 := drop_lt hd1715
   have hx1718 := drop_ix hd1715
   have hw1719 := drop_wr hd1715 hf1720
   rw [gl_ax9_40] at h2286
   refine go ?_;intros
   rw [hlt1716]
   refine go ?_;intros
   refine r_iro rfl rfl hx1718 rfl ?_
   obtain ⟨h1724, h2286⟩ := gd h2286
   refine go ?_;intros
   refine r_mks (f := eBool) (x := false) rfl rfl (band1 h1724) (band2 h1724) rfl fun b1722 => ?_
   obtain ⟨x1725, h1726, h2286⟩ := bnd h2286
   refine go ?_;intros
   refine r_ire (xs := v1709) rfl rfl h1726 rfl ?_
   refine go ?_;intros
   refine c_ste (f := (eSl true 33 eBool)) v1709 (List.replicate ((a1.commits.length : Int)).toNat false) (idx_get h1726).2 ?_
   obtain ⟨hf2148, h2286⟩ := gd h2286
   obtain ⟨q2133, h2287, h2286⟩ := bnd h2286
   refine go ?_;intros
   refine w_last (fun t o => ∃ b2279 b2281 c2282, Pin t (ovr [(3, .ptr 24 b2279 210 0 0), (5, .ref 120 b2281 c2282 0 q2133.length 241), (17, .ro (List.map (eCommit false) a0.commits)), (18, .v (.int .i64 (a0.commits.length : Int))), (19, .v (.int .i64 (k1712 : Int)))] t) ∧ PinH o (ovh [(24, ⟨b2279, 1, 210, true, [[.sl false 3 (List.map (eCommit false) a1.commits), .sl false 2 (List.map eHead a1.heads)]]⟩), (120, ent b2281 c2282 241 (List.map (eSl true 33 eBool) q2133))] o)) ?_ ?_
   ·refine w_loop2 (fun n t o => ∃ l2142 k2140 v2136 b2135 b2137 c2138 b2139, gl_ax9_50 x1713 k1712 l2142 k2140 v2136 = some q2133 ∧ n = l2142.length ∧ (a1.commits).drop k2140 = l2142 ∧ Pin t (ovr [(3, .ptr 24 b2135 210 0 0), (5, .ref 120 b2137 c2138 0 v2136.length 241), (6, .v (.int .i64 (k1712 : Int))), (7, .ptr 56 b2139 115 0 0), (17, .ro (List.map (eCommit false) a0.commits)), (18, .v (.int .i64 (a0.commits.length : Int))), (19, .v (.int .i64 (k1712 : Int))), (32, .ro (List.map (eCommit false) a1.commits)), (33, .v (.int .i64 (a1.commits.length : Int))), (34, .v (.int .i64 (k2140 : Int)))] t) ∧ PinH o (ovh [(24, ⟨b2135, 1, 210, true, [[.sl false 3 (List.map (eCommit false) a1.commits), .sl false 2 (List.map eHead a1.heads)]]⟩), (120, ent b2137 c2138 241 (List.map (eSl true 33 eBool) v2136)), (56, ⟨b2139, 1, 115, true, [[.sl false 1 (List.map eInt x1713.up), .sl false 4 (List.map (eFeat false) x1713.sheet), .v (.string x1713.note)]]⟩)] o)) _ ⟨_, _, _, _, _, _, _, h2287, rfl, rfl, pin, pinh⟩ ?_
    rintro n t o ⟨l2142, k2140, v2136, b2135, b2137, c2138, b2139, h2287, rfl, hd2143, pq1, pq2⟩
    refine pinned pq1 pq2 ?_
    cases l2142 with
    | nil =>
     have hge2145 := drop_ge hd2143
     rw [gl_ax9_50] at h2287
     refine go ?_;intros
     rw [hge2145]
     refine go ?_;intros
     cases h2287
     exact k_cn ⟨_, _, _, pin, pinh⟩
    | cons x2141 l2142 =>
     have hlt2144 := drop_lt hd2143
     have hx2146 := drop_ix hd2143
     have hw2147 := drop_wr hd2143 hf2148
     rw [gl_ax9_50] at h2287
     refine go ?_;intros
     rw [hlt2144]
     refine go ?_;intros
     refine r_iro rfl rfl hx2146 rfl ?_
     refine go ?_;intros
     refine s_split rfl (fun c => ?_) (fun c => ?_)
     ·replace h2287 := itt h2287 c
      rw [c]
      obtain ⟨x2150, h2151, h2287⟩ := bnd h2287
      refine go ?_;intros
      refine c_call (c := c_aq9) (x1713.sheet, x2141.sheet) H_aq9 h2151 fun ch => ?_
      refine go ?_;intros
      refine s_split rfl (fun c => ?_) (fun c => ?_)
      ·replace h2287 := itt h2287 c
       rw [c]
       obtain ⟨hf2212, h2287⟩ := gd h2287
       obtain ⟨q2195, h2288, h2287⟩ := bnd h2287
       refine go ?_;intros
       refine w_last (fun t o => ∃ b2223 b2224 c2225 b2226 b2227, Pin t (ovr [(3, .ptr 24 b2223 210 0 0), (5, .ref 120 b2224 c2225 0 v2136.length 241), (6, .v (.int .i64 (k1712 : Int))), (7, .ptr 56 b2226 115 0 0), (8, .v (.int .i64 (k2140 : Int))), (10, .v (.bool q2195.1)), (17, .ro (List.map (eCommit false) a0.commits)), (18, .v (.int .i64 (a0.commits.length : Int))), (19, .v (.int .i64 (k1712 : Int))), (32, .ro (List.map (eCommit false) a1.commits)), (33, .v (.int .i64 (a1.commits.length : Int))), (34, .v (.int .i64 (k2140 : Int))), (45, .ptr 56 b2226 115 0 1), (46, .ro (List.map (eFeat false) x1713.sheet)), (47, .ptr 72 b2227 115 0 1), (48, .ro (List.map (eFeat false) x2141.sheet)), (49, .v (.bool true)), (52, .ptr 56 b2226 115 0 0), (53, .ro (List.map eInt x1713.up)), (54, .v (.int .i64 (x1713.up.length : Int))), (55, .ptr 72 b2227 115 0 0), (56, .ro (List.map eInt x2141.up)), (57, .v (.int .i64 (x2141.up.length : Int))), (58, .v (.bool q2195.2))] t) ∧ PinH o (ovh [(24, ⟨b2223, 1, 210, true, [[.sl false 3 (List.map (eCommit false) a1.commits), .sl false 2 (List.map eHead a1.heads)]]⟩), (120, ent b2224 c2225 241 (List.map (eSl true 33 eBool) v2136)), (56, ⟨b2226, 1, 115, true, [[.sl false 1 (List.map eInt x1713.up), .sl false 4 (List.map (eFeat false) x1713.sheet), .v (.string x1713.note)]]⟩), (72, ⟨b2227, 1, 115, true, [[.sl false 1 (List.map eInt x2141.up), .sl false 4 (List.map (eFeat false) x2141.sheet), .v (.string x2141.note)]]⟩)] o)) ?_ ?_
       ·refine w_loop2 (fun n t o => ∃ l2206 k2204 v2196 v2198 b2199 b2200 c2201 b2202 b2203, gl_ax9_51 v2136 x2141 l2206 k2204 v2196 v2198 = some q2195 ∧ n = l2206.length ∧ (x1713.up).drop k2204 = l2206 ∧ Pin t (ovr [(3, .ptr 24 b2199 210 0 0), (5, .ref 120 b2200 c2201 0 v2136.length 241), (6, .v (.int .i64 (k1712 : Int))), (7, .ptr 56 b2202 115 0 0), (8, .v (.int .i64 (k2140 : Int))), (9, .ptr 72 b2203 115 0 0), (10, .v (.bool v2196)), (11, .v (.int .i64 (k2204 : Int))), (17, .ro (List.map (eCommit false) a0.commits)), (18, .v (.int .i64 (a0.commits.length : Int))), (19, .v (.int .i64 (k1712 : Int))), (32, .ro (List.map (eCommit false) a1.commits)), (33, .v (.int .i64 (a1.commits.length : Int))), (34, .v (.int .i64 (k2140 : Int))), (45, .ptr 56 b2202 115 0 1), (46, .ro (List.map (eFeat false) x1713.sheet)), (47, .ptr 72 b2203 115 0 1), (48, .ro (List.map (eFeat false) x2141.sheet)), (49, .v (.bool true)), (52, .ptr 56 b2202 115 0 0), (53, .ro (List.map eInt x1713.up)), (54, .v (.int .i64 (x1713.up.length : Int))), (55, .ptr 72 b2203 115 0 0), (56, .ro (List.map eInt x2141.up)), (57, .v (.int .i64 (x2141.up.length : Int))), (58, .v (.bool v2198))] t) ∧ PinH o (ovh [(24, ⟨b2199, 1, 210, true, [[.sl false 3 (List.map (eCommit false) a1.commits), .sl false 2 (List.map eHead a1.heads)]]⟩), (120, ent b2200 c2201 241 (List.map (eSl true 33 eBool) v2136)), (56, ⟨b2202, 1, 115, true, [[.sl false 1 (List.map eInt x1713.up), .sl false 4 (List.map (eFeat false) x1713.sheet), .v (.string x1713.note)]]⟩), (72, ⟨b2203, 1, 115, true, [[.sl false 1 (List.map eInt x2141.up), .sl false 4 (List.map (eFeat false) x2141.sheet), .v (.string x2141.note)]]⟩)] o)) _ ⟨_, _, _, _, _, _, _, _, _, h2288, rfl, rfl, pin, pinh⟩ ?_
        rintro n t o ⟨l2206, k2204, v2196, v2198, b2199, b2200, c2201, b2202, b2203, h2288, rfl, hd2207, pq1, pq2⟩
        refine pinned pq1 pq2 ?_
        cases l2206 with
        | nil =>
         have hge2209 := drop_ge hd2207
         rw [gl_ax9_51] at h2288
         refine go ?_;intros
         rw [hge2209]
         refine go ?_;intros
         cases h2288
         exact k_cn ⟨_, _, _, _, _, pin, pinh⟩
        | cons x2205 l2206 =>
         have hlt2208 := drop_lt hd2207
         have hx2210 := drop_ix hd2207
         have hw2211 := drop_wr hd2207 hf2212
         rw [gl_ax9_51] at h2288
         refine go ?_;intros
         rw [hlt2208]
         refine go ?_;intros
         refine w_cond rfl (fun c => ?_) (fun c => ?_)
         ·replace h2288 := itt h2288 c
          try rw [c]
          refine go ?_;intros
          refine r_iro rfl rfl hx2210 rfl ?_
          obtain ⟨x2213, h2214, h2288⟩ := bnd h2288
          refine go ?_;intros
          refine r_ire (xs := v2136) rfl rfl h2214 rfl ?_
          refine go ?_;intros
          refine r_lop (f := (eSl true 33 eBool)) (g := eBool) (xs := v2136) (x := x2213) (idx_get h2214).2 rfl rfl rfl fun b2215 c2216 => ?_
          obtain ⟨x2217, h2218, h2288⟩ := bnd h2288
          refine go ?_;intros
          refine r_iro rfl rfl h2218 rfl ?_
          obtain ⟨x2219, h2220, h2288⟩ := bnd h2288
          refine go ?_;intros
          refine r_ire (xs := x2213) rfl rfl h2220 rfl ?_
          refine go ?_;intros
          refine r_shut ?_
          refine go ?_;intros
          refine r_lde (f := eBool) (xs := x2213) (x := x2219) rfl rfl (idx_get h2220).2 rfl rfl rfl ?_
          refine go ?_;intros
          refine k_sh0 (f := (eSl true 33 eBool)) (g := eBool) (idx_get h2214).2 ?_
          refine go ?_;intros
          rw [hw2211]
          exact k_ln2 _ (Nat.lt_succ_self _) ⟨_, _, _, _, _, _, _, _, _, h2288, rfl, drop_next hd2207, pin, pinh⟩
         replace h2288 := itf h2288 c
         try rw [c]
         refine go ?_;intros
         cases h2288
         exact k_cn ⟨_, _, _, _, _, pin, pinh⟩
       rintro t o ⟨b2223, b2224, c2225, b2226, b2227, pq1, pq2⟩
       refine pinnedQ pq1 pq2 ?_
       obtain ⟨x2228, h2229, h2287⟩ := bnd h2287
       refine go ?_;intros
       refine r_ire (xs := v2136) rfl rfl h2229 rfl ?_
       refine go ?_;intros
       refine r_lop (f := (eSl true 33 eBool)) (g := eBool) (xs := v2136) (x := x2228) (idx_get h2229).2 rfl rfl rfl fun b2230 c2231 => ?_
       obtain ⟨x2232, h2233, h2287⟩ := bnd h2287
       refine go ?_;intros
       refine r_ire (xs := x2228) rfl rfl h2233 rfl ?_
       refine go ?_;intros
       refine r_shut ?_
       refine go ?_;intros
       refine c_ste (f := eBool) x2228 q2195.1 (idx_get h2233).2 ?_
       refine go ?_;intros
       refine k_sh (f := (eSl true 33 eBool)) (g := eBool) (List.set x2228 (k2140 : Int).toNat q2195.1) (idx_get h2229).2 ?_
       refine go ?_;intros
       rw [hw2147]
       exact k_ln2 _ (Nat.lt_succ_self _) ⟨_, _, _, _, _, _, _, h2287, rfl, drop_next hd2143, pin, pinh⟩
      replace h2287 := itf h2287 c
      rw [c]
      obtain ⟨q2239, h2289, h2287⟩ := bnd h2287
      refine go ?_;intros
      refine w_last (fun t o => ∃ b2246 b2247 c2248 b2249 b2250, Pin t (ovr [(3, .ptr 24 b2246 210 0 0), (5, .ref 120 b2247 c2248 0 v2136.length 241), (6, .v (.int .i64 (k1712 : Int))), (7, .ptr 56 b2249 115 0 0), (8, .v (.int .i64 (k2140 : Int))), (10, .v (.bool false)), (17, .ro (List.map (eCommit false) a0.commits)), (18, .v (.int .i64 (a0.commits.length : Int))), (19, .v (.int .i64 (k1712 : Int))), (32, .ro (List.map (eCommit false) a1.commits)), (33, .v (.int .i64 (a1.commits.length : Int))), (34, .v (.int .i64 (k2140 : Int))), (45, .ptr 56 b2249 115 0 1), (46, .ro (List.map (eFeat false) x1713.sheet)), (47, .ptr 72 b2250 115 0 1), (48, .ro (List.map (eFeat false) x2141.sheet)), (49, .v (.bool false))] t) ∧ PinH o (ovh [(24, ⟨b2246, 1, 210, true, [[.sl false 3 (List.map (eCommit false) a1.commits), .sl false 2 (List.map eHead a1.heads)]]⟩), (120, ent b2247 c2248 241 (List.map (eSl true 33 eBool) v2136)), (56, ⟨b2249, 1, 115, true, [[.sl false 1 (List.map eInt x1713.up), .sl false 4 (List.map (eFeat false) x1713.sheet), .v (.string x1713.note)]]⟩), (72, ⟨b2250, 1, 115, true, [[.sl false 1 (List.map eInt x2141.up), .sl false 4 (List.map (eFeat false) x2141.sheet), .v (.string x2141.note)]]⟩)] o)) ?_ ?_
      ·refine w_loop2 (fun n t o => ∃ n2245  b2240 b2241 c2242 b2243 b2244, gl_ax9_52 x1713 n2245  = some q2239 ∧ n2245 = n ∧ Pin t (ovr [(3, .ptr 24 b2240 210 0 0), (5, .ref 120 b2241 c2242 0 v2136.length 241), (6, .v (.int .i64 (k1712 : Int))), (7, .ptr 56 b2243 115 0 0), (8, .v (.int .i64 (k2140 : Int))), (9, .ptr 72 b2244 115 0 0), (10, .v (.bool false)), (11, .v (.int .i64 0)), (17, .ro (List.map (eCommit false) a0.commits)), (18, .v (.int .i64 (a0.commits.length : Int))), (19, .v (.int .i64 (k1712 : Int))), (32, .ro (List.map (eCommit false) a1.commits)), (33, .v (.int .i64 (a1.commits.length : Int))), (34, .v (.int .i64 (k2140 : Int))), (45, .ptr 56 b2243 115 0 1), (46, .ro (List.map (eFeat false) x1713.sheet)), (47, .ptr 72 b2244 115 0 1), (48, .ro (List.map (eFeat false) x2141.sheet)), (49, .v (.bool false))] t) ∧ PinH o (ovh [(24, ⟨b2240, 1, 210, true, [[.sl false 3 (List.map (eCommit false) a1.commits), .sl false 2 (List.map eHead a1.heads)]]⟩), (120, ent b2241 c2242 241 (List.map (eSl true 33 eBool) v2136)), (56, ⟨b2243, 1, 115, true, [[.sl false 1 (List.map eInt x1713.up), .sl false 4 (List.map (eFeat false) x1713.sheet), .v (.string x1713.note)]]⟩), (72, ⟨b2244, 1, 115, true, [[.sl false 1 (List.map eInt x2141.up), .sl false 4 (List.map (eFeat false) x2141.sheet), .v (.string x2141.note)]]⟩)] o)) _ ⟨_, _, _, _, _, _, h2289, rfl, pin, pinh⟩ ?_
       rintro n t o ⟨n2245, b2240, b2241, c2242, b2243, b2244, h2289, rfl, pq1, pq2⟩
       refine pinned pq1 pq2 ?_
       cases n2245 with
       | zero => rw [gl_ax9_52] at h2289; cases h2289
       | succ n2245 =>
        rw [gl_ax9_52] at h2289
        refine go ?_;intros
        refine s_split rfl (fun c => ?_) (fun c => ?_)
        ·replace h2289 := itt h2289 (by first | exact c | (have c2 := c; simp only [List.length_map] at c2; exact c2))
         rw [c]
         refine go ?_;intros
         cases h2289
         exact k_cn ⟨_, _, _, _, _, pin, pinh⟩
        replace h2289 := itf h2289 (by first | exact c | (have c2 := c; simp only [List.length_map] at c2; exact c2))
        rw [c]
        refine go ?_;intros
        cases h2289
        exact k_cn ⟨_, _, _, _, _, pin, pinh⟩
      rintro t o ⟨b2246, b2247, c2248, b2249, b2250, pq1, pq2⟩
      refine pinnedQ pq1 pq2 ?_
      obtain ⟨x2251, h2252, h2287⟩ := bnd h2287
      refine go ?_;intros
      refine r_ire (xs := v2136) rfl rfl h2252 rfl ?_
      refine go ?_;intros
      refine r_lop (f := (eSl true 33 eBool)) (g := eBool) (xs := v2136) (x := x2251) (idx_get h2252).2 rfl rfl rfl fun b2253 c2254 => ?_
      obtain ⟨x2255, h2256, h2287⟩ := bnd h2287
      refine go ?_;intros
      refine r_ire (xs := x2251) rfl rfl h2256 rfl ?_
      refine go ?_;intros
      refine r_shut ?_
      refine go ?_;intros
      refine c_ste (f := eBool) x2251 false (idx_get h2256).2 ?_
      refine go ?_;intros
      refine k_sh (f := (eSl true 33 eBool)) (g := eBool) (List.set x2251 (k2140 : Int).toNat false) (idx_get h2252).2 ?_
      refine go ?_;intros
      rw [hw2147]
      exact k_ln2 _ (Nat.lt_succ_self _) ⟨_, _, _, _, _, _, _, h2287, rfl, drop_next hd2143, pin, pinh⟩
     replace h2287 := itf h2287 c
     rw [c]
     obtain ⟨q2262, h2290, h2287⟩ := bnd h2287
     refine go ?_;intros
     refine w_last (fun t o => ∃ b2269 b2270 c2271 b2272, Pin t (ovr [(3, .ptr 24 b2269 210 0 0), (5, .ref 120 b2270 c2271 0 v2136.length 241), (6, .v (.int .i64 (k1712 : Int))), (7, .ptr 56 b2272 115 0 0), (8, .v (.int .i64 (k2140 : Int))), (10, .v (.bool false)), (17, .ro (List.map (eCommit false) a0.commits)), (18, .v (.int .i64 (a0.commits.length : Int))), (19, .v (.int .i64 (k1712 : Int))), (32, .ro (List.map (eCommit false) a1.commits)), (33, .v (.int .i64 (a1.commits.length : Int))), (34, .v (.int .i64 (k2140 : Int)))] t) ∧ PinH o (ovh [(24, ⟨b2269, 1, 210, true, [[.sl false 3 (List.map (eCommit false) a1.commits), .sl false 2 (List.map eHead a1.heads)]]⟩), (120, ent b2270 c2271 241 (List.map (eSl true 33 eBool) v2136)), (56, ⟨b2272, 1, 115, true, [[.sl false 1 (List.map eInt x1713.up), .sl false 4 (List.map (eFeat false) x1713.sheet), .v (.string x1713.note)]]⟩)] o)) ?_ ?_
     ·refine w_loop2 (fun n t o => ∃ n2268  b2263 b2264 c2265 b2266 b2267, gl_ax9_53 x1713 n2268  = some q2262 ∧ n2268 = n ∧ Pin t (ovr [(3, .ptr 24 b2263 210 0 0), (5, .ref 120 b2264 c2265 0 v2136.length 241), (6, .v (.int .i64 (k1712 : Int))), (7, .ptr 56 b2266 115 0 0), (8, .v (.int .i64 (k2140 : Int))), (9, .ptr 72 b2267 115 0 0), (10, .v (.bool false)), (11, .v (.int .i64 0)), (17, .ro (List.map (eCommit false) a0.commits)), (18, .v (.int .i64 (a0.commits.length : Int))), (19, .v (.int .i64 (k1712 : Int))), (32, .ro (List.map (eCommit false) a1.commits)), (33, .v (.int .i64 (a1.commits.length : Int))), (34, .v (.int .i64 (k2140 : Int)))] t) ∧ PinH o (ovh [(24, ⟨b2263, 1, 210, true, [[.sl false 3 (List.map (eCommit false) a1.commits), .sl false 2 (List.map eHead a1.heads)]]⟩), (120, ent b2264 c2265 241 (List.map (eSl true 33 eBool) v2136)), (56, ⟨b2266, 1, 115, true, [[.sl false 1 (List.map eInt x1713.up), .sl false 4 (List.map (eFeat false) x1713.sheet), .v (.string x1713.note)]]⟩), (72, ⟨b2267, 1, 115, true, [[.sl false 1 (List.map eInt x2141.up), .sl false 4 (List.map (eFeat false) x2141.sheet), .v (.string x2141.note)]]⟩)] o)) _ ⟨_, _, _, _, _, _, h2290, rfl, pin, pinh⟩ ?_
      rintro n t o ⟨n2268, b2263, b2264, c2265, b2266, b2267, h2290, rfl, pq1, pq2⟩
      refine pinned pq1 pq2 ?_
      cases n2268 with
      | zero => rw [gl_ax9_53] at h2290; cases h2290
      | succ n2268 =>
       rw [gl_ax9_53] at h2290
       refine go ?_;intros
       refine s_split rfl (fun c => ?_) (fun c => ?_)
       ·replace h2290 := itt h2290 (by first | exact c | (have c2 := c; simp only [List.length_map] at c2; exact c2))
        rw [c]
        refine go ?_;intros
        cases h2290
        exact k_cn ⟨_, _, _, _, pin, pinh⟩
       replace h2290 := itf h2290 (by first | exact c | (have c2 := c; simp only [List.length_map] at c2; exact c2))
       rw [c]
       refine go ?_;intros
       cases h2290
       exact k_cn ⟨_, _, _, _, pin, pinh⟩
     rintro t o ⟨b2269, b2270, c2271, b2272, pq1, pq2⟩
     refine pinnedQ pq1 pq2 ?_
     obtain ⟨x2273, h2274, h2287⟩ := bnd h2287
     refine go ?_;intros
     refine r_ire (xs := v2136) rfl rfl h2274 rfl ?_
     refine go ?_;intros
     refine r_lop (f := (eSl true 33 eBool)) (g := eBool) (xs := v2136) (x := x2273) (idx_get h2274).2 rfl rfl rfl fun b2275 c2276 => ?_
     obtain ⟨x2277, h2278, h2287⟩ := bnd h2287
     refine go ?_;intros
     refine r_ire (xs := x2273) rfl rfl h2278 rfl ?_
     refine go ?_;intros
     refine r_shut ?_
     refine go ?_;intros
     refine c_ste (f := eBool) x2273 false (idx_get h2278).2 ?_
     refine go ?_;intros
     refine k_sh (f := (eSl true 33 eBool)) (g := eBool) (List.set x2273 (k2140 : Int).toNat false) (idx_get h2274).2 ?_
     refine go ?_;intros
     rw [hw2147]
     exact k_ln2 _ (Nat.lt_succ_self _) ⟨_, _, _, _, _, _, _, h2287, rfl, drop_next hd2143, pin, pinh⟩
   rintro t o ⟨b2279, b2281, c2282, pq1, pq2⟩
   refine pinnedQ pq1 pq2 ?_
   refine go ?_;intros
   rw [hw1719]
   exact k_ln2 _ (Nat.lt_succ_self _) ⟨_, _, _, _, _, _, h2286, rfl, drop_next hd1715, pin, pinh⟩
 rintro t o ⟨b2284, c2285, pq1, pq2⟩
 refine pinnedQ pq1 pq2 ?_
 refine go ?_;intros
 cases h
 exact r_end
theorem d_au9 {G : Gam} (H_af9 : Has G c_af9) (H_am9 : Has G c_am9) (H_ax9 : Has G c_ax9) (a0 : Repo) (a1 : Int) (a2 : Repo) (a3 : Int) (r : Bool) (h : gf_au9 a0 a1 a2 a3 = some r) : Does G if_au9 ks_au9 (c_au9.args (a0, a1, a2, a3)) [] (c_au9.ans (a0, a1, a2, a3) r) := by
 refine does_pn (L := [(0, .agg [.ro (List.map (eCommit false) a0.commits), .ro (List.map eHead a0.heads)]), (1, .v (.int .i64 a1)), (2, .agg [.ro (List.map (eCommit false) a2.commits), .ro (List.map eHead a2.heads)]), (3, .v (.int .i64 a3))]) (fun bs => pin) fun bs t o => ?_
 show vwp _ ib_au9 _ _
 unfold ib_au9
 refine w_ir ?_
 unfold gf_au9 at h
 obtain ⟨x3, h4, h⟩ := bnd h
 refine go ?_;intros
 refine c_call (c := c_af9) (a0) H_af9 h4 fun ch => ?_
 refine go ?_;intros
 refine s_split rfl (fun c => ?_) (fun c => ?_)
 ·replace h := itt h c
  rw [c]
  obtain ⟨x5, h6, h⟩ := bnd h
  refine go ?_;intros
  refine c_call (c := c_af9) (a2) H_af9 h6 fun ch => ?_
  refine go ?_;intros
  refine s_split rfl (fun c => ?_) (fun c => ?_)
  ·replace h := itt h c
   rw [c]
   obtain ⟨x7, h8, h⟩ := bnd h
   refine go ?_;intros
   refine c_call (c := c_am9) (a0, a1) H_am9 h8 fun ch => ?_
   refine go ?_;intros
   refine s_split rfl (fun c => ?_) (fun c => ?_)
   ·replace h := itt h c
    rw [c]
    obtain ⟨x9, h10, h⟩ := bnd h
    refine go ?_;intros
    refine c_call (c := c_am9) (a2, a3) H_am9 h10 fun ch => ?_
    refine go ?_;intros
    refine s_split rfl (fun c => ?_) (fun c => ?_)
    ·replace h := itt h c
     rw [c]
     obtain ⟨x11, h12, h⟩ := bnd h
     refine go ?_;intros
     refine c_call (c := c_ax9) (a0, a2) H_ax9 h12 fun ch => ?_
     obtain ⟨x15, h16, h⟩ := bnd h
     refine go ?_;intros
     refine r_ire (xs := x11) rfl rfl h16 rfl ?_
     refine go ?_;intros
     refine r_lop (f := (eSl true 33 eBool)) (g := eBool) (xs := x11) (x := x15) (idx_get h16).2 rfl rfl rfl fun b17 c18 => ?_
     obtain ⟨x19, h20, h⟩ := bnd h
     refine go ?_;intros
     refine r_ire (xs := x15) rfl rfl h20 rfl ?_
     refine go ?_;intros
     refine r_shut ?_
     refine go ?_;intros
     refine r_lde (f := eBool) (xs := x15) (x := x19) rfl rfl (idx_get h20).2 rfl rfl rfl ?_
     refine go ?_;intros
     refine k_sh0 (f := (eSl true 33 eBool)) (g := eBool) (idx_get h16).2 ?_
     refine go ?_;intros
     cases h
     exact r_end
    replace h := itf h c
    rw [c]
    refine go ?_;intros
    cases h
    exact r_end
   replace h := itf h c
   rw [c]
   refine go ?_;intros
   cases h
   exact r_end
  replace h := itf h c
  rw [c]
  refine go ?_;intros
  cases h
  exact r_end
 replace h := itf h c
 rw [c]
 refine go ?_;intros
 cases h
 exact r_end
theorem d_cn9 {G : Gam}  (a0 : (List UInt8)) (g0 : Option Addr) (g1 : Nat) (r : Rd) (h : gf_cn9 a0 = some r) : Does G if_cn9 ks_cn9 (c_cn9.args (a0, g0, g1)) [] (c_cn9.ans (a0, g0, g1) r) := by
 refine does_pn (L := [(0, .raw g0 g1 (List.map eU8 a0))]) (fun bs => pin) fun bs t o => ?_
 show vwp _ ib_cn9 _ _
 unfold ib_cn9
 refine w_ir ?_
 unfold gf_cn9 at h
 refine go ?_;intros
 refine w_cond rfl (fun c => ?_) (fun c => ?_)
 ·replace h := itt h (by first | exact c | (have c2 := c; simp only [List.length_map] at c2; exact c2))
  try rw [c]
  obtain ⟨x1, h2, h⟩ := bnd h
  refine go ?_;intros
  refine r_slsraw (f := eU8) rfl rfl rfl h2 ?_
  refine go ?_;intros
  cases h
  exact r_end
 replace h := itf h (by first | exact c | (have c2 := c; simp only [List.length_map] at c2; exact c2))
 try rw [c]
 refine go ?_;intros
 cases h
 exact r_end
theorem d_cq9 {G : Gam}  (a0 : Rd) (a1 : Int) (g0 : Option Addr) (g1 : Nat) (r : (Int × Int)) (h : gf_cq9 a0 a1 = some r) : Does G if_cq9 ks_cq9 (c_cq9.args (a0, a1, g0, g1)) (c_cq9.ins (a0, a1, g0, g1)) (c_cq9.ans (a0, a1, g0, g1) r) := by
 refine does_pg (L := fun bs => [(0, .ptr 0 (bs 0).1 290 0 0), (1, .v (.int .i64 a1))]) (H := fun bs => [(0, ⟨(bs 0).1, (bs 0).2, 290, true, [[.rw g0 g1 (List.map eU8 a0.b), .v (.int .i64 a0.p)]]⟩)]) (fun bs => pin) (fun bs => pinh) fun bs t o => ?_
 show vwp _ ib_cq9 _ _
 unfold ib_cq9
 refine w_ir ?_
 unfold gf_cq9 at h
 refine go ?_;intros
 refine s_split rfl (fun c => ?_) (fun c => ?_)
 ·replace h := itt h c
  rw [c]
  refine go ?_;intros
  cases h
  exact r_endg
 replace h := itf h c
 rw [c]
 refine go ?_;intros
 refine w_cond rfl (fun c => ?_) (fun c => ?_)
 ·replace h := itt h (by first | exact c | (have c2 := c; simp only [List.length_map] at c2; exact c2))
  try rw [c]
  refine go ?_;intros
  cases h
  exact r_endg
 replace h := itf h (by first | exact c | (have c2 := c; simp only [List.length_map] at c2; exact c2))
 try rw [c]
 refine go ?_;intros
 refine w_cond rfl (fun c => ?_) (fun c => ?_)
 ·replace h := itt h (by first | exact c | (have c2 := c; simp only [List.length_map] at c2; exact c2))
  try rw [c]
  obtain ⟨x1, h2, h⟩ := bnd h
  refine go ?_;intros
  refine r_iro rfl rfl h2 rfl ?_
  obtain ⟨x3, h4, h⟩ := bnd h
  refine go ?_;intros
  refine r_imod rfl rfl h4 ?_
  refine go ?_;intros
  cases h
  exact r_endg
 replace h := itf h (by first | exact c | (have c2 := c; simp only [List.length_map] at c2; exact c2))
 try rw [c]
 obtain ⟨x5, h6, h⟩ := bnd h
 refine go ?_;intros
 refine r_imod rfl rfl h6 ?_
 obtain ⟨x7, h8, h⟩ := bnd h
 refine go ?_;intros
 refine r_iro rfl rfl h8 rfl ?_
 obtain ⟨x9, h10, h⟩ := bnd h
 refine go ?_;intros
 refine r_imod rfl rfl h10 ?_
 obtain ⟨x11, h12, h⟩ := bnd h
 refine go ?_;intros
 refine r_iro rfl rfl h12 rfl ?_
 obtain ⟨x13, h14, h⟩ := bnd h
 refine go ?_;intros
 refine r_idiv rfl rfl h14 ?_
 refine go ?_;intros
 refine r_ixor rfl rfl ?_
 obtain ⟨x15, h16, h⟩ := bnd h
 refine go ?_;intros
 refine r_imod rfl rfl h16 ?_
 refine go ?_;intros
 cases h
 exact r_endg
theorem d_cp9 {G : Gam} (H_cq9 : Has G c_cq9) (a0 : Rd) (a1 : (List Str)) (g0 : Option Addr) (g1 : Nat) (r : (Str × Int)) (h : gf_cp9 a0 a1 = some r) : Does G if_cp9 ks_cp9 (c_cp9.args (a0, a1, g0, g1)) (c_cp9.ins (a0, a1, g0, g1)) (c_cp9.ans (a0, a1, g0, g1) r) := by
 refine does_pg (L := fun bs => [(0, .ptr 0 (bs 0).1 290 0 0), (1, .ro (List.map eStr a1))]) (H := fun bs => [(0, ⟨(bs 0).1, (bs 0).2, 290, true, [[.rw g0 g1 (List.map eU8 a0.b), .v (.int .i64 a0.p)]]⟩)]) (fun bs => pin) (fun bs => pinh) fun bs t o => ?_
 show vwp _ ib_cp9 _ _
 unfold ib_cp9
 refine w_ir ?_
 unfold gf_cp9 at h
 obtain ⟨x1, h2, h⟩ := bnd h
 refine go ?_;intros
 refine c_callg (c := c_cq9) (a0, (a1.length : Int), g0, g1) H_cq9 h2 fun ch => ?_
 obtain ⟨x3, h4, h⟩ := bnd h
 refine go ?_;intros
 refine r_iro rfl rfl h4 rfl ?_
 refine go ?_;intros
 cases h
 exact r_endg
theorem d_dc9 {G : Gam} (H_cp9 : Has G c_cp9) (a0 : Rd) (g0 : Option Addr) (g1 : Nat) (r : (Str × Int)) (h : gf_dc9 a0 = some r) : Does G if_dc9 ks_dc9 (c_dc9.args (a0, g0, g1)) (c_dc9.ins (a0, g0, g1)) (c_dc9.ans (a0, g0, g1) r) := by
 refine does_pg (L := fun bs => [(0, .ptr 0 (bs 0).1 290 0 0)]) (H := fun bs => [(0, ⟨(bs 0).1, (bs 0).2, 290, true, [[.rw g0 g1 (List.map eU8 a0.b), .v (.int .i64 a0.p)]]⟩)]) (fun bs => pin) (fun bs => pinh) fun bs t o => ?_
 show vwp _ ib_dc9 _ _
 unfold ib_dc9
 refine w_ir ?_
 unfold gf_dc9 at h
 obtain ⟨x2, h3, h⟩ := bnd h
 refine go ?_;intros
 refine c_callg (c := c_cp9) (a0, ([(⟨#[97]⟩ : Str), (⟨#[98]⟩ : Str), (⟨#[99]⟩ : Str), (⟨#[100]⟩ : Str), (⟨#[101]⟩ : Str)] : (List Str)), g0, g1) H_cp9 h3 fun ch => ?_
 refine go ?_;intros
 cases h
 exact r_endg
theorem d_dd9 {G : Gam} (H_cp9 : Has G c_cp9) (a0 : Rd) (g0 : Option Addr) (g1 : Nat) (r : (Str × Int)) (h : gf_dd9 a0 = some r) : Does G if_dd9 ks_dd9 (c_dd9.args (a0, g0, g1)) (c_dd9.ins (a0, g0, g1)) (c_dd9.ans (a0, g0, g1) r) := by
 refine does_pg (L := fun bs => [(0, .ptr 0 (bs 0).1 290 0 0)]) (H := fun bs => [(0, ⟨(bs 0).1, (bs 0).2, 290, true, [[.rw g0 g1 (List.map eU8 a0.b), .v (.int .i64 a0.p)]]⟩)]) (fun bs => pin) (fun bs => pinh) fun bs t o => ?_
 show vwp _ ib_dd9 _ _
 unfold ib_dd9
 refine w_ir ?_
 unfold gf_dd9 at h
 obtain ⟨x2, h3, h⟩ := bnd h
 refine go ?_;intros
 refine c_callg (c := c_cp9) (a0, ([(⟨#[110, 97, 109, 101]⟩ : Str), (⟨#[107, 105, 110, 100]⟩ : Str), (⟨#[117, 115, 101]⟩ : Str), (⟨#[116, 111, 110, 101]⟩ : Str)] : (List Str)), g0, g1) H_cp9 h3 fun ch => ?_
 refine go ?_;intros
 cases h
 exact r_endg
theorem d_dh9 {G : Gam} (H_cp9 : Has G c_cp9) (a0 : Rd) (g0 : Option Addr) (g1 : Nat) (r : (Str × Int)) (h : gf_dh9 a0 = some r) : Does G if_dh9 ks_dh9 (c_dh9.args (a0, g0, g1)) (c_dh9.ins (a0, g0, g1)) (c_dh9.ans (a0, g0, g1) r) := by
 refine does_pg (L := fun bs => [(0, .ptr 0 (bs 0).1 290 0 0)]) (H := fun bs => [(0, ⟨(bs 0).1, (bs 0).2, 290, true, [[.rw g0 g1 (List.map eU8 a0.b), .v (.int .i64 a0.p)]]⟩)]) (fun bs => pin) (fun bs => pinh) fun bs t o => ?_
 show vwp _ ib_dh9 _ _
 unfold ib_dh9
 refine w_ir ?_
 unfold gf_dh9 at h
 obtain ⟨x2, h3, h⟩ := bnd h
 refine go ?_;intros
 refine c_callg (c := c_cp9) (a0, ([(⟨#[97]⟩ : Str), (⟨#[98]⟩ : Str), (⟨#[111, 97, 107]⟩ : Str), (⟨#[97, 115, 104]⟩ : Str), (⟨#[114, 111, 97, 100]⟩ : Str)] : (List Str)), g0, g1) H_cp9 h3 fun ch => ?_
 refine go ?_;intros
 cases h
 exact r_endg
theorem d_co9 {G : Gam} (H_cq9 : Has G c_cq9) (a0 : Rd) (a1 : (List Int)) (g0 : Option Addr) (g1 : Nat) (r : (Int × Int)) (h : gf_co9 a0 a1 = some r) : Does G if_co9 ks_co9 (c_co9.args (a0, a1, g0, g1)) (c_co9.ins (a0, a1, g0, g1)) (c_co9.ans (a0, a1, g0, g1) r) := by
 refine does_pg (L := fun bs => [(0, .ptr 0 (bs 0).1 290 0 0), (1, .ro (List.map eInt a1))]) (H := fun bs => [(0, ⟨(bs 0).1, (bs 0).2, 290, true, [[.rw g0 g1 (List.map eU8 a0.b), .v (.int .i64 a0.p)]]⟩)]) (fun bs => pin) (fun bs => pinh) fun bs t o => ?_
 show vwp _ ib_co9 _ _
 unfold ib_co9
 refine w_ir ?_
 unfold gf_co9 at h
 obtain ⟨x1, h2, h⟩ := bnd h
 refine go ?_;intros
 refine c_callg (c := c_cq9) (a0, (a1.length : Int), g0, g1) H_cq9 h2 fun ch => ?_
 obtain ⟨x3, h4, h⟩ := bnd h
 refine go ?_;intros
 refine r_iro rfl rfl h4 rfl ?_
 refine go ?_;intros
 cases h
 exact r_endg
theorem d_cv9 {G : Gam} (H_cq9 : Has G c_cq9) (H_co9 : Has G c_co9) (a0 : Rd) (g0 : Option Addr) (g1 : Nat) (r : (Pt × Int)) (h : gf_cv9 a0 = some r) : Does G if_cv9 ks_cv9 (c_cv9.args (a0, g0, g1)) (c_cv9.ins (a0, g0, g1)) (c_cv9.ans (a0, g0, g1) r) := by
 refine does_pg (L := fun bs => [(0, .ptr 0 (bs 0).1 290 0 0)]) (H := fun bs => [(0, ⟨(bs 0).1, (bs 0).2, 290, true, [[.rw g0 g1 (List.map eU8 a0.b), .v (.int .i64 a0.p)]]⟩)]) (fun bs => pin) (fun bs => pinh) fun bs t o => ?_
 show vwp _ ib_cv9 _ _
 unfold ib_cv9
 refine w_ir ?_
 unfold gf_cv9 at h
 obtain ⟨x2, h3, h⟩ := bnd h
 refine go ?_;intros
 refine c_callg (c := c_cq9) (a0, 4, g0, g1) H_cq9 h3 fun ch => ?_
 obtain ⟨x5, h6, h⟩ := bnd h
 refine go ?_;intros
 refine c_callg (c := c_co9) ((⟨a0.b, x2.2⟩ : Rd), ([0, 1, 2, 5] : (List Int)), g0, g1) H_co9 h6 fun ch => ?_
 refine go ?_;intros
 cases h
 exact r_endg
theorem d_ct9 {G : Gam}  (a0 : Int) (a1 : Int) (r : Int) (h : gf_ct9 a0 a1 = some r) : Does G if_ct9 ks_ct9 (c_ct9.args (a0, a1)) [] (c_ct9.ans (a0, a1) r) := by
 refine does_pn (L := [(0, .v (.int .i64 a0)), (1, .v (.int .i64 a1))]) (fun bs => pin) fun bs t o => ?_
 show vwp _ ib_ct9 _ _
 unfold ib_ct9
 refine w_ir ?_
 unfold gf_ct9 at h
 refine go ?_;intros
 refine w_cond rfl (fun c => ?_) (fun c => ?_)
 ·replace h := itt h c
  try rw [c]
  refine go ?_;intros
  cases h
  exact r_end
 replace h := itf h c
 try rw [c]
 refine go ?_;intros
 cases h
 exact r_end
theorem d_cy9 {G : Gam} (H_co9 : Has G c_co9) (H_cq9 : Has G c_cq9) (H_ct9 : Has G c_ct9) (H_cv9 : Has G c_cv9) (H_cd9 : Has G c_cd9) (a0 : Rd) (g0 : Option Addr) (g1 : Nat) (r : (Shape × Int)) (h : gf_cy9 a0 = some r) : Does G if_cy9 ks_cy9 (c_cy9.args (a0, g0, g1)) (c_cy9.ins (a0, g0, g1)) (c_cy9.ans (a0, g0, g1) r) := by
 refine does_pg (L := fun bs => [(0, .ptr 0 (bs 0).1 290 0 0)]) (H := fun bs => [(0, ⟨(bs 0).1, (bs 0).2, 290, true, [[.rw g0 g1 (List.map eU8 a0.b), .v (.int .i64 a0.p)]]⟩)]) (fun bs => pin) (fun bs => pinh) fun bs t o => ?_
 show vwp _ ib_cy9 _ _
 unfold ib_cy9
 refine w_ir ?_
 unfold gf_cy9 at h
 obtain ⟨x3, h4, h⟩ := bnd h
 refine go ?_;intros
 refine c_callg (c := c_co9) (a0, ([1, 2, 2, 3, 3] : (List Int)), g0, g1) H_co9 h4 fun ch => ?_
 obtain ⟨x6, h7, h⟩ := bnd h
 refine go ?_;intros
 refine c_callg (c := c_cq9) ((⟨a0.b, x3.2⟩ : Rd), 4, g0, g1) H_cq9 h7 fun ch => ?_
 obtain ⟨q8, h159, h⟩ := bnd h
 refine go ?_;intros
 refine w_cut (fun t o => ∃ b10 c11 b12 b13 c14 b15, Pin t (ovr [(0, .ptr 0 (bs 0).1 290 0 0), (2, .ptr 16 b12 226 0 0), (3, .ptr 24 b15 226 0 0), (4, .v (.int .i64 q8))] t) ∧ PinH o (ovh [(0, ⟨(bs 0).1, (bs 0).2, 290, true, [[.rw g0 g1 (List.map eU8 a0.b), .v (.int .i64 x6.2)]]⟩), (1000257, ent b10 c11 66 (List.map ePt [])), (16, ⟨b12, 1, 226, true, [[.v (.int .i64 0), .al 1000257 b10 c11 0 ([] : List Pt).length 66]]⟩), (1000385, ent b13 c14 66 (List.map ePt [])), (24, ⟨b15, 1, 226, true, [[.v (.int .i64 x3.1), .al 1000385 b13 c14 0 ([] : List Pt).length 66]]⟩)] o)) ?_ ?_
 ·refine go ?_;intros
  refine w_cond rfl (fun c => ?_) (fun c => ?_)
  ·replace h159 := itt h159 c
   try rw [c]
   refine go ?_;intros
   cases h159
   exact k_cn ⟨_, _, _, _, _, _, pin, pinh⟩
  replace h159 := itf h159 c
  try rw [c]
  refine go ?_;intros
  cases h159
  exact k_cn ⟨_, _, _, _, _, _, pin, pinh⟩
 rintro t o ⟨b10, c11, b12, b13, c14, b15, pq1, pq2⟩
 refine pinned pq1 pq2 ?_
 obtain ⟨q109, h160, h⟩ := bnd h
 refine go ?_;intros
 refine w_last (fun t o => ∃ b147 c148 b149 b151 c152 b153, Pin t (ovr [(0, .ptr 0 (bs 0).1 290 0 0), (2, .ptr 16 b149 226 0 0), (3, .ptr 24 b153 226 0 0)] t) ∧ PinH o (ovh [(0, ⟨(bs 0).1, (bs 0).2, 290, true, [[.rw g0 g1 (List.map eU8 a0.b), .v (.int .i64 q109.1)]]⟩), (1000257, ent b147 c148 66 (List.map ePt [])), (16, ⟨b149, 1, 226, true, [[.v (.int .i64 0), .al 1000257 b147 c148 0 ([] : List Pt).length 66]]⟩), (1000385, ent b151 c152 66 (List.map ePt q109.2)), (24, ⟨b153, 1, 226, true, [[.v (.int .i64 x3.1), .al 1000385 b151 c152 0 q109.2.length 66]]⟩)] o)) ?_ ?_
 ·refine w_loop2 (fun n t o => ∃ n119 v110 v111 v115 b112 c113 b114 b116 c117 b118, gl_cy9_1 q8 a0 x3 n119 v110 v111 v115 = some q109 ∧ n119 = n ∧ Pin t (ovr [(0, .ptr 0 (bs 0).1 290 0 0), (2, .ptr 16 b114 226 0 0), (3, .ptr 24 b118 226 0 0), (4, .v (.int .i64 q8)), (5, .v (.int .i64 v110))] t) ∧ PinH o (ovh [(0, ⟨(bs 0).1, (bs 0).2, 290, true, [[.rw g0 g1 (List.map eU8 a0.b), .v (.int .i64 v111)]]⟩), (1000257, ent b112 c113 66 (List.map ePt [])), (16, ⟨b114, 1, 226, true, [[.v (.int .i64 0), .al 1000257 b112 c113 0 ([] : List Pt).length 66]]⟩), (1000385, ent b116 c117 66 (List.map ePt v115)), (24, ⟨b118, 1, 226, true, [[.v (.int .i64 x3.1), .al 1000385 b116 c117 0 v115.length 66]]⟩)] o)) _ ⟨_, _, _, _, _, _, _, _, _, _, h160, rfl, pin, pinh⟩ ?_
  rintro n t o ⟨n119, v110, v111, v115, b112, c113, b114, b116, c117, b118, h160, rfl, pq1, pq2⟩
  refine pinned pq1 pq2 ?_
  cases n119 with
  | zero => rw [gl_cy9_1] at h160; cases h160
  | succ n119 =>
   rw [gl_cy9_1] at h160
   refine go ?_;intros
   refine s_split rfl (fun c => ?_) (fun c => ?_)
   ·replace h160 := itt h160 c
    rw [c]
    obtain ⟨x120, h121, h160⟩ := bnd h160
    refine go ?_;intros
    refine c_call (c := c_ct9) (q8, 6) H_ct9 h121 fun ch => ?_
    refine go ?_;intros
    refine w_cond rfl (fun c => ?_) (fun c => ?_)
    ·replace h160 := itt h160 (by first | exact c | (have c2 := c; simp only [List.length_map] at c2; exact c2))
     try rw [c]
     obtain ⟨x122, h123, h160⟩ := bnd h160
     refine go ?_;intros
     refine c_callg (c := c_cv9) ((⟨a0.b, v111⟩ : Rd), g0, g1) H_cv9 h123 fun ch => ?_
     obtain ⟨q129, h161, h160⟩ := bnd h160
     refine go ?_;intros
     refine w_cut (fun t o => ∃ b135 c136 b137 b138 c139 b140 b141, Pin t (ovr [(0, .ptr 0 (bs 0).1 290 0 0), (2, .ptr 16 b137 226 0 0), (3, .ptr 24 b140 226 0 0), (4, .v (.int .i64 q8)), (5, .v (.int .i64 v110)), (6, .ptr 48 b141 66 0 0), (23, .ptr 24 b140 226 0 1), (24, .ref 1000385 b138 c139 0 v115.length 66), (25, .v (.int .i64 (v115.length : Int))), (26, .v (.int .i64 q8)), (27, .v (.int .i64 x120)), (28, .v (.bool true)), (61, .v (.bool q129))] t) ∧ PinH o (ovh [(0, ⟨(bs 0).1, (bs 0).2, 290, true, [[.rw g0 g1 (List.map eU8 a0.b), .v (.int .i64 x122.2)]]⟩), (1000257, ent b135 c136 66 (List.map ePt [])), (16, ⟨b137, 1, 226, true, [[.v (.int .i64 0), .al 1000257 b135 c136 0 ([] : List Pt).length 66]]⟩), (1000385, ent b138 c139 66 (List.map ePt v115)), (24, ⟨b140, 1, 226, true, [[.v (.int .i64 x3.1), .al 1000385 b138 c139 0 v115.length 66]]⟩), (48, ⟨b141, 1, 66, true, [[.v (.int .i64 x122.1.x), .v (.int .i64 x122.1.y)]]⟩)] o)) ?_ ?_
     ·refine go ?_;intros
      refine s_split rfl (fun c => ?_) (fun c => ?_)
      ·replace h161 := itt h161 (by first | exact c | (have c2 := c; simp only [List.length_map] at c2; exact c2))
       rw [c]
       refine go ?_;intros
       cases h161
       exact k_cn ⟨_, _, _, _, _, _, _, pin, pinh⟩
      replace h161 := itf h161 (by first | exact c | (have c2 := c; simp only [List.length_map] at c2; exact c2))
      rw [c]
      obtain ⟨x130, h131, h161⟩ := bnd h161
      refine go ?_;intros
      refine r_ire (xs := v115) rfl rfl h131 rfl ?_
      refine go ?_;intros
      refine r_lde (f := ePt) (xs := v115) (x := x130) rfl rfl (idx_get h131).2 rfl rfl rfl ?_
      refine go ?_;intros
      refine s_split rfl (fun c => ?_) (fun c => ?_)
      ·replace h161 := itt h161 c
       rw [c]
       refine go ?_;intros
       refine s_split rfl (fun c => ?_) (fun c => ?_)
       ·replace h161 := itt h161 c
        rw [c]
        refine go ?_;intros
        cases h161
        exact k_cn ⟨_, _, _, _, _, _, _, pin, pinh⟩
       replace h161 := itf h161 c
       rw [c]
       obtain ⟨x132, h133, h161⟩ := bnd h161
       refine go ?_;intros
       refine r_ire (xs := v115) rfl rfl h133 rfl ?_
       refine go ?_;intros
       refine r_lde (f := ePt) (xs := v115) (x := x132) rfl rfl (idx_get h133).2 rfl rfl rfl ?_
       refine go ?_;intros
       cases h161
       exact k_cn ⟨_, _, _, _, _, _, _, pin, pinh⟩
      replace h161 := itf h161 c
      rw [c]
      refine go ?_;intros
      cases h161
      exact k_cn ⟨_, _, _, _, _, _, _, pin, pinh⟩
     rintro t o ⟨b135, c136, b137, b138, c139, b140, b141, pq1, pq2⟩
     refine pinned pq1 pq2 ?_
     refine go ?_;intros
     refine w_cond rfl (fun c => ?_) (fun c => ?_)
     ·replace h160 := itt h160 c
      try rw [c]
      obtain ⟨h145, h160⟩ := gd h160
      refine go ?_;intros
      refine r_app (f := ePt) (xs := v115) (ys := ([x122.1] : (List Pt))) rfl (src_mv rfl rfl (by first | rfl | simp)) rfl rfl (by first | rfl | simp) h145 fun b143 c144 => ?_
      refine go ?_;intros
      exact k_ln2 _ (Nat.lt_succ_self _) ⟨_, _, _, _, _, _, _, _, _, _, h160, rfl, pin, pinh⟩
     replace h160 := itf h160 c
     try rw [c]
     refine go ?_;intros
     exact k_ln2 _ (Nat.lt_succ_self _) ⟨_, _, _, _, _, _, _, _, _, _, h160, rfl, pin, pinh⟩
    replace h160 := itf h160 (by first | exact c | (have c2 := c; simp only [List.length_map] at c2; exact c2))
    try rw [c]
    refine go ?_;intros
    cases h160
    exact k_cn ⟨_, _, _, _, _, _, pin, pinh⟩
   replace h160 := itf h160 c
   rw [c]
   refine go ?_;intros
   cases h160
   exact k_cn ⟨_, _, _, _, _, _, pin, pinh⟩
 rintro t o ⟨b147, c148, b149, b151, c152, b153, pq1, pq2⟩
 refine pinnedQ pq1 pq2 ?_
 obtain ⟨x154, h155, h⟩ := bnd h
 refine go ?_;intros
 refine c_call (c := c_cd9) ((⟨x3.1, q109.2⟩ : Shape)) H_cd9 h155 fun ch => ?_
 refine go ?_;intros
 refine w_cond rfl (fun c => ?_) (fun c => ?_)
 ·replace h := itt h c
  try rw [c]
  obtain ⟨x156, h157, h⟩ := bnd h
  refine go ?_;intros
  refine c_callg (c := c_cv9) ((⟨a0.b, q109.1⟩ : Rd), g0, g1) H_cv9 h157 fun ch => ?_
  refine go ?_;intros
  cases h
  exact r_endg
 replace h := itf h c
 try rw [c]
 refine go ?_;intros
 cases h
 exact r_endg
end Go.Proofs.AM
