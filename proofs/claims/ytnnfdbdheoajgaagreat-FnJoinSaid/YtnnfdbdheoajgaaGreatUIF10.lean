/- Lemmas of the proof (UIF10), on an abstract machine. Conditions: none. -/
import Derived.Test.YtnnfdbdheoajgaaGreatUID
set_option linter.unusedVariables false
set_option linter.unusedSimpArgs false
set_option maxRecDepth 100000
set_option maxHeartbeats 4000000
namespace Go.Proofs.AM
attribute [local irreducible] vwp cY7 bI7 f97 vdo jn7 mS7 j07 fi7 mG7 kM7 bL7 e87 kt7 dY7 jO7 k37 k27
theorem P67 : OkC [lZ7] AN7 LT7 LU7 := by
 refine ok fun G H ⟨a0, g0, g1⟩ r h => ?_
 refine st1 fun bs t o => ?_
 dsimp only [rD7] at h
 exact cls
theorem P77 : OkC [yp7, o27, cm7, AJ7, AM7, AN7, sV7, ya7] yq7 LV7 LW7 := by
 refine ok fun G H ⟨a0, a1, g0, g1, g2, g3, g4, g5⟩ r h => ?_
 have H_fz9 := H _ (.head _)
 have H_fv9 := H _ (.tail _ (.head _))
 have H_dz9 := H _ (.tail _ (.tail _ (.head _)))
 have H_dm9 := H _ (.tail _ (.tail _ (.tail _ (.head _))))
 have H_fc9 := H _ (.tail _ (.tail _ (.tail _ (.tail _ (.head _)))))
 have H_ga9 := H _ (.tail _ (.tail _ (.tail _ (.tail _ (.tail _ (.head _))))))
 have H_fs9 := H _ (.tail _ (.tail _ (.tail _ (.tail _ (.tail _ (.tail _ (.head _)))))))
 have H_fq9 := H _ (.tail _ (.tail _ (.tail _ (.tail _ (.tail _ (.tail _ (.tail _ (.head _))))))))
 refine st1 fun bs t o => ?_
 dsimp only [rE7] at h
 obtain ⟨x3, h4, h⟩ := bnd h
 refine go ?_;intros
 refine ao7 (c := yp7) (a0, g0, g1) H_fz9 h4 fun ch => ?_
 obtain ⟨x5, h6, h⟩ := bnd h
 refine go ?_;intros
 refine an7 (c := o27) (a1, x3.1) H_fv9 h6 fun ch => ?_
 refine go ?_;intros
 refine as7 rfl (fun c => ?_) (fun c => ?_)
 ·replace h := itt h c
  try rw [c]
  obtain ⟨x7, h8, h⟩ := bnd h
  refine go ?_;intros
  refine ao7 (c := cm7) ((⟨a0.b, x3.2⟩ : Rd), (a1.heads.length : Int), g0, g1) H_dz9 h8 fun ch => ?_
  obtain ⟨x9, h10, h⟩ := bnd h
  refine go ?_;intros
  refine dp7 rfl rfl h10 rfl ?_
  obtain ⟨x11, h12, h⟩ := bnd h
  refine go ?_;intros
  refine an7 (c := AJ7) (a1, x3.1, x9.name) H_dm9 h12 fun ch => ?_
  refine go ?_;intros
  refine as7 rfl (fun c => ?_) (fun c => ?_)
  ·replace h := itt h (by first | exact c | (have c2 := c; simp only [List.length_map] at c2; exact c2))
   try rw [c]
   refine go ?_;intros
   cases h
   exact aY7
  replace h := itf h (by first | exact c | (have c2 := c; simp only [List.length_map] at c2; exact c2))
  try rw [c]
  refine go ?_;intros
  refine GF7 rfl rfl rfl rfl ?_
  refine go ?_;intros
  cases h
  exact aY7
 replace h := itf h c
 try rw [c]
 obtain ⟨x18, h19, h⟩ := bnd h
 refine go ?_;intros
 refine dp7 rfl rfl h19 rfl ?_
 obtain ⟨q20, h75, h⟩ := bnd h
 refine go ?_;intros
 refine dA7 (fun t o => ∃ b30 b31 c32 b33 c34 b35 b36 c37 b40, Pin t (ovr [(0, .ptr 0 (bs 0).1 290 0 0), (3, .ptr 24 b30 210 0 0), (4, .ptr 32 b35 210 0 0), (6, .v (.int .i64 x5)), (9, .v (.int .i64 x18.at_)), (10, .ptr 80 b40 115 0 0)] t) ∧ e97 o (ovh [(0, ⟨(bs 0).1, (bs 0).2, 290, true, [[.rw g0 g1 (List.map eU8 a0.b), .v (.int .i64 q20.1)]]⟩), (24, ⟨b30, 1, 210, true, [[.rw g2 g3 (List.map (af7 false) a1.commits), .rw g4 g5 (List.map az7 a1.heads)]]⟩), (1000512, ent b31 c32 115 (List.map (af7 true) [])), (1000513, ent b33 c34 130 (List.map az7 [])), (32, ⟨b35, 1, 210, true, [[.al 1000512 b31 c32 0 ([] : List Commit).length 115, .al 1000513 b33 c34 0 ([] : List Head).length 130]]⟩), (1001280, ent b36 c37 17 (List.map bo7 [x18.at_])), (80, ⟨b40, 1, 115, true, [[.al 1001280 b36 c37 0 [x18.at_].length 17, .sl false 4 (List.map (ak7 false) q20.2.1), .v (.string q20.2.2)]]⟩)] o)) ?_ ?_
 ·obtain ⟨x22, h23, h75⟩ := bnd h75
  refine go ?_;intros
  refine dp7 rfl rfl h23 rfl ?_
  obtain ⟨x24, h25, h75⟩ := bnd h75
  refine go ?_;intros
  refine ao7 (c := AM7) ((⟨a0.b, x3.2⟩ : Rd), x22.sheet, g0, g1) H_fc9 h25 fun ch => ?_
  obtain ⟨x26, h27, h75⟩ := bnd h75
  refine go ?_;intros
  refine ao7 (c := AN7) ((⟨a0.b, x24.2⟩ : Rd), g0, g1) H_ga9 h27 fun ch => ?_
  refine go ?_;intros
  cases h75
  exact dd7 ⟨_, _, _, _, _, _, _, _, _, pin, aJ7⟩
 rintro t o ⟨b30, b31, c32, b33, c34, b35, b36, c37, b40, pq1, pq2⟩
 refine bz7 pq1 pq2 ?_
 obtain ⟨x41, h42, h⟩ := bnd h
 refine go ?_;intros
 refine ao7 (c := cm7) ((⟨a0.b, q20.1⟩ : Rd), (a1.heads.length : Int), g0, g1) H_dz9 h42 fun ch => ?_
 obtain ⟨x43, h44, h⟩ := bnd h
 refine go ?_;intros
 refine dp7 rfl rfl h44 rfl ?_
 obtain ⟨q48, h76, h⟩ := bnd h
 refine go ?_;intros
 refine dA7 (fun t o => ∃ b52 b53 c54 b55 c56 b57 b59 c60 b61, Pin t (ovr [(3, .ptr 24 b52 210 0 0), (4, .ptr 32 b57 210 0 0), (6, .v (.int .i64 x5)), (10, .ptr 80 b61 115 0 0)] t) ∧ e97 o (ovh [(24, ⟨b52, 1, 210, true, [[.rw g2 g3 (List.map (af7 false) a1.commits), .rw g4 g5 (List.map az7 a1.heads)]]⟩), (1000512, ent b53 c54 115 (List.map (af7 true) [])), (1000513, ent b55 c56 130 (List.map az7 [])), (32, ⟨b57, 1, 210, true, [[.al 1000512 b53 c54 0 ([] : List Commit).length 115, .al 1000513 b55 c56 0 ([] : List Head).length 130]]⟩), (1001280, ent b59 c60 17 (List.map bo7 q48.1)), (80, ⟨b61, 1, 115, true, [[.al 1001280 b59 c60 0 q48.1.length 17, .sl false 4 (List.map (ak7 false) q20.2.1), .v (.string q20.2.2)]]⟩), (0, ⟨(bs 0).1, (bs 0).2, 290, true, [[.rw g0 g1 (List.map eU8 a0.b), .v (.int .i64 q48.2)]]⟩)] o)) ?_ ?_
 ·refine go ?_;intros
  refine aw7 rfl (fun c => ?_) (fun c => ?_)
  ·replace h76 := itt h76 c
   rw [c]
   obtain ⟨x49, h50, h76⟩ := bnd h76
   refine go ?_;intros
   refine ao7 (c := cm7) ((⟨a0.b, x41.2⟩ : Rd), 4, g0, g1) H_dz9 h50 fun ch => ?_
   refine go ?_;intros
   refine as7 rfl (fun c => ?_) (fun c => ?_)
   ·replace h76 := itt h76 c
    try rw [c]
    refine go ?_;intros
    cases h76
    exact dd7 ⟨_, _, _, _, _, _, _, _, _, pin, aJ7⟩
   replace h76 := itf h76 c
   try rw [c]
   refine go ?_;intros
   cases h76
   exact dd7 ⟨_, _, _, _, _, _, _, _, _, pin, aJ7⟩
  replace h76 := itf h76 c
  rw [c]
  refine go ?_;intros
  cases h76
  exact dd7 ⟨_, _, _, _, _, _, _, _, _, pin, aJ7⟩
 rintro t o ⟨b52, b53, c54, b55, c56, b57, b59, c60, b61, pq1, pq2⟩
 refine bz7 pq1 pq2 ?_
 refine go ?_;intros
 refine as7 rfl (fun c => ?_) (fun c => ?_)
 ·replace h := itt h (by first | exact c | (have c2 := c; simp only [List.length_map] at c2; exact c2))
  try rw [c]
  refine go ?_;intros
  refine GF7 rfl rfl rfl rfl ?_
  refine go ?_;intros
  cases h
  exact aY7
 replace h := itf h (by first | exact c | (have c2 := c; simp only [List.length_map] at c2; exact c2))
 try rw [c]
 obtain ⟨x63, h64, h⟩ := bnd h
 refine go ?_;intros
 refine an7 (c := sV7) (a1) H_fs9 h64 fun ch => ?_
 obtain ⟨x69, h70, h⟩ := bnd h
 refine go ?_;intros
 refine ao7 (c := ya7) (x63, x5, (⟨q48.1, q20.2.1, q20.2.2⟩ : Commit)) H_fq9 h70 fun ch => ?_
 refine go ?_;intros
 cases h
 exact aY7
theorem P87 : OkC [AI7, vQ7, cm7, yq7] AO7 LX7 LY7 := by
 refine ok fun G H ⟨a0, g0, g1⟩ r h => ?_
 have H_dn9 := H _ (.head _)
 have H_ez9 := H _ (.tail _ (.head _))
 have H_dz9 := H _ (.tail _ (.tail _ (.head _)))
 have H_fu9 := H _ (.tail _ (.tail _ (.tail _ (.head _))))
 refine st1 fun bs t o => ?_
 dsimp only [rF7] at h
 obtain ⟨x2, h3, h⟩ := bnd h
 refine go ?_;intros
 refine an7 (c := AI7) ((⟨#[109, 97, 105, 110]⟩ : Str)) H_dn9 h3 fun ch => ?_
 refine go ?_;intros
 refine Dr7 ?_
 refine go ?_;intros
 refine MB7 (f := (af7 true)) (g := bi7) (lx7 _) rfl rfl ?_
 refine go ?_;intros
 refine du7 ?_
 obtain ⟨x9, h10, h⟩ := bnd h
 refine go ?_;intros
 refine ao7 (c := vQ7) (a0, g0, g1) H_ez9 h10 fun ch => ?_
 refine go ?_;intros
 refine kO7 ?_
 obtain ⟨x13, h14, h⟩ := bnd h
 refine go ?_;intros
 refine eK7 (xs := x2.1.commits) rfl rfl h14 rfl ?_
 refine go ?_;intros
 refine cI7 (f := bi7) x2.1.commits (⟨x13.up, x9.1, x13.note⟩ : Commit) (aF7 h14).2 ?_
 obtain ⟨x15, h16, h⟩ := bnd h
 refine go ?_;intros
 refine ao7 (c := cm7) ((⟨a0.b, x9.2⟩ : Rd), 7, g0, g1) H_dz9 h16 fun ch => ?_
 obtain ⟨q56, h94, h⟩ := bnd h
 refine go ?_;intros
 refine lA7 (fun t o => ∃ b78 c79 b80 c81 b82 b84 c85 b87 c88 b89, Pin t (ovr [(0, .ptr 0 (bs 0).1 290 0 0), (2, .ptr 16 b82 210 0 0), (3, .ptr 24 b89 210 0 0)] t) ∧ e97 o (ovh [(0, ⟨(bs 0).1, (bs 0).2, 290, true, [[.rw g0 g1 (List.map eU8 a0.b), .v (.int .i64 q56.1)]]⟩), (1000256, ent b78 c79 115 (List.map (af7 true) [])), (1000257, ent b80 c81 130 (List.map az7 [])), (16, ⟨b82, 1, 210, true, [[.al 1000256 b78 c79 0 ([] : List Commit).length 115, .al 1000257 b80 c81 0 ([] : List Head).length 130]]⟩), (1000384, ent b84 c85 115 (List.map bi7 q56.2.1)), (1000385, ent b87 c88 130 (List.map az7 q56.2.2)), (24, ⟨b89, 1, 210, true, [[.al 1000384 b84 c85 0 q56.2.1.length 115, .al 1000385 b87 c88 0 q56.2.2.length 130]]⟩)] o)) ?_ ?_
 ·refine fl7 (fun n t o => ∃ n71 v57 v58 v64 v67 b59 c60 b61 c62 b63 b65 c66 b68 c69 b70, dJ7 a0 n71 v57 v58 v64 v67 = some q56 ∧ n71 = n ∧ Pin t (ovr [(0, .ptr 0 (bs 0).1 290 0 0), (2, .ptr 16 b63 210 0 0), (3, .ptr 24 b70 210 0 0), (5, .v (.int .i64 v57))] t) ∧ e97 o (ovh [(0, ⟨(bs 0).1, (bs 0).2, 290, true, [[.rw g0 g1 (List.map eU8 a0.b), .v (.int .i64 v58)]]⟩), (1000256, ent b59 c60 115 (List.map (af7 true) [])), (1000257, ent b61 c62 130 (List.map az7 [])), (16, ⟨b63, 1, 210, true, [[.al 1000256 b59 c60 0 ([] : List Commit).length 115, .al 1000257 b61 c62 0 ([] : List Head).length 130]]⟩), (1000384, ent b65 c66 115 (List.map bi7 v64)), (1000385, ent b68 c69 130 (List.map az7 v67)), (24, ⟨b70, 1, 210, true, [[.al 1000384 b65 c66 0 v64.length 115, .al 1000385 b68 c69 0 v67.length 130]]⟩)] o)) _ ⟨_, _, _, _, _, _, _, _, _, _, _, _, _, _, _, h94, rfl, pin, aJ7⟩ ?_
  rintro n t o ⟨n71, v57, v58, v64, v67, b59, c60, b61, c62, b63, b65, c66, b68, c69, b70, h94, rfl, pq1, pq2⟩
  refine bz7 pq1 pq2 ?_
  cases n71 with
  | zero => rw [dJ7] at h94; cases h94
  | succ n71 =>
   rw [dJ7] at h94
   refine go ?_;intros
   refine as7 rfl (fun c => ?_) (fun c => ?_)
   ·replace h94 := itt h94 c
    try rw [c]
    refine go ?_;intros
    refine GQ7 ?_
    refine go ?_;intros
    refine Rj7 rfl rfl ?_
    refine go ?_;intros
    refine Dr7 ?_
    refine go ?_;intros
    refine Ns7 ?_
    obtain ⟨x72, h73, h94⟩ := bnd h94
    rcases x72 with ⟨_ | y74, p75⟩
    ·dsimp only at h94
     refine go ?_;intros
     refine ao7 (c := yq7) ((⟨a0.b, v58⟩ : Rd), (⟨v64, v67⟩ : am7), g0, g1, (u17 b65), c66, (u17 b68), c69) H_fu9 h73 fun ch76 => ?_
     refine go ?_;intros
     refine QO7 rfl (Cc7 rfl rfl (by first | rfl | simp) (Cc7 rfl rfl (by first | rfl | simp) Ca7)) ?_
     refine go ?_;intros
     refine MB7 (f := bi7) (g := bi7) (nC7 _) rfl rfl ?_
     refine go ?_;intros
     exact gy7 _ (Nat.lt_succ_self _) ⟨_, _, _, _, _, _, _, _, _, _, _, _, _, _, _, h94, rfl, pin, aJ7⟩
    dsimp only at h94
    refine go ?_;intros
    refine ao7 (c := yq7) ((⟨a0.b, v58⟩ : Rd), (⟨v64, v67⟩ : am7), g0, g1, (u17 b65), c66, (u17 b68), c69) H_fu9 h73 fun ch76 => ?_
    refine go ?_;intros
    refine QO7 rfl (Cb7 (Cb7 Ca7)) ?_
    refine go ?_;intros
    refine MB7 (f := (af7 true)) (g := bi7) (lx7 _) rfl rfl ?_
    refine go ?_;intros
    exact gy7 _ (Nat.lt_succ_self _) ⟨_, _, _, _, _, _, _, _, _, _, _, _, _, _, _, h94, rfl, pin, aJ7⟩
   replace h94 := itf h94 c
   try rw [c]
   refine go ?_;intros
   cases h94
   exact dd7 ⟨_, _, _, _, _, _, _, _, _, _, pin, aJ7⟩
 rintro t o ⟨b78, c79, b80, c81, b82, b84, c85, b87, c88, b89, pq1, pq2⟩
 refine hQ7 pq1 pq2 ?_
 obtain ⟨x90, h91, h⟩ := bnd h
 refine go ?_;intros
 refine ao7 (c := cm7) ((⟨a0.b, q56.1⟩ : Rd), 4, g0, g1) H_dz9 h91 fun ch => ?_
 refine go ?_;intros
 refine aw7 rfl (fun c => ?_) (fun c => ?_)
 ·replace h := itt h c
  rw [c]
  refine go ?_;intros
  refine as7 rfl (fun c => ?_) (fun c => ?_)
  ·replace h := itt h (by first | exact c | (have c2 := c; simp only [List.length_map] at c2; exact c2))
   try rw [c]
   refine go ?_;intros
   refine Ds7 ?_
   obtain ⟨x92, h93, h⟩ := bnd h
   refine go ?_;intros
   refine GR7 (xs := q56.2.2) h93 rfl rfl rfl rfl (by first | rfl | simp) ?_
   refine go ?_;intros
   refine QN7 (f := az7) h93 rfl rfl rfl ?_
   refine go ?_;intros
   cases h
   exact aY7
  replace h := itf h (by first | exact c | (have c2 := c; simp only [List.length_map] at c2; exact c2))
  try rw [c]
  refine go ?_;intros
  cases h
  exact aY7
 replace h := itf h c
 rw [c]
 refine go ?_;intros
 cases h
 exact aY7
theorem P97 : OkC [AO7, cm7, mY7, AH7] Fb7 LZ7 L07 := by
 refine ok fun G H ⟨a0, g0, g1⟩ r h => ?_
 have H_gc9 := H _ (.head _)
 have H_dz9 := H _ (.tail _ (.head _))
 have H_dx9 := H _ (.tail _ (.tail _ (.head _)))
 have H_et9 := H _ (.tail _ (.tail _ (.tail _ (.head _))))
 refine st1 fun bs t o => ?_
 dsimp only [rG7] at h
 obtain ⟨x2, h3, h⟩ := bnd h
 refine go ?_;intros
 refine ao7 (c := AO7) (a0, g0, g1) H_gc9 h3 fun ch => ?_
 obtain ⟨x9, h10, h⟩ := bnd h
 refine go ?_;intros
 refine ao7 (c := cm7) ((⟨a0.b, x2.2⟩ : Rd), (x2.1.commits.length : Int), g0, g1) H_dz9 h10 fun ch => ?_
 obtain ⟨x11, h12, h⟩ := bnd h
 refine go ?_;intros
 refine ao7 (c := cm7) ((⟨a0.b, x9.2⟩ : Rd), 48, g0, g1) H_dz9 h12 fun ch => ?_
 obtain ⟨q13, h53, h⟩ := bnd h
 refine go ?_;intros
 refine dA7 (fun t o => ∃ b14 c15 b16 c17 b18 b19 c20 b21 c22 b23, Pin t (ovr [(0, .ptr 0 (bs 0).1 290 0 0), (2, .ptr 16 b18 210 0 0), (3, .ptr 24 b23 210 0 0), (4, .v (.int .i64 x9.1)), (13, .v (.int .i64 x11.1)), (14, .v (.bool (x11.1 == 0)))] t) ∧ e97 o (ovh [(0, ⟨(bs 0).1, (bs 0).2, 290, true, [[.rw g0 g1 (List.map eU8 a0.b), .v (.int .i64 x11.2)]]⟩), (1000256, ent b14 c15 115 (List.map (af7 true) [])), (1000257, ent b16 c17 130 (List.map az7 [])), (16, ⟨b18, 1, 210, true, [[.al 1000256 b14 c15 0 ([] : List Commit).length 115, .al 1000257 b16 c17 0 ([] : List Head).length 130]]⟩), (1000384, ent b19 c20 115 (List.map bi7 x2.1.commits)), (1000385, ent b21 c22 130 (List.map az7 x2.1.heads)), (24, ⟨b23, 1, 210, true, [[.al 1000384 b19 c20 0 x2.1.commits.length 115, .al 1000385 b21 c22 0 x2.1.heads.length 130]]⟩)] o)) ?_ ?_
 ·refine go ?_;intros
  cases h53
  exact dd7 ⟨_, _, _, _, _, _, _, _, _, _, pin, aJ7⟩
 rintro t o ⟨b14, c15, b16, c17, b18, b19, c20, b21, c22, b23, pq1, pq2⟩
 refine bz7 pq1 pq2 ?_
 refine go ?_;intros
 refine as7 rfl (fun c => ?_) (fun c => ?_)
 ·replace h := itt h c
  try rw [c]
  obtain ⟨x25, h26, h⟩ := bnd h
  refine go ?_;intros
  refine ao7 (c := mY7) ((⟨a0.b, x11.2⟩ : Rd), ([(-1), (x2.1.commits.length : Int)] : (List Int)), g0, g1) H_dx9 h26 fun ch => ?_
  obtain ⟨x27, h28, h⟩ := bnd h
  refine go ?_;intros
  refine eK7 (xs := x2.1.heads) rfl rfl h28 rfl ?_
  refine go ?_;intros
  refine cI7 (f := az7) x2.1.heads (⟨x27.name, x25.1⟩ : Head) (aF7 h28).2 ?_
  refine go ?_;intros
  cases h
  exact aY7
 replace h := itf h c
 try rw [c]
 refine go ?_;intros
 refine as7 rfl (fun c => ?_) (fun c => ?_)
 ·replace h := itt h c
  try rw [c]
  obtain ⟨x29, h30, h⟩ := bnd h
  refine go ?_;intros
  refine eK7 (xs := x2.1.commits) rfl rfl h30 rfl ?_
  refine go ?_;intros
  refine xr7 (f := bi7) (g := bo7) (xs := x2.1.commits) (x := x29) (ys := x29.up) (aF7 h30).2 rfl rfl rfl fun b31 c32 => ?_
  obtain ⟨h36, h⟩ := gd h
  refine go ?_;intros
  refine d37 (f := bo7) (xs := x29.up) (ys := ([x9.1] : (List Int))) rfl (eW7 rfl rfl (by first | rfl | simp)) rfl rfl (by first | rfl | simp) h36 fun b34 c35 => ?_
  refine go ?_;intros
  refine eK7 (xs := x2.1.commits) rfl rfl h30 rfl ?_
  refine go ?_;intros
  refine Nz7 (f := bi7) x2.1.commits (⟨(x29.up ++ ([x9.1] : (List Int))), x29.sheet, x29.note⟩ : Commit) (aF7 h30).2 ?_
  refine go ?_;intros
  cases h
  exact aY7
 replace h := itf h c
 try rw [c]
 refine go ?_;intros
 refine as7 rfl (fun c => ?_) (fun c => ?_)
 ·replace h := itt h c
  try rw [c]
  refine go ?_;intros
  refine du7 ?_
  obtain ⟨x37, h38, h⟩ := bnd h
  refine go ?_;intros
  refine ao7 (c := AH7) ((⟨a0.b, x11.2⟩ : Rd), g0, g1) H_et9 h38 fun ch => ?_
  refine go ?_;intros
  refine kO7 ?_
  obtain ⟨x41, h42, h⟩ := bnd h
  refine go ?_;intros
  refine eK7 (xs := x2.1.commits) rfl rfl h42 rfl ?_
  refine go ?_;intros
  refine cI7 (f := bi7) x2.1.commits (⟨x41.up, x37.1, x41.note⟩ : Commit) (aF7 h42).2 ?_
  refine go ?_;intros
  cases h
  exact aY7
 replace h := itf h c
 try rw [c]
 refine go ?_;intros
 refine as7 rfl (fun c => ?_) (fun c => ?_)
 ·replace h := itt h c
  try rw [c]
  obtain ⟨x43, h44, h⟩ := bnd h
  refine go ?_;intros
  refine eK7 (xs := x2.1.commits) rfl rfl h44 rfl ?_
  refine go ?_;intros
  refine cI7 (f := bi7) x2.1.commits (⟨x43.up, x43.sheet, (⟨#[]⟩ : Str)⟩ : Commit) (aF7 h44).2 ?_
  refine go ?_;intros
  cases h
  exact aY7
 replace h := itf h c
 try rw [c]
 refine go ?_;intros
 refine as7 rfl (fun c => ?_) (fun c => ?_)
 ·replace h := itt h c
  try rw [c]
  obtain ⟨x45, h46, h⟩ := bnd h
  refine go ?_;intros
  refine eK7 (xs := x2.1.heads) rfl rfl h46 rfl ?_
  refine go ?_;intros
  refine oL7 (f := az7) (xs := x2.1.heads) (x := x45) rfl rfl (aF7 h46).2 rfl rfl rfl ?_
  obtain ⟨h50, h⟩ := gd h
  refine go ?_;intros
  refine d37 (f := az7) (xs := x2.1.heads) (ys := ([x45] : (List Head))) rfl (eW7 rfl rfl (by first | rfl | simp)) rfl rfl (by first | rfl | simp) h50 fun b48 c49 => ?_
  refine go ?_;intros
  cases h
  exact aY7
 replace h := itf h c
 try rw [c]
 refine go ?_;intros
 refine as7 rfl (fun c => ?_) (fun c => ?_)
 ·replace h := itt h c
  try rw [c]
  obtain ⟨x51, h52, h⟩ := bnd h
  refine go ?_;intros
  refine eK7 (xs := x2.1.commits) rfl rfl h52 rfl ?_
  refine go ?_;intros
  refine cI7 (f := bi7) x2.1.commits (⟨[], x51.sheet, x51.note⟩ : Commit) (aF7 h52).2 ?_
  refine go ?_;intros
  cases h
  exact aY7
 replace h := itf h c
 try rw [c]
 refine go ?_;intros
 cases h
 exact aY7
theorem Qa7 : OkC [yg7, rc7] s07 L17 L27 := by
 refine ok fun G H ⟨a0, a1⟩ r h => ?_
 refine st1 fun bs t o => ?_
 dsimp only [kf7] at h
 exact cls
theorem Qb7 : OkC [] Fc7 L37 L47 := by
 refine ok fun G H ⟨a0, a1⟩ r h => ?_
 refine st1 fun bs t o => ?_
 dsimp only [uu7] at h
 try (refine gx ?_; intros; rename_i h)
 obtain ⟨hf, h⟩ := gd h
 obtain ⟨q14, hq, h⟩ := bnd h
 refine ae7 [] [] (fun K J t o => ∃ q14_, q14 = .inr q14_ ∧ PP K J t o) ?_ ?_
 ·have ho1 := h
  refine aQ7 (xs := a0) [0, 1, 12] [] 0 hf (fun K J l18 k16 t o => fR7 a1 l18 k16  = some q14 ∧ PP ((13, .v (.int .i64 (k16 : Int))) :: K) J t o) ?_ ?_ ?_
  ·exact ⟨hq, pin, aJ7⟩
  ·rintro k16 t o hlt ⟨h, pq⟩
   refine pn pq ?_
   rw [fR7] at h
   exact cls
  rintro x17 l18 k16 t o hlt hx22 hw hd ⟨h, pq⟩
  refine pn pq ?_
  rw [fR7] at h
  exact cls
 rintro t o ⟨q14, rfl, pq⟩
 refine pnq pq ?_
 exact cls
theorem Qc7 : OkC [yf7] Fd7 L57 L67 := by
 refine ok fun G H ⟨a0, a1⟩ r h => ?_
 have H_bw9 := H _ (.head _)
 replace H := mV7 0 H
 refine st1 fun bs t o => ?_
 dsimp only [uv7] at h
 try (refine gx ?_; intros; rename_i h)
 obtain ⟨hf, h⟩ := gd h
 obtain ⟨q26, hq, h⟩ := bnd h
 refine ae7 [] [] (fun K J t o => ∃ q26_, q26 = .inr q26_ ∧ PP K J t o) ?_ ?_
 ·have ho1 := h
  refine aQ7 (xs := a0) [1, 2, 15, 16] [] 0 hf (fun K J l30 k28 t o => fS7 a1 l30 k28  = some q26 ∧ PP ((17, .v (.int .i64 (k28 : Int))) :: K) J t o) ?_ ?_ ?_
  ·exact ⟨hq, pin, aJ7⟩
  ·rintro k28 t o hlt ⟨h, pq⟩
   refine pn pq ?_
   rw [fS7] at h
   exact cls
  rintro x29 l30 k28 t o hlt hx34 hw hd ⟨h, pq⟩
  refine pn pq ?_
  rw [fS7] at h
  refine gx fun x38 h39 => ?_; intros; rename_i h
  obtain ⟨x41, h42, h⟩ := bnd h
  refine bF7 (c := yf7) (x29, x38) H_bw9 h42 fun ch => ?_
  exact cls
 rintro t o ⟨q26, rfl, pq⟩
 refine pnq pq ?_
 exact cls
theorem Qd7 : OkC [Fd7, Fc7] s17 L77 L87 := by
 refine ok fun G H ⟨a0, a1⟩ r h => ?_
 refine st1 fun bs t o => ?_
 dsimp only [kg7] at h
 exact cls
theorem Qe7 : OkC [rc7, yh7, vN7] s27 L97 Ma7 := by
 refine ok fun G H ⟨a0, a1, a2⟩ r h => ?_
 refine st1 fun bs t o => ?_
 dsimp only [kh7] at h
 exact cls
theorem Qf7 : OkC [] Fe7 Mb7 Mc7 := by
 refine ok fun G H ⟨a0, a1⟩ r h => ?_
 refine st1 fun bs t o => ?_
 dsimp only [uw7] at h
 try (refine gx ?_; intros; rename_i h)
 obtain ⟨hf, h⟩ := gd h
 obtain ⟨q14, hq, h⟩ := bnd h
 refine ae7 [] [] (fun K J t o => ∃ q14_, q14 = .inr q14_ ∧ PP K J t o) ?_ ?_
 ·have ho1 := h
  refine aQ7 (xs := a0) [0, 1, 12] [] 0 hf (fun K J l18 k16 t o => fT7 a1 l18 k16  = some q14 ∧ PP ((13, .v (.int .i64 (k16 : Int))) :: K) J t o) ?_ ?_ ?_
  ·exact ⟨hq, pin, aJ7⟩
  ·rintro k16 t o hlt ⟨h, pq⟩
   refine pn pq ?_
   rw [fT7] at h
   exact cls
  rintro x17 l18 k16 t o hlt hx22 hw hd ⟨h, pq⟩
  refine pn pq ?_
  rw [fT7] at h
  exact cls
 rintro t o ⟨q14, rfl, pq⟩
 refine pnq pq ?_
 exact cls
theorem Qg7 : OkC [Fe7] AP7 Md7 Me7 := by
 refine ok fun G H ⟨a0, a1⟩ r h => ?_
 refine st1 fun bs t o => ?_
 dsimp only [rH7] at h
 exact cls
theorem Qh7 : OkC [Fa7, Fb7, yp7, lZ7] AQ7 Mf7 Mg7 := by
 refine ok fun G H ⟨a0, g0, g1⟩ r h => ?_
 refine st1 fun bs t o => ?_
 dsimp only [rI7] at h
 exact cls
theorem Qi7 : OkC [AQ7, AD7, AC7, s17, AP7, s07, yj7, yk7, rc7, ye7, s27] Mj7 Mh7 Mi7 := by
 refine ok fun G H ⟨a0, g0, g1⟩ r h => ?_
 have H_de9 := H _ (.head _)
 have H_ai9 := H _ (.tail _ (.head _))
 have H_di9 := H _ (.tail _ (.tail _ (.head _)))
 have H_ap9 := H _ (.tail _ (.tail _ (.tail _ (.head _))))
 have H_aa9 := H _ (.tail _ (.tail _ (.tail _ (.tail _ (.head _)))))
 have H_al9 := H _ (.tail _ (.tail _ (.tail _ (.tail _ (.tail _ (.head _))))))
 have H_ah9 := H _ (.tail _ (.tail _ (.tail _ (.tail _ (.tail _ (.tail _ (.head _)))))))
 have H_bb9 := H _ (.tail _ (.tail _ (.tail _ (.tail _ (.tail _ (.tail _ (.tail _ (.head _))))))))
 have H_ao9 := H _ (.tail _ (.tail _ (.tail _ (.tail _ (.tail _ (.tail _ (.tail _ (.tail _ (.head _)))))))))
 have H_bd9 := H _ (.tail _ (.tail _ (.tail _ (.tail _ (.tail _ (.tail _ (.tail _ (.tail _ (.tail _ (.head _))))))))))
 have H_ak9 := H _ (.tail _ (.tail _ (.tail _ (.tail _ (.tail _ (.tail _ (.tail _ (.tail _ (.tail _ (.tail _ (.head _)))))))))))
 refine st1 fun bs t o => ?_
 dsimp only [ux7] at h
 refine go ?_;intros
 refine as7 rfl (fun c => ?_) (fun c => ?_)
 ·replace h := itt h (by first | exact c | (have c2 := c; simp only [List.length_map] at c2; exact c2))
  try rw [c]
  refine go ?_;intros
  cases h
  exact aX7
 replace h := itf h (by first | exact c | (have c2 := c; simp only [List.length_map] at c2; exact c2))
 try rw [c]
 refine go ?_;intros
 refine du7 ?_
 obtain ⟨x1, h2, h⟩ := bnd h
 refine go ?_;intros
 refine an7 (c := AQ7) (a0, g0, g1) H_de9 h2 fun ch => ?_
 refine go ?_;intros
 refine kO7 ?_
 obtain ⟨q8, h97, h⟩ := bnd h
 refine go ?_;intros
 refine dA7 (fun t o => ∃ b19 b21 c22 b24 c25 b26 b28 c29, Pin t (ovr [(3, .ptr 24 b19 210 0 0), (4, .v (.string x1.2.1)), (5, .v (.string x1.2.2.1)), (6, .v (.string x1.2.2.2)), (7, .ptr 56 b26 210 0 0), (8, .ref 274 b28 c29 0 q8.2.2.2.length 178), (9, .v (.int .i64 q8.1))] t) ∧ e97 o (ovh [(24, ⟨b19, 1, 210, true, [[.sl false 3 (List.map (af7 false) x1.1.commits), .sl false 2 (List.map az7 x1.1.heads)]]⟩), (1000896, ent b21 c22 115 (List.map (af7 true) q8.2.1)), (1000897, ent b24 c25 130 (List.map az7 q8.2.2.1)), (56, ⟨b26, 1, 210, true, [[.al 1000896 b21 c22 0 q8.2.1.length 115, .al 1000897 b24 c25 0 q8.2.2.1.length 130]]⟩), (274, ent b28 c29 178 (List.map bc7 q8.2.2.2))] o)) ?_ ?_
 ·obtain ⟨x9, h10, h97⟩ := bnd h97
  refine go ?_;intros
  refine an7 (c := AD7) (x1.1, x1.2.1, x1.2.2.1, x1.2.2.2) H_ai9 h10 fun ch => ?_
  refine go ?_;intros
  cases h97
  exact dd7 ⟨_, _, _, _, _, _, _, _, pin, aJ7⟩
 rintro t o ⟨b19, b21, c22, b24, c25, b26, b28, c29, pq1, pq2⟩
 refine bz7 pq1 pq2 ?_
 obtain ⟨x30, h31, h⟩ := bnd h
 refine go ?_;intros
 refine an7 (c := AC7) (x1.1, x1.2.1, x1.2.2.1, x1.2.2.2) H_di9 h31 fun ch => ?_
 refine go ?_;intros
 refine aw7 rfl (fun c => ?_) (fun c => ?_)
 ·replace h := itt h c
  rw [c]
  refine go ?_;intros
  cases h
  exact aX7
 replace h := itf h c
 rw [c]
 obtain ⟨x39, h40, h⟩ := bnd h
 refine go ?_;intros
 refine an7 (c := s17) ((⟨q8.2.1, q8.2.2.1⟩ : am7), x30.1) H_ap9 h40 fun ch => ?_
 refine go ?_;intros
 refine aw7 rfl (fun c => ?_) (fun c => ?_)
 ·replace h := itt h c
  rw [c]
  refine go ?_;intros
  cases h
  exact aX7
 replace h := itf h c
 rw [c]
 obtain ⟨x41, h42, h⟩ := bnd h
 refine go ?_;intros
 refine an7 (c := AP7) (q8.2.2.2, x30.2.1) H_aa9 h42 fun ch => ?_
 refine go ?_;intros
 refine as7 rfl (fun c => ?_) (fun c => ?_)
 ·replace h := itt h c
  try rw [c]
  refine go ?_;intros
  cases h
  exact aX7
 replace h := itf h c
 try rw [c]
 refine go ?_;intros
 refine as7 rfl (fun c => ?_) (fun c => ?_)
 ·replace h := itt h c
  try rw [c]
  refine go ?_;intros
  cases h
  first | exact aX7 | (simp only [List.length_map]; exact aX7)
 replace h := itf h c
 try rw [c]
 obtain ⟨q43, h98, h⟩ := bnd h
 refine go ?_;intros
 refine dA7 (fun t o => ∃ b47 b48 c49 b50 c51 b52 b53 c54, Pin t (ovr [(3, .ptr 24 b47 210 0 0), (4, .v (.string x1.2.1)), (5, .v (.string x1.2.2.1)), (7, .ptr 56 b52 210 0 0), (8, .ref 274 b53 c54 0 q8.2.2.2.length 178), (9, .v (.int .i64 q8.1)), (13, .v (.int .i64 q43))] t) ∧ e97 o (ovh [(24, ⟨b47, 1, 210, true, [[.sl false 3 (List.map (af7 false) x1.1.commits), .sl false 2 (List.map az7 x1.1.heads)]]⟩), (1000896, ent b48 c49 115 (List.map (af7 true) q8.2.1)), (1000897, ent b50 c51 130 (List.map az7 q8.2.2.1)), (56, ⟨b52, 1, 210, true, [[.al 1000896 b48 c49 0 q8.2.1.length 115, .al 1000897 b50 c51 0 q8.2.2.1.length 130]]⟩), (274, ent b53 c54 178 (List.map bc7 q8.2.2.2))] o)) ?_ ?_
 ·obtain ⟨x44, h45, h98⟩ := bnd h98
  refine go ?_;intros
  refine an7 (c := s07) (x1.1, x1.2.1) H_al9 h45 fun ch => ?_
  refine go ?_;intros
  cases h98
  exact dd7 ⟨_, _, _, _, _, _, _, _, pin, aJ7⟩
 rintro t o ⟨b47, b48, c49, b50, c51, b52, b53, c54, pq1, pq2⟩
 refine bz7 pq1 pq2 ?_
 obtain ⟨x55, h56, h⟩ := bnd h
 refine go ?_;intros
 refine an7 (c := s07) (x1.1, x1.2.2.1) H_al9 h56 fun ch => ?_
 obtain ⟨x57, h58, h⟩ := bnd h
 refine go ?_;intros
 refine an7 (c := s07) ((⟨q8.2.1, q8.2.2.1⟩ : am7), x1.2.1) H_al9 h58 fun ch => ?_
 refine go ?_;intros
 refine as7 rfl (fun c => ?_) (fun c => ?_)
 ·replace h := itt h c
  try rw [c]
  obtain ⟨x59, h60, h⟩ := bnd h
  refine go ?_;intros
  refine an7 (c := yj7) (x1.1, q43, x55) H_ah9 h60 fun ch => ?_
  obtain ⟨x61, h62, h⟩ := bnd h
  refine go ?_;intros
  refine dp7 rfl rfl h62 rfl ?_
  obtain ⟨x63, h64, h⟩ := bnd h
  refine go ?_;intros
  refine dp7 rfl rfl h64 rfl ?_
  obtain ⟨x65, h66, h⟩ := bnd h
  refine go ?_;intros
  refine dp7 rfl rfl h66 rfl ?_
  obtain ⟨x67, h68, h⟩ := bnd h
  refine go ?_;intros
  refine an7 (c := yk7) (x61.sheet, x63.sheet, x65.sheet) H_bb9 h68 fun ch => ?_
  refine go ?_;intros
  refine aw7 rfl (fun c => ?_) (fun c => ?_)
  ·replace h := itt h c
   rw [c]
   refine go ?_;intros
   refine aw7 rfl (fun c => ?_) (fun c => ?_)
   ·replace h := itt h (by first | exact c | (have c2 := c; simp only [List.length_map] at c2; exact c2))
    rw [c]
    refine go ?_;intros
    refine aw7 rfl (fun c => ?_) (fun c => ?_)
    ·replace h := itt h (by first | exact c | (have c2 := c; simp only [List.length_map] at c2; exact c2))
     rw [c]
     obtain ⟨x73, h74, h⟩ := bnd h
     refine go ?_;intros
     refine an7 (c := rc7) ((⟨q8.2.1, q8.2.2.1⟩ : am7)) H_ao9 h74 fun ch => ?_
     refine go ?_;intros
     refine aw7 rfl (fun c => ?_) (fun c => ?_)
     ·replace h := itt h c
      rw [c]
      obtain ⟨x75, h76, h⟩ := bnd h
      refine go ?_;intros
      refine eK7 (xs := q8.2.1) rfl rfl h76 rfl ?_
      refine go ?_;intros
      refine xr7 (f := (af7 true)) (g := (ak7 true)) (xs := q8.2.1) (x := x75) (ys := x75.sheet) (aF7 h76).2 rfl rfl rfl fun b77 c78 => ?_
      refine go ?_;intros
      refine xq7 ?_
      obtain ⟨x79, h80, h⟩ := bnd h
      refine go ?_;intros
      refine an7 (c := ye7) (x75.sheet, x67.1) H_bd9 h80 fun ch => ?_
      refine go ?_;intros
      refine Cf7 (f := (af7 true)) (aF7 h76).2 ?_
      refine go ?_;intros
      refine aw7 rfl (fun c => ?_) (fun c => ?_)
      ·replace h := itt h c
       rw [c]
       obtain ⟨x81, h82, h⟩ := bnd h
       refine go ?_;intros
       refine an7 (c := s27) ((⟨q8.2.1, q8.2.2.1⟩ : am7), q43, x57) H_ak9 h82 fun ch => ?_
       refine go ?_;intros
       refine aw7 rfl (fun c => ?_) (fun c => ?_)
       ·replace h := itt h c
        rw [c]
        obtain ⟨x83, h84, h⟩ := bnd h
        refine go ?_;intros
        refine an7 (c := s27) ((⟨q8.2.1, q8.2.2.1⟩ : am7), x55, x57) H_ak9 h84 fun ch => ?_
        refine go ?_;intros
        refine aw7 rfl (fun c => ?_) (fun c => ?_)
        ·replace h := itt h c
         rw [c]
         refine go ?_;intros
         refine aw7 rfl (fun c => ?_) (fun c => ?_)
         ·replace h := itt h (by first | exact c | (have c2 := c; simp only [List.length_map] at c2; exact c2))
          rw [c]
          obtain ⟨x85, h86, h⟩ := bnd h
          refine go ?_;intros
          refine an7 (c := s07) ((⟨q8.2.1, q8.2.2.1⟩ : am7), x1.2.2.1) H_al9 h86 fun ch => ?_
          refine go ?_;intros
          cases h
          exact aX7
         replace h := itf h (by first | exact c | (have c2 := c; simp only [List.length_map] at c2; exact c2))
         rw [c]
         refine go ?_;intros
         cases h
         exact aX7
        replace h := itf h c
        rw [c]
        refine go ?_;intros
        cases h
        exact aX7
       replace h := itf h c
       rw [c]
       refine go ?_;intros
       cases h
       exact aX7
      replace h := itf h c
      rw [c]
      refine go ?_;intros
      cases h
      exact aX7
     replace h := itf h c
     rw [c]
     refine go ?_;intros
     cases h
     exact aX7
    replace h := itf h (by first | exact c | (have c2 := c; simp only [List.length_map] at c2; exact c2))
    rw [c]
    refine go ?_;intros
    cases h
    exact aX7
   replace h := itf h (by first | exact c | (have c2 := c; simp only [List.length_map] at c2; exact c2))
   rw [c]
   refine go ?_;intros
   cases h
   exact aX7
  replace h := itf h c
  rw [c]
  refine go ?_;intros
  cases h
  exact aX7
 replace h := itf h c
 try rw [c]
 refine go ?_;intros
 refine as7 rfl (fun c => ?_) (fun c => ?_)
 ·replace h := itt h c
  try rw [c]
  refine go ?_;intros
  refine aw7 rfl (fun c => ?_) (fun c => ?_)
  ·replace h := itt h c
   rw [c]
   obtain ⟨x87, h88, h⟩ := bnd h
   refine go ?_;intros
   refine an7 (c := s27) (x1.1, q43, x55) H_ak9 h88 fun ch => ?_
   refine go ?_;intros
   refine aw7 rfl (fun c => ?_) (fun c => ?_)
   ·replace h := itt h c
    rw [c]
    refine go ?_;intros
    refine aw7 rfl (fun c => ?_) (fun c => ?_)
    ·replace h := itt h c
     rw [c]
     refine go ?_;intros
     cases h
     first | exact aX7 | (simp only [List.length_map]; exact aX7)
    replace h := itf h c
    rw [c]
    refine go ?_;intros
    cases h
    exact aX7
   replace h := itf h c
   rw [c]
   refine go ?_;intros
   cases h
   exact aX7
  replace h := itf h c
  rw [c]
  refine go ?_;intros
  cases h
  exact aX7
 replace h := itf h c
 try rw [c]
 refine go ?_;intros
 refine as7 rfl (fun c => ?_) (fun c => ?_)
 ·replace h := itt h c
  try rw [c]
  obtain ⟨x89, h90, h⟩ := bnd h
  refine go ?_;intros
  refine an7 (c := s27) (x1.1, x55, q43) H_ak9 h90 fun ch => ?_
  refine go ?_;intros
  refine aw7 rfl (fun c => ?_) (fun c => ?_)
  ·replace h := itt h c
   rw [c]
   obtain ⟨x91, h92, h⟩ := bnd h
   refine go ?_;intros
   refine an7 (c := s17) ((⟨q8.2.1, q8.2.2.1⟩ : am7), x1.1) H_ap9 h92 fun ch => ?_
   refine go ?_;intros
   cases h
   exact aX7
  replace h := itf h c
  rw [c]
  refine go ?_;intros
  cases h
  exact aX7
 replace h := itf h c
 try rw [c]
 refine go ?_;intros
 refine as7 rfl (fun c => ?_) (fun c => ?_)
 ·replace h := itt h c
  try rw [c]
  refine go ?_;intros
  refine aw7 rfl (fun c => ?_) (fun c => ?_)
  ·replace h := itt h (by first | exact c | (have c2 := c; simp only [List.length_map] at c2; exact c2))
   rw [c]
   obtain ⟨x93, h94, h⟩ := bnd h
   refine go ?_;intros
   refine an7 (c := s17) ((⟨q8.2.1, q8.2.2.1⟩ : am7), x1.1) H_ap9 h94 fun ch => ?_
   refine go ?_;intros
   cases h
   exact aX7
  replace h := itf h (by first | exact c | (have c2 := c; simp only [List.length_map] at c2; exact c2))
  rw [c]
  refine go ?_;intros
  cases h
  exact aX7
 replace h := itf h c
 try rw [c]
 obtain ⟨x95, h96, h⟩ := bnd h
 refine go ?_;intros
 refine an7 (c := s17) ((⟨q8.2.1, q8.2.2.1⟩ : am7), x1.1) H_ap9 h96 fun ch => ?_
 refine go ?_;intros
 cases h
 exact aX7
end Go.Proofs.AM
