/- Lemmas of the proof (UTF10), on an abstract machine. Conditions: none. -/
import Derived.Test.YtnnfdbdheoajgaaGreatUTD
set_option linter.unusedVariables false
set_option linter.unusedSimpArgs false
set_option maxRecDepth 100000
set_option maxHeartbeats 4000000
namespace Go.Proofs.AM
attribute [local irreducible] vwp c27 bH7 f37 vdo jL7 na7 j57 f47 mn7 lg7 bO7 e17 kj7 fd7 j47 mc7 mb7
theorem Pw7 : OkC [ms7] Av7 Lp7 Lq7 := by
 refine ok fun G H ⟨a0, g0, g1⟩ r h => ?_
 refine st1 fun bs t o => ?_
 dsimp only [rc7] at h
 exact cls
theorem Px7 : OkC [Ar7, vv7, cg7, Aq7, Au7, Av7, xN7, z67] xY7 Lr7 Ls7 := by
 refine ok fun G H ⟨a0, a1, g0, g1, g2, g3, g4, g5⟩ r h => ?_
 have H_fn9 := H _ (.head _)
 have H_fj9 := H _ (.tail _ (.head _))
 have H_dn9 := H _ (.tail _ (.tail _ (.head _)))
 have H_da9 := H _ (.tail _ (.tail _ (.tail _ (.head _))))
 have H_eq9 := H _ (.tail _ (.tail _ (.tail _ (.tail _ (.head _)))))
 have H_fo9 := H _ (.tail _ (.tail _ (.tail _ (.tail _ (.tail _ (.head _))))))
 have H_fg9 := H _ (.tail _ (.tail _ (.tail _ (.tail _ (.tail _ (.tail _ (.head _)))))))
 have H_fe9 := H _ (.tail _ (.tail _ (.tail _ (.tail _ (.tail _ (.tail _ (.tail _ (.head _))))))))
 refine st1 fun bs t o => ?_
 dsimp only [rd7] at h
 obtain ⟨x3, h4, h⟩ := bnd h
 refine go ?_;intros
 refine al7 (c := Ar7) (a0, g0, g1) H_fn9 h4 fun ch => ?_
 obtain ⟨x5, h6, h⟩ := bnd h
 refine go ?_;intros
 refine az7 (c := vv7) (a1, x3.1) H_fj9 h6 fun ch => ?_
 refine go ?_;intros
 refine au7 rfl (fun c => ?_) (fun c => ?_)
 ·replace h := itt h c
  try rw [c]
  obtain ⟨x7, h8, h⟩ := bnd h
  refine go ?_;intros
  refine al7 (c := cg7) ((⟨a0.b, x3.2⟩ : Rd), (a1.heads.length : Int), g0, g1) H_dn9 h8 fun ch => ?_
  obtain ⟨x9, h10, h⟩ := bnd h
  refine go ?_;intros
  refine f57 rfl rfl h10 rfl ?_
  obtain ⟨x11, h12, h⟩ := bnd h
  refine go ?_;intros
  refine az7 (c := Aq7) (a1, x3.1, x9.name) H_da9 h12 fun ch => ?_
  refine go ?_;intros
  refine au7 rfl (fun c => ?_) (fun c => ?_)
  ·replace h := itt h (by first | exact c | (have c2 := c; simp only [List.length_map] at c2; exact c2))
   try rw [c]
   refine go ?_;intros
   cases h
   exact aV7
  replace h := itf h (by first | exact c | (have c2 := c; simp only [List.length_map] at c2; exact c2))
  try rw [c]
  refine go ?_;intros
  refine Gr7 rfl rfl rfl rfl ?_
  refine go ?_;intros
  cases h
  exact aV7
 replace h := itf h c
 try rw [c]
 obtain ⟨x18, h19, h⟩ := bnd h
 refine go ?_;intros
 refine f57 rfl rfl h19 rfl ?_
 obtain ⟨q20, h75, h⟩ := bnd h
 refine go ?_;intros
 refine dv7 (fun t o => ∃ b30 b31 c32 b33 c34 b35 b36 c37 b40, Pin t (ovr [(0, .ptr 0 (bs 0).1 290 0 0), (3, .ptr 24 b30 210 0 0), (4, .ptr 32 b35 210 0 0), (6, .v (.int .i64 x5)), (9, .v (.int .i64 x18.at_)), (10, .ptr 80 b40 115 0 0)] t) ∧ eY7 o (ovh [(0, ⟨(bs 0).1, (bs 0).2, 290, true, [[.rw g0 g1 (List.map eU8 a0.b), .v (.int .i64 q20.1)]]⟩), (24, ⟨b30, 1, 210, true, [[.rw g2 g3 (List.map (am7 false) a1.commits), .rw g4 g5 (List.map aW7 a1.heads)]]⟩), (1000512, ent b31 c32 115 (List.map (am7 true) [])), (1000513, ent b33 c34 130 (List.map aW7 [])), (32, ⟨b35, 1, 210, true, [[.al 1000512 b31 c32 0 ([] : List Commit).length 115, .al 1000513 b33 c34 0 ([] : List Head).length 130]]⟩), (1001280, ent b36 c37 17 (List.map bz7 [x18.at_])), (80, ⟨b40, 1, 115, true, [[.al 1001280 b36 c37 0 [x18.at_].length 17, .sl false 4 (List.map (aj7 false) q20.2.1), .v (.string q20.2.2)]]⟩)] o)) ?_ ?_
 ·obtain ⟨x22, h23, h75⟩ := bnd h75
  refine go ?_;intros
  refine f57 rfl rfl h23 rfl ?_
  obtain ⟨x24, h25, h75⟩ := bnd h75
  refine go ?_;intros
  refine al7 (c := Au7) ((⟨a0.b, x3.2⟩ : Rd), x22.sheet, g0, g1) H_eq9 h25 fun ch => ?_
  obtain ⟨x26, h27, h75⟩ := bnd h75
  refine go ?_;intros
  refine al7 (c := Av7) ((⟨a0.b, x24.2⟩ : Rd), g0, g1) H_fo9 h27 fun ch => ?_
  refine go ?_;intros
  cases h75
  exact cL7 ⟨_, _, _, _, _, _, _, _, _, pin, aE7⟩
 rintro t o ⟨b30, b31, c32, b33, c34, b35, b36, c37, b40, pq1, pq2⟩
 refine bA7 pq1 pq2 ?_
 obtain ⟨x41, h42, h⟩ := bnd h
 refine go ?_;intros
 refine al7 (c := cg7) ((⟨a0.b, q20.1⟩ : Rd), (a1.heads.length : Int), g0, g1) H_dn9 h42 fun ch => ?_
 obtain ⟨x43, h44, h⟩ := bnd h
 refine go ?_;intros
 refine f57 rfl rfl h44 rfl ?_
 obtain ⟨q48, h76, h⟩ := bnd h
 refine go ?_;intros
 refine dv7 (fun t o => ∃ b52 b53 c54 b55 c56 b57 b59 c60 b61, Pin t (ovr [(3, .ptr 24 b52 210 0 0), (4, .ptr 32 b57 210 0 0), (6, .v (.int .i64 x5)), (10, .ptr 80 b61 115 0 0)] t) ∧ eY7 o (ovh [(24, ⟨b52, 1, 210, true, [[.rw g2 g3 (List.map (am7 false) a1.commits), .rw g4 g5 (List.map aW7 a1.heads)]]⟩), (1000512, ent b53 c54 115 (List.map (am7 true) [])), (1000513, ent b55 c56 130 (List.map aW7 [])), (32, ⟨b57, 1, 210, true, [[.al 1000512 b53 c54 0 ([] : List Commit).length 115, .al 1000513 b55 c56 0 ([] : List Head).length 130]]⟩), (1001280, ent b59 c60 17 (List.map bz7 q48.1)), (80, ⟨b61, 1, 115, true, [[.al 1001280 b59 c60 0 q48.1.length 17, .sl false 4 (List.map (aj7 false) q20.2.1), .v (.string q20.2.2)]]⟩), (0, ⟨(bs 0).1, (bs 0).2, 290, true, [[.rw g0 g1 (List.map eU8 a0.b), .v (.int .i64 q48.2)]]⟩)] o)) ?_ ?_
 ·refine go ?_;intros
  refine aG7 rfl (fun c => ?_) (fun c => ?_)
  ·replace h76 := itt h76 c
   rw [c]
   obtain ⟨x49, h50, h76⟩ := bnd h76
   refine go ?_;intros
   refine al7 (c := cg7) ((⟨a0.b, x41.2⟩ : Rd), 4, g0, g1) H_dn9 h50 fun ch => ?_
   refine go ?_;intros
   refine au7 rfl (fun c => ?_) (fun c => ?_)
   ·replace h76 := itt h76 c
    try rw [c]
    refine go ?_;intros
    cases h76
    exact cL7 ⟨_, _, _, _, _, _, _, _, _, pin, aE7⟩
   replace h76 := itf h76 c
   try rw [c]
   refine go ?_;intros
   cases h76
   exact cL7 ⟨_, _, _, _, _, _, _, _, _, pin, aE7⟩
  replace h76 := itf h76 c
  rw [c]
  refine go ?_;intros
  cases h76
  exact cL7 ⟨_, _, _, _, _, _, _, _, _, pin, aE7⟩
 rintro t o ⟨b52, b53, c54, b55, c56, b57, b59, c60, b61, pq1, pq2⟩
 refine bA7 pq1 pq2 ?_
 refine go ?_;intros
 refine au7 rfl (fun c => ?_) (fun c => ?_)
 ·replace h := itt h (by first | exact c | (have c2 := c; simp only [List.length_map] at c2; exact c2))
  try rw [c]
  refine go ?_;intros
  refine Gr7 rfl rfl rfl rfl ?_
  refine go ?_;intros
  cases h
  exact aV7
 replace h := itf h (by first | exact c | (have c2 := c; simp only [List.length_map] at c2; exact c2))
 try rw [c]
 obtain ⟨x63, h64, h⟩ := bnd h
 refine go ?_;intros
 refine az7 (c := xN7) (a1) H_fg9 h64 fun ch => ?_
 obtain ⟨x69, h70, h⟩ := bnd h
 refine go ?_;intros
 refine al7 (c := z67) (x63, x5, (⟨q48.1, q20.2.1, q20.2.2⟩ : Commit)) H_fe9 h70 fun ch => ?_
 refine go ?_;intros
 cases h
 exact aV7
theorem Py7 : OkC [Ap7, vB7, cg7, xY7] Aw7 Lt7 Lu7 := by
 refine ok fun G H ⟨a0, g0, g1⟩ r h => ?_
 have H_db9 := H _ (.head _)
 have H_en9 := H _ (.tail _ (.head _))
 have H_dn9 := H _ (.tail _ (.tail _ (.head _)))
 have H_fi9 := H _ (.tail _ (.tail _ (.tail _ (.head _))))
 refine st1 fun bs t o => ?_
 dsimp only [re7] at h
 obtain ⟨x2, h3, h⟩ := bnd h
 refine go ?_;intros
 refine az7 (c := Ap7) ((⟨#[109, 97, 105, 110]⟩ : Str)) H_db9 h3 fun ch => ?_
 refine go ?_;intros
 refine C37 ?_
 refine go ?_;intros
 refine L57 (f := (am7 true)) (g := bg7) (ld7 _) rfl rfl ?_
 refine go ?_;intros
 refine dn7 ?_
 obtain ⟨x9, h10, h⟩ := bnd h
 refine go ?_;intros
 refine al7 (c := vB7) (a0, g0, g1) H_en9 h10 fun ch => ?_
 refine go ?_;intros
 refine ko7 ?_
 obtain ⟨x13, h14, h⟩ := bnd h
 refine go ?_;intros
 refine gk7 (xs := x2.1.commits) rfl rfl h14 rfl ?_
 refine go ?_;intros
 refine dY7 (f := bg7) x2.1.commits (⟨x13.up, x9.1, x13.note⟩ : Commit) (a17 h14).2 ?_
 obtain ⟨x15, h16, h⟩ := bnd h
 refine go ?_;intros
 refine al7 (c := cg7) ((⟨a0.b, x9.2⟩ : Rd), 7, g0, g1) H_dn9 h16 fun ch => ?_
 obtain ⟨q56, h94, h⟩ := bnd h
 refine go ?_;intros
 refine lh7 (fun t o => ∃ b78 c79 b80 c81 b82 b84 c85 b87 c88 b89, Pin t (ovr [(0, .ptr 0 (bs 0).1 290 0 0), (2, .ptr 16 b82 210 0 0), (3, .ptr 24 b89 210 0 0)] t) ∧ eY7 o (ovh [(0, ⟨(bs 0).1, (bs 0).2, 290, true, [[.rw g0 g1 (List.map eU8 a0.b), .v (.int .i64 q56.1)]]⟩), (1000256, ent b78 c79 115 (List.map (am7 true) [])), (1000257, ent b80 c81 130 (List.map aW7 [])), (16, ⟨b82, 1, 210, true, [[.al 1000256 b78 c79 0 ([] : List Commit).length 115, .al 1000257 b80 c81 0 ([] : List Head).length 130]]⟩), (1000384, ent b84 c85 115 (List.map bg7 q56.2.1)), (1000385, ent b87 c88 130 (List.map aW7 q56.2.2)), (24, ⟨b89, 1, 210, true, [[.al 1000384 b84 c85 0 q56.2.1.length 115, .al 1000385 b87 c88 0 q56.2.2.length 130]]⟩)] o)) ?_ ?_
 ·refine fe7 (fun n t o => ∃ n71 v57 v58 v64 v67 b59 c60 b61 c62 b63 b65 c66 b68 c69 b70, dG7 a0 n71 v57 v58 v64 v67 = some q56 ∧ n71 = n ∧ Pin t (ovr [(0, .ptr 0 (bs 0).1 290 0 0), (2, .ptr 16 b63 210 0 0), (3, .ptr 24 b70 210 0 0), (5, .v (.int .i64 v57))] t) ∧ eY7 o (ovh [(0, ⟨(bs 0).1, (bs 0).2, 290, true, [[.rw g0 g1 (List.map eU8 a0.b), .v (.int .i64 v58)]]⟩), (1000256, ent b59 c60 115 (List.map (am7 true) [])), (1000257, ent b61 c62 130 (List.map aW7 [])), (16, ⟨b63, 1, 210, true, [[.al 1000256 b59 c60 0 ([] : List Commit).length 115, .al 1000257 b61 c62 0 ([] : List Head).length 130]]⟩), (1000384, ent b65 c66 115 (List.map bg7 v64)), (1000385, ent b68 c69 130 (List.map aW7 v67)), (24, ⟨b70, 1, 210, true, [[.al 1000384 b65 c66 0 v64.length 115, .al 1000385 b68 c69 0 v67.length 130]]⟩)] o)) _ ⟨_, _, _, _, _, _, _, _, _, _, _, _, _, _, _, h94, rfl, pin, aE7⟩ ?_
  rintro n t o ⟨n71, v57, v58, v64, v67, b59, c60, b61, c62, b63, b65, c66, b68, c69, b70, h94, rfl, pq1, pq2⟩
  refine bA7 pq1 pq2 ?_
  cases n71 with
  | zero => rw [dG7] at h94; cases h94
  | succ n71 =>
   rw [dG7] at h94
   refine go ?_;intros
   refine au7 rfl (fun c => ?_) (fun c => ?_)
   ·replace h94 := itt h94 c
    try rw [c]
    refine go ?_;intros
    refine GC7 ?_
    refine go ?_;intros
    refine QF7 rfl rfl ?_
    refine go ?_;intros
    refine C37 ?_
    refine go ?_;intros
    refine M17 ?_
    obtain ⟨x72, h73, h94⟩ := bnd h94
    rcases x72 with ⟨_ | y74, p75⟩
    ·dsimp only at h94
     refine go ?_;intros
     refine al7 (c := xY7) ((⟨a0.b, v58⟩ : Rd), (⟨v64, v67⟩ : aF7), g0, g1, (uM7 b65), c66, (uM7 b68), c69) H_fi9 h73 fun ch76 => ?_
     refine go ?_;intros
     refine P97 rfl (BN7 rfl rfl (by first | rfl | simp) (BN7 rfl rfl (by first | rfl | simp) BL7)) ?_
     refine go ?_;intros
     refine L57 (f := bg7) (g := bg7) (nc7 _) rfl rfl ?_
     refine go ?_;intros
     exact gl7 _ (Nat.lt_succ_self _) ⟨_, _, _, _, _, _, _, _, _, _, _, _, _, _, _, h94, rfl, pin, aE7⟩
    dsimp only at h94
    refine go ?_;intros
    refine al7 (c := xY7) ((⟨a0.b, v58⟩ : Rd), (⟨v64, v67⟩ : aF7), g0, g1, (uM7 b65), c66, (uM7 b68), c69) H_fi9 h73 fun ch76 => ?_
    refine go ?_;intros
    refine P97 rfl (BM7 (BM7 BL7)) ?_
    refine go ?_;intros
    refine L57 (f := (am7 true)) (g := bg7) (ld7 _) rfl rfl ?_
    refine go ?_;intros
    exact gl7 _ (Nat.lt_succ_self _) ⟨_, _, _, _, _, _, _, _, _, _, _, _, _, _, _, h94, rfl, pin, aE7⟩
   replace h94 := itf h94 c
   try rw [c]
   refine go ?_;intros
   cases h94
   exact cL7 ⟨_, _, _, _, _, _, _, _, _, _, pin, aE7⟩
 rintro t o ⟨b78, c79, b80, c81, b82, b84, c85, b87, c88, b89, pq1, pq2⟩
 refine hA7 pq1 pq2 ?_
 obtain ⟨x90, h91, h⟩ := bnd h
 refine go ?_;intros
 refine al7 (c := cg7) ((⟨a0.b, q56.1⟩ : Rd), 4, g0, g1) H_dn9 h91 fun ch => ?_
 refine go ?_;intros
 refine aG7 rfl (fun c => ?_) (fun c => ?_)
 ·replace h := itt h c
  rw [c]
  refine go ?_;intros
  refine au7 rfl (fun c => ?_) (fun c => ?_)
  ·replace h := itt h (by first | exact c | (have c2 := c; simp only [List.length_map] at c2; exact c2))
   try rw [c]
   refine go ?_;intros
   refine C47 ?_
   obtain ⟨x92, h93, h⟩ := bnd h
   refine go ?_;intros
   refine GD7 (xs := q56.2.2) h93 rfl rfl rfl rfl (by first | rfl | simp) ?_
   refine go ?_;intros
   refine P87 (f := aW7) h93 rfl rfl rfl ?_
   refine go ?_;intros
   cases h
   exact aV7
  replace h := itf h (by first | exact c | (have c2 := c; simp only [List.length_map] at c2; exact c2))
  try rw [c]
  refine go ?_;intros
  cases h
  exact aV7
 replace h := itf h c
 rw [c]
 refine go ?_;intros
 cases h
 exact aV7
theorem Pz7 : OkC [Aw7, cg7, mt7, Ao7] EN7 Lv7 Lw7 := by
 refine ok fun G H ⟨a0, g0, g1⟩ r h => ?_
 have H_fr9 := H _ (.head _)
 have H_dn9 := H _ (.tail _ (.head _))
 have H_dl9 := H _ (.tail _ (.tail _ (.head _)))
 have H_eh9 := H _ (.tail _ (.tail _ (.tail _ (.head _))))
 refine st1 fun bs t o => ?_
 dsimp only [rf7] at h
 obtain ⟨x2, h3, h⟩ := bnd h
 refine go ?_;intros
 refine al7 (c := Aw7) (a0, g0, g1) H_fr9 h3 fun ch => ?_
 obtain ⟨x9, h10, h⟩ := bnd h
 refine go ?_;intros
 refine al7 (c := cg7) ((⟨a0.b, x2.2⟩ : Rd), (x2.1.commits.length : Int), g0, g1) H_dn9 h10 fun ch => ?_
 obtain ⟨x11, h12, h⟩ := bnd h
 refine go ?_;intros
 refine al7 (c := cg7) ((⟨a0.b, x9.2⟩ : Rd), 48, g0, g1) H_dn9 h12 fun ch => ?_
 obtain ⟨q13, h53, h⟩ := bnd h
 refine go ?_;intros
 refine dv7 (fun t o => ∃ b14 c15 b16 c17 b18 b19 c20 b21 c22 b23, Pin t (ovr [(0, .ptr 0 (bs 0).1 290 0 0), (2, .ptr 16 b18 210 0 0), (3, .ptr 24 b23 210 0 0), (4, .v (.int .i64 x9.1)), (13, .v (.int .i64 x11.1)), (14, .v (.bool (x11.1 == 0)))] t) ∧ eY7 o (ovh [(0, ⟨(bs 0).1, (bs 0).2, 290, true, [[.rw g0 g1 (List.map eU8 a0.b), .v (.int .i64 x11.2)]]⟩), (1000256, ent b14 c15 115 (List.map (am7 true) [])), (1000257, ent b16 c17 130 (List.map aW7 [])), (16, ⟨b18, 1, 210, true, [[.al 1000256 b14 c15 0 ([] : List Commit).length 115, .al 1000257 b16 c17 0 ([] : List Head).length 130]]⟩), (1000384, ent b19 c20 115 (List.map bg7 x2.1.commits)), (1000385, ent b21 c22 130 (List.map aW7 x2.1.heads)), (24, ⟨b23, 1, 210, true, [[.al 1000384 b19 c20 0 x2.1.commits.length 115, .al 1000385 b21 c22 0 x2.1.heads.length 130]]⟩)] o)) ?_ ?_
 ·refine go ?_;intros
  cases h53
  exact cL7 ⟨_, _, _, _, _, _, _, _, _, _, pin, aE7⟩
 rintro t o ⟨b14, c15, b16, c17, b18, b19, c20, b21, c22, b23, pq1, pq2⟩
 refine bA7 pq1 pq2 ?_
 refine go ?_;intros
 refine au7 rfl (fun c => ?_) (fun c => ?_)
 ·replace h := itt h c
  try rw [c]
  obtain ⟨x25, h26, h⟩ := bnd h
  refine go ?_;intros
  refine al7 (c := mt7) ((⟨a0.b, x11.2⟩ : Rd), ([(-1), (x2.1.commits.length : Int)] : (List Int)), g0, g1) H_dl9 h26 fun ch => ?_
  obtain ⟨x27, h28, h⟩ := bnd h
  refine go ?_;intros
  refine gk7 (xs := x2.1.heads) rfl rfl h28 rfl ?_
  refine go ?_;intros
  refine dY7 (f := aW7) x2.1.heads (⟨x27.name, x25.1⟩ : Head) (a17 h28).2 ?_
  refine go ?_;intros
  cases h
  exact aV7
 replace h := itf h c
 try rw [c]
 refine go ?_;intros
 refine au7 rfl (fun c => ?_) (fun c => ?_)
 ·replace h := itt h c
  try rw [c]
  obtain ⟨x29, h30, h⟩ := bnd h
  refine go ?_;intros
  refine gk7 (xs := x2.1.commits) rfl rfl h30 rfl ?_
  refine go ?_;intros
  refine GF7 (f := bg7) (g := bz7) (xs := x2.1.commits) (x := x29) (ys := x29.up) (a17 h30).2 rfl rfl rfl fun b31 c32 => ?_
  obtain ⟨h36, h⟩ := gd h
  refine go ?_;intros
  refine dX7 (f := bz7) (xs := x29.up) (ys := ([x9.1] : (List Int))) rfl (eN7 rfl rfl (by first | rfl | simp)) rfl rfl (by first | rfl | simp) h36 fun b34 c35 => ?_
  refine go ?_;intros
  refine gk7 (xs := x2.1.commits) rfl rfl h30 rfl ?_
  refine go ?_;intros
  refine M77 (f := bg7) x2.1.commits (⟨(x29.up ++ ([x9.1] : (List Int))), x29.sheet, x29.note⟩ : Commit) (a17 h30).2 ?_
  refine go ?_;intros
  cases h
  exact aV7
 replace h := itf h c
 try rw [c]
 refine go ?_;intros
 refine au7 rfl (fun c => ?_) (fun c => ?_)
 ·replace h := itt h c
  try rw [c]
  refine go ?_;intros
  refine dn7 ?_
  obtain ⟨x37, h38, h⟩ := bnd h
  refine go ?_;intros
  refine al7 (c := Ao7) ((⟨a0.b, x11.2⟩ : Rd), g0, g1) H_eh9 h38 fun ch => ?_
  refine go ?_;intros
  refine ko7 ?_
  obtain ⟨x41, h42, h⟩ := bnd h
  refine go ?_;intros
  refine gk7 (xs := x2.1.commits) rfl rfl h42 rfl ?_
  refine go ?_;intros
  refine dY7 (f := bg7) x2.1.commits (⟨x41.up, x37.1, x41.note⟩ : Commit) (a17 h42).2 ?_
  refine go ?_;intros
  cases h
  exact aV7
 replace h := itf h c
 try rw [c]
 refine go ?_;intros
 refine au7 rfl (fun c => ?_) (fun c => ?_)
 ·replace h := itt h c
  try rw [c]
  obtain ⟨x43, h44, h⟩ := bnd h
  refine go ?_;intros
  refine gk7 (xs := x2.1.commits) rfl rfl h44 rfl ?_
  refine go ?_;intros
  refine dY7 (f := bg7) x2.1.commits (⟨x43.up, x43.sheet, (⟨#[]⟩ : Str)⟩ : Commit) (a17 h44).2 ?_
  refine go ?_;intros
  cases h
  exact aV7
 replace h := itf h c
 try rw [c]
 refine go ?_;intros
 refine au7 rfl (fun c => ?_) (fun c => ?_)
 ·replace h := itt h c
  try rw [c]
  obtain ⟨x45, h46, h⟩ := bnd h
  refine go ?_;intros
  refine gk7 (xs := x2.1.heads) rfl rfl h46 rfl ?_
  refine go ?_;intros
  refine oi7 (f := aW7) (xs := x2.1.heads) (x := x45) rfl rfl (a17 h46).2 rfl rfl rfl ?_
  obtain ⟨h50, h⟩ := gd h
  refine go ?_;intros
  refine dX7 (f := aW7) (xs := x2.1.heads) (ys := ([x45] : (List Head))) rfl (eN7 rfl rfl (by first | rfl | simp)) rfl rfl (by first | rfl | simp) h50 fun b48 c49 => ?_
  refine go ?_;intros
  cases h
  exact aV7
 replace h := itf h c
 try rw [c]
 refine go ?_;intros
 refine au7 rfl (fun c => ?_) (fun c => ?_)
 ·replace h := itt h c
  try rw [c]
  obtain ⟨x51, h52, h⟩ := bnd h
  refine go ?_;intros
  refine gk7 (xs := x2.1.commits) rfl rfl h52 rfl ?_
  refine go ?_;intros
  refine dY7 (f := bg7) x2.1.commits (⟨[], x51.sheet, x51.note⟩ : Commit) (a17 h52).2 ?_
  refine go ?_;intros
  cases h
  exact aV7
 replace h := itf h c
 try rw [c]
 refine go ?_;intros
 cases h
 exact aV7
theorem PA7 : OkC [EM7, EN7, cg7] EO7 Lx7 Ly7 := by
 refine ok fun G H ⟨a0, g0, g1⟩ r h => ?_
 refine st1 fun bs t o => ?_
 dsimp only [rg7] at h
 exact cls
theorem PB7 : OkC [Af7, xP7, xR7] vC7 Lz7 LA7 := by
 refine ok fun G H ⟨a0, a1, a2⟩ r h => ?_
 refine st1 fun bs t o => ?_
 dsimp only [lJ7] at h
 exact cls
theorem PC7 : OkC [EO7] Ax7 LB7 LC7 := by
 refine ok fun G H ⟨a0, g0, g1⟩ r h => ?_
 refine st1 fun bs t o => ?_
 dsimp only [rh7] at h
 exact cls
theorem PD7 : OkC [] EP7 LD7 LE7 := by
 refine ok fun G H ⟨a0, a1⟩ r h => ?_
 refine st1 fun bs t o => ?_
 dsimp only [ua7] at h
 try (refine gx ?_; intros; rename_i h)
 obtain ⟨hf, h⟩ := gd h
 obtain ⟨q14, hq, h⟩ := bnd h
 refine ae7 [] [] (fun K J t o => ∃ q14_, q14 = .inr q14_ ∧ PP K J t o) ?_ ?_
 ·have ho1 := h
  refine aR7 (xs := a0) [0, 1, 12] [] 0 hf (fun K J l18 k16 t o => fK7 a1 l18 k16  = some q14 ∧ PP ((13, .v (.int .i64 (k16 : Int))) :: K) J t o) ?_ ?_ ?_
  ·exact ⟨hq, pin, aE7⟩
  ·rintro k16 t o hlt ⟨h, pq⟩
   refine pn pq ?_
   rw [fK7] at h
   exact cls
  rintro x17 l18 k16 t o hlt hx22 hw hd ⟨h, pq⟩
  refine pn pq ?_
  rw [fK7] at h
  exact cls
 rintro t o ⟨q14, rfl, pq⟩
 refine pnq pq ?_
 exact cls
theorem PE7 : OkC [EP7] Ay7 LF7 LG7 := by
 refine ok fun G H ⟨a0, a1⟩ r h => ?_
 refine st1 fun bs t o => ?_
 dsimp only [ri7] at h
 exact cls
theorem PF7 : OkC [Ax7, xT7, z57, sB7, Ay7, vA7, xM7, vC7] LJ7 LH7 LI7 := by
 refine ok fun G H ⟨a0, g0, g1⟩ r h => ?_
 have H_cu9 := H _ (.head _)
 have H_ai9 := H _ (.tail _ (.head _))
 have H_cy9 := H _ (.tail _ (.tail _ (.head _)))
 have H_az9 := H _ (.tail _ (.tail _ (.tail _ (.head _))))
 have H_aa9 := H _ (.tail _ (.tail _ (.tail _ (.tail _ (.head _)))))
 have H_ah9 := H _ (.tail _ (.tail _ (.tail _ (.tail _ (.tail _ (.head _))))))
 have H_cx9 := H _ (.tail _ (.tail _ (.tail _ (.tail _ (.tail _ (.tail _ (.head _)))))))
 have H_aj9 := H _ (.tail _ (.tail _ (.tail _ (.tail _ (.tail _ (.tail _ (.tail _ (.head _))))))))
 refine st1 fun bs t o => ?_
 dsimp only [ub7] at h
 refine go ?_;intros
 refine au7 rfl (fun c => ?_) (fun c => ?_)
 ·replace h := itt h (by first | exact c | (have c2 := c; simp only [List.length_map] at c2; exact c2))
  try rw [c]
  refine go ?_;intros
  cases h
  exact bB7
 replace h := itf h (by first | exact c | (have c2 := c; simp only [List.length_map] at c2; exact c2))
 try rw [c]
 refine go ?_;intros
 refine dn7 ?_
 obtain ⟨x1, h2, h⟩ := bnd h
 refine go ?_;intros
 refine az7 (c := Ax7) (a0, g0, g1) H_cu9 h2 fun ch => ?_
 refine go ?_;intros
 refine ko7 ?_
 obtain ⟨x8, h9, h⟩ := bnd h
 refine go ?_;intros
 refine az7 (c := xT7) (x1.1, x1.2.1, x1.2.2) H_ai9 h9 fun ch => ?_
 obtain ⟨x14, h15, h⟩ := bnd h
 refine go ?_;intros
 refine az7 (c := z57) (x1.1, x1.2.1, x1.2.2) H_cy9 h15 fun ch => ?_
 refine go ?_;intros
 refine aG7 rfl (fun c => ?_) (fun c => ?_)
 ·replace h := itt h c
  rw [c]
  refine go ?_;intros
  cases h
  exact bB7
 replace h := itf h c
 rw [c]
 obtain ⟨x20, h21, h⟩ := bnd h
 refine go ?_;intros
 refine az7 (c := sB7) (x8.1, x14.1) H_az9 h21 fun ch => ?_
 refine go ?_;intros
 refine aG7 rfl (fun c => ?_) (fun c => ?_)
 ·replace h := itt h c
  rw [c]
  refine go ?_;intros
  cases h
  exact bB7
 replace h := itf h c
 rw [c]
 obtain ⟨x22, h23, h⟩ := bnd h
 refine go ?_;intros
 refine az7 (c := Ay7) (x8.2.1, x14.2.1) H_aa9 h23 fun ch => ?_
 refine go ?_;intros
 refine aG7 rfl (fun c => ?_) (fun c => ?_)
 ·replace h := itt h c
  rw [c]
  refine go ?_;intros
  cases h
  exact bB7
 replace h := itf h c
 rw [c]
 obtain ⟨x24, h25, h⟩ := bnd h
 refine go ?_;intros
 refine az7 (c := vA7) (x1.1, x1.2.1, x1.2.2) H_ah9 h25 fun ch => ?_
 obtain ⟨x26, h27, h⟩ := bnd h
 refine go ?_;intros
 refine az7 (c := xM7) (x1.1, x1.2.1, x1.2.2) H_cx9 h27 fun ch => ?_
 refine go ?_;intros
 refine au7 rfl (fun c => ?_) (fun c => ?_)
 ·replace h := itt h c
  try rw [c]
  refine go ?_;intros
  cases h
  exact bB7
 replace h := itf h c
 try rw [c]
 refine go ?_;intros
 refine au7 rfl (fun c => ?_) (fun c => ?_)
 ·replace h := itt h c
  try rw [c]
  refine go ?_;intros
  refine aG7 rfl (fun c => ?_) (fun c => ?_)
  ·replace h := itt h (by first | exact c | (have c2 := c; simp only [List.length_map] at c2; exact c2))
   rw [c]
   refine go ?_;intros
   cases h
   first | exact bB7 | (simp only [List.length_map]; exact bB7)
  replace h := itf h (by first | exact c | (have c2 := c; simp only [List.length_map] at c2; exact c2))
  rw [c]
  refine go ?_;intros
  cases h
  exact bB7
 replace h := itf h c
 try rw [c]
 obtain ⟨q28, h77, h⟩ := bnd h
 refine go ?_;intros
 refine dv7 (fun t o => ∃ b36 b37 c38 b39 c40 b42 c43 b45 c46, Pin t (ovr [(3, .ptr 24 b36 210 0 0), (4, .v (.int .i64 x1.2.1)), (5, .v (.int .i64 x1.2.2)), (6, .ref 232 b37 c38 0 x8.1.length 100), (7, .ref 233 b39 c40 0 x8.2.1.length 178), (12, .ref 648 b42 c43 0 q28.2.1.length 100), (13, .ref 649 b45 c46 0 q28.2.2.length 178), (14, .v (.bool q28.1))] t) ∧ eY7 o (ovh [(24, ⟨b36, 1, 210, true, [[.sl false 3 (List.map (am7 false) x1.1.commits), .sl false 2 (List.map aW7 x1.1.heads)]]⟩), (232, ent b37 c38 100 (List.map (aj7 true) x8.1)), (233, ent b39 c40 178 (List.map bh7 x8.2.1)), (648, ent b42 c43 100 (List.map (aj7 true) q28.2.1)), (649, ent b45 c46 178 (List.map bh7 q28.2.2))] o)) ?_ ?_
 ·obtain ⟨x29, h30, h77⟩ := bnd h77
  refine go ?_;intros
  refine az7 (c := xT7) (x1.1, x1.2.2, x1.2.1) H_ai9 h30 fun ch => ?_
  refine go ?_;intros
  cases h77
  exact cL7 ⟨_, _, _, _, _, _, _, _, _, pin, aE7⟩
 rintro t o ⟨b36, b37, c38, b39, c40, b42, c43, b45, c46, pq1, pq2⟩
 refine bA7 pq1 pq2 ?_
 obtain ⟨q49, h78, h⟩ := bnd h
 refine go ?_;intros
 refine dv7 (fun t o => ∃ q49_, q49 = .inr q49_ ∧ ∃ b52 b53 c54 b55 c56, Pin t (ovr [(3, .ptr 24 b52 210 0 0), (4, .v (.int .i64 x1.2.1)), (5, .v (.int .i64 x1.2.2)), (6, .ref 232 b53 c54 0 x8.1.length 100), (7, .ref 233 b55 c56 0 x8.2.1.length 178)] t) ∧ eY7 o (ovh [(24, ⟨b52, 1, 210, true, [[.sl false 3 (List.map (am7 false) x1.1.commits), .sl false 2 (List.map aW7 x1.1.heads)]]⟩), (232, ent b53 c54 100 (List.map (aj7 true) x8.1)), (233, ent b55 c56 178 (List.map bh7 x8.2.1))] o)) ?_ ?_
 ·refine go ?_;intros
  refine aG7 rfl (fun c => ?_) (fun c => ?_)
  ·replace h78 := itt h78 c
   rw [c]
   refine go ?_;intros
   cases h78
   replace h : some _ = some _ := h
   cases h
   exact bB7
  replace h78 := itf h78 c
  rw [c]
  refine go ?_;intros
  refine aG7 rfl (fun c => ?_) (fun c => ?_)
  ·replace h78 := itt h78 (by first | exact c | (have c2 := c; simp only [List.length_map] at c2; exact c2))
   rw [c]
   refine go ?_;intros
   cases h78
   replace h : some _ = some _ := h
   cases h
   exact bB7
  replace h78 := itf h78 (by first | exact c | (have c2 := c; simp only [List.length_map] at c2; exact c2))
  rw [c]
  refine go ?_;intros
  refine aG7 rfl (fun c => ?_) (fun c => ?_)
  ·replace h78 := itt h78 (by first | exact c | (have c2 := c; simp only [List.length_map] at c2; exact c2))
   rw [c]
   obtain ⟨x50, h51, h78⟩ := bnd h78
   refine go ?_;intros
   refine az7 (c := sB7) (q28.2.1, x8.1) H_az9 h51 fun ch => ?_
   refine go ?_;intros
   refine au7 rfl (fun c => ?_) (fun c => ?_)
   ·replace h78 := itt h78 c
    try rw [c]
    refine go ?_;intros
    cases h78
    replace h : some _ = some _ := h
    cases h
    exact bB7
   replace h78 := itf h78 c
   try rw [c]
   refine go ?_;intros
   cases h78
   exact cL7 ⟨_, rfl, _, _, _, _, _, pin, aE7⟩
  replace h78 := itf h78 (by first | exact c | (have c2 := c; simp only [List.length_map] at c2; exact c2))
  rw [c]
  refine go ?_;intros
  cases h78
  exact cL7 ⟨_, rfl, _, _, _, _, _, pin, aE7⟩
 rintro t o ⟨q49, rfl, b52, b53, c54, b55, c56, pq1, pq2⟩
 refine bA7 pq1 pq2 ?_
 obtain ⟨q63, h79, h⟩ := bnd h
 refine go ?_;intros
 refine dv7 (fun t o => ∃ q63_, q63 = .inr q63_ ∧ ∃ b70, Pin t (ovr [(3, .ptr 24 b70 210 0 0), (4, .v (.int .i64 x1.2.1)), (5, .v (.int .i64 x1.2.2))] t) ∧ eY7 o (ovh [(24, ⟨b70, 1, 210, true, [[.sl false 3 (List.map (am7 false) x1.1.commits), .sl false 2 (List.map aW7 x1.1.heads)]]⟩)] o)) ?_ ?_
 ·obtain ⟨x64, h65, h79⟩ := bnd h79
  refine go ?_;intros
  refine az7 (c := vC7) (x1.1, x1.2.1, x1.2.2) H_aj9 h65 fun ch => ?_
  refine go ?_;intros
  refine aG7 rfl (fun c => ?_) (fun c => ?_)
  ·replace h79 := itt h79 c
   rw [c]
   refine go ?_;intros
   refine aG7 rfl (fun c => ?_) (fun c => ?_)
   ·replace h79 := itt h79 (by first | exact c | (have c2 := c; simp only [List.length_map] at c2; exact c2))
    rw [c]
    refine go ?_;intros
    cases h79
    replace h : some _ = some _ := h
    cases h
    exact bB7
   replace h79 := itf h79 (by first | exact c | (have c2 := c; simp only [List.length_map] at c2; exact c2))
   rw [c]
   obtain ⟨x66, h67, h79⟩ := bnd h79
   refine go ?_;intros
   refine f57 rfl rfl h67 rfl ?_
   obtain ⟨x68, h69, h79⟩ := bnd h79
   refine go ?_;intros
   refine az7 (c := sB7) (x8.1, x66.sheet) H_az9 h69 fun ch => ?_
   refine go ?_;intros
   refine au7 rfl (fun c => ?_) (fun c => ?_)
   ·replace h79 := itt h79 c
    try rw [c]
    refine go ?_;intros
    cases h79
    replace h : some _ = some _ := h
    cases h
    exact bB7
   replace h79 := itf h79 c
   try rw [c]
   refine go ?_;intros
   cases h79
   exact cL7 ⟨_, rfl, _, pin, aE7⟩
  replace h79 := itf h79 c
  rw [c]
  refine go ?_;intros
  cases h79
  exact cL7 ⟨_, rfl, _, pin, aE7⟩
 rintro t o ⟨q63, rfl, b70, pq1, pq2⟩
 refine bA7 pq1 pq2 ?_
 obtain ⟨x71, h72, h⟩ := bnd h
 refine go ?_;intros
 refine az7 (c := vA7) (x1.1, x1.2.1, x1.2.2) H_ah9 h72 fun ch => ?_
 refine go ?_;intros
 refine aG7 rfl (fun c => ?_) (fun c => ?_)
 ·replace h := itt h c
  rw [c]
  obtain ⟨x73, h74, h⟩ := bnd h
  refine go ?_;intros
  refine az7 (c := vC7) (x1.1, x71, x1.2.1) H_aj9 h74 fun ch => ?_
  refine go ?_;intros
  refine aG7 rfl (fun c => ?_) (fun c => ?_)
  ·replace h := itt h c
   rw [c]
   obtain ⟨x75, h76, h⟩ := bnd h
   refine go ?_;intros
   refine az7 (c := vC7) (x1.1, x71, x1.2.2) H_aj9 h76 fun ch => ?_
   refine go ?_;intros
   cases h
   exact bB7
  replace h := itf h c
  rw [c]
  refine go ?_;intros
  cases h
  exact bB7
 replace h := itf h c
 rw [c]
 refine go ?_;intros
 cases h
 exact bB7
end Go.Proofs.AM
