/- Lemmas of the proof (UAF10), on an abstract machine. Conditions: none. -/
import Derived.Test.YtnnfdbdheoajgaaGreatUAD
set_option linter.unusedVariables false
set_option linter.unusedSimpArgs false
set_option maxRecDepth 100000
set_option maxHeartbeats 4000000
namespace Go.Proofs.AM
attribute [local irreducible] vwp cU7 bF7 f67 vdo i87 mH7 jO7 fe7 mv7 kx7 bI7 e57 kf7 eS7 jC7 kN7 kM7
theorem PC7 : OkC [lM7] At7 Lu7 Lv7 := by
 refine ok fun G H ⟨a0, g0, g1⟩ r h => ?_
 refine st1 fun bs t o => ?_
 dsimp only [ru7] at h
 exact cls
theorem PD7 : OkC [xX7, oN7, co7, Ap7, As7, At7, sM7, xK7] xY7 Lw7 Lx7 := by
 refine ok fun G H ⟨a0, a1, g0, g1, g2, g3, g4, g5⟩ r h => ?_
 have H_fw9 := H _ (.head _)
 have H_fs9 := H _ (.tail _ (.head _))
 have H_dw9 := H _ (.tail _ (.tail _ (.head _)))
 have H_dj9 := H _ (.tail _ (.tail _ (.tail _ (.head _))))
 have H_ez9 := H _ (.tail _ (.tail _ (.tail _ (.tail _ (.head _)))))
 have H_fx9 := H _ (.tail _ (.tail _ (.tail _ (.tail _ (.tail _ (.head _))))))
 have H_fp9 := H _ (.tail _ (.tail _ (.tail _ (.tail _ (.tail _ (.tail _ (.head _)))))))
 have H_fn9 := H _ (.tail _ (.tail _ (.tail _ (.tail _ (.tail _ (.tail _ (.tail _ (.head _))))))))
 refine st1 fun bs t o => ?_
 dsimp only [rv7] at h
 obtain ⟨x3, h4, h⟩ := bnd h
 refine go ?_;intros
 refine an7 (c := xX7) (a0, g0, g1) H_fw9 h4 fun ch => ?_
 obtain ⟨x5, h6, h⟩ := bnd h
 refine go ?_;intros
 refine aw7 (c := oN7) (a1, x3.1) H_fs9 h6 fun ch => ?_
 refine go ?_;intros
 refine aq7 rfl (fun c => ?_) (fun c => ?_)
 ·replace h := itt h c
  try rw [c]
  obtain ⟨x7, h8, h⟩ := bnd h
  refine go ?_;intros
  refine an7 (c := co7) ((⟨a0.b, x3.2⟩ : Rd), (a1.heads.length : Int), g0, g1) H_dw9 h8 fun ch => ?_
  obtain ⟨x9, h10, h⟩ := bnd h
  refine go ?_;intros
  refine eQ7 rfl rfl h10 rfl ?_
  obtain ⟨x11, h12, h⟩ := bnd h
  refine go ?_;intros
  refine aw7 (c := Ap7) (a1, x3.1, x9.name) H_dj9 h12 fun ch => ?_
  refine go ?_;intros
  refine aq7 rfl (fun c => ?_) (fun c => ?_)
  ·replace h := itt h (by first | exact c | (have c2 := c; simp only [List.length_map] at c2; exact c2))
   try rw [c]
   refine go ?_;intros
   cases h
   exact aX7
  replace h := itf h (by first | exact c | (have c2 := c; simp only [List.length_map] at c2; exact c2))
  try rw [c]
  refine go ?_;intros
  refine Gg7 rfl rfl rfl rfl ?_
  refine go ?_;intros
  cases h
  exact aX7
 replace h := itf h c
 try rw [c]
 obtain ⟨x18, h19, h⟩ := bnd h
 refine go ?_;intros
 refine eQ7 rfl rfl h19 rfl ?_
 obtain ⟨q20, h75, h⟩ := bnd h
 refine go ?_;intros
 refine cV7 (fun t o => ∃ b30 b31 c32 b33 c34 b35 b36 c37 b40, Pin t (ovr [(0, .ptr 0 (bs 0).1 290 0 0), (3, .ptr 24 b30 210 0 0), (4, .ptr 32 b35 210 0 0), (6, .v (.int .i64 x5)), (9, .v (.int .i64 x18.at_)), (10, .ptr 80 b40 115 0 0)] t) ∧ d47 o (ovh [(0, ⟨(bs 0).1, (bs 0).2, 290, true, [[.rw g0 g1 (List.map eU8 a0.b), .v (.int .i64 q20.1)]]⟩), (24, ⟨b30, 1, 210, true, [[.rw g2 g3 (List.map (af7 false) a1.commits), .rw g4 g5 (List.map av7 a1.heads)]]⟩), (1000512, ent b31 c32 115 (List.map (af7 true) [])), (1000513, ent b33 c34 130 (List.map av7 [])), (32, ⟨b35, 1, 210, true, [[.al 1000512 b31 c32 0 ([] : List Commit).length 115, .al 1000513 b33 c34 0 ([] : List Head).length 130]]⟩), (1001280, ent b36 c37 17 (List.map bn7 [x18.at_])), (80, ⟨b40, 1, 115, true, [[.al 1001280 b36 c37 0 [x18.at_].length 17, .sl false 4 (List.map (ak7 false) q20.2.1), .v (.string q20.2.2)]]⟩)] o)) ?_ ?_
 ·obtain ⟨x22, h23, h75⟩ := bnd h75
  refine go ?_;intros
  refine eQ7 rfl rfl h23 rfl ?_
  obtain ⟨x24, h25, h75⟩ := bnd h75
  refine go ?_;intros
  refine an7 (c := As7) ((⟨a0.b, x3.2⟩ : Rd), x22.sheet, g0, g1) H_ez9 h25 fun ch => ?_
  obtain ⟨x26, h27, h75⟩ := bnd h75
  refine go ?_;intros
  refine an7 (c := At7) ((⟨a0.b, x24.2⟩ : Rd), g0, g1) H_fx9 h27 fun ch => ?_
  refine go ?_;intros
  cases h75
  exact cm7 ⟨_, _, _, _, _, _, _, _, _, pin, aE7⟩
 rintro t o ⟨b30, b31, c32, b33, c34, b35, b36, c37, b40, pq1, pq2⟩
 refine bl7 pq1 pq2 ?_
 obtain ⟨x41, h42, h⟩ := bnd h
 refine go ?_;intros
 refine an7 (c := co7) ((⟨a0.b, q20.1⟩ : Rd), (a1.heads.length : Int), g0, g1) H_dw9 h42 fun ch => ?_
 obtain ⟨x43, h44, h⟩ := bnd h
 refine go ?_;intros
 refine eQ7 rfl rfl h44 rfl ?_
 obtain ⟨q48, h76, h⟩ := bnd h
 refine go ?_;intros
 refine cV7 (fun t o => ∃ b52 b53 c54 b55 c56 b57 b59 c60 b61, Pin t (ovr [(3, .ptr 24 b52 210 0 0), (4, .ptr 32 b57 210 0 0), (6, .v (.int .i64 x5)), (10, .ptr 80 b61 115 0 0)] t) ∧ d47 o (ovh [(24, ⟨b52, 1, 210, true, [[.rw g2 g3 (List.map (af7 false) a1.commits), .rw g4 g5 (List.map av7 a1.heads)]]⟩), (1000512, ent b53 c54 115 (List.map (af7 true) [])), (1000513, ent b55 c56 130 (List.map av7 [])), (32, ⟨b57, 1, 210, true, [[.al 1000512 b53 c54 0 ([] : List Commit).length 115, .al 1000513 b55 c56 0 ([] : List Head).length 130]]⟩), (1001280, ent b59 c60 17 (List.map bn7 q48.1)), (80, ⟨b61, 1, 115, true, [[.al 1001280 b59 c60 0 q48.1.length 17, .sl false 4 (List.map (ak7 false) q20.2.1), .v (.string q20.2.2)]]⟩), (0, ⟨(bs 0).1, (bs 0).2, 290, true, [[.rw g0 g1 (List.map eU8 a0.b), .v (.int .i64 q48.2)]]⟩)] o)) ?_ ?_
 ·refine go ?_;intros
  refine aL7 rfl (fun c => ?_) (fun c => ?_)
  ·replace h76 := itt h76 c
   rw [c]
   obtain ⟨x49, h50, h76⟩ := bnd h76
   refine go ?_;intros
   refine an7 (c := co7) ((⟨a0.b, x41.2⟩ : Rd), 4, g0, g1) H_dw9 h50 fun ch => ?_
   refine go ?_;intros
   refine aq7 rfl (fun c => ?_) (fun c => ?_)
   ·replace h76 := itt h76 c
    try rw [c]
    refine go ?_;intros
    cases h76
    exact cm7 ⟨_, _, _, _, _, _, _, _, _, pin, aE7⟩
   replace h76 := itf h76 c
   try rw [c]
   refine go ?_;intros
   cases h76
   exact cm7 ⟨_, _, _, _, _, _, _, _, _, pin, aE7⟩
  replace h76 := itf h76 c
  rw [c]
  refine go ?_;intros
  cases h76
  exact cm7 ⟨_, _, _, _, _, _, _, _, _, pin, aE7⟩
 rintro t o ⟨b52, b53, c54, b55, c56, b57, b59, c60, b61, pq1, pq2⟩
 refine bl7 pq1 pq2 ?_
 refine go ?_;intros
 refine aq7 rfl (fun c => ?_) (fun c => ?_)
 ·replace h := itt h (by first | exact c | (have c2 := c; simp only [List.length_map] at c2; exact c2))
  try rw [c]
  refine go ?_;intros
  refine Gg7 rfl rfl rfl rfl ?_
  refine go ?_;intros
  cases h
  exact aX7
 replace h := itf h (by first | exact c | (have c2 := c; simp only [List.length_map] at c2; exact c2))
 try rw [c]
 obtain ⟨x63, h64, h⟩ := bnd h
 refine go ?_;intros
 refine aw7 (c := sM7) (a1) H_fp9 h64 fun ch => ?_
 obtain ⟨x69, h70, h⟩ := bnd h
 refine go ?_;intros
 refine an7 (c := xK7) (x63, x5, (⟨q48.1, q20.2.1, q20.2.2⟩ : Commit)) H_fn9 h70 fun ch => ?_
 refine go ?_;intros
 cases h
 exact aX7
theorem PE7 : OkC [Ao7, vD7, co7, xY7] Au7 Ly7 Lz7 := by
 refine ok fun G H ⟨a0, g0, g1⟩ r h => ?_
 have H_dk9 := H _ (.head _)
 have H_ew9 := H _ (.tail _ (.head _))
 have H_dw9 := H _ (.tail _ (.tail _ (.head _)))
 have H_fr9 := H _ (.tail _ (.tail _ (.tail _ (.head _))))
 refine st1 fun bs t o => ?_
 dsimp only [rw7] at h
 obtain ⟨x2, h3, h⟩ := bnd h
 refine go ?_;intros
 refine aw7 (c := Ao7) ((⟨#[109, 97, 105, 110]⟩ : Str)) H_dk9 h3 fun ch => ?_
 refine go ?_;intros
 refine CY7 ?_
 refine go ?_;intros
 refine L67 (f := (af7 true)) (g := bg7) (lh7 _) rfl rfl ?_
 refine go ?_;intros
 refine dr7 ?_
 obtain ⟨x9, h10, h⟩ := bnd h
 refine go ?_;intros
 refine an7 (c := vD7) (a0, g0, g1) H_ew9 h10 fun ch => ?_
 refine go ?_;intros
 refine ky7 ?_
 obtain ⟨x13, h14, h⟩ := bnd h
 refine go ?_;intros
 refine fh7 (xs := x2.1.commits) rfl rfl h14 rfl ?_
 refine go ?_;intros
 refine cG7 (f := bg7) x2.1.commits (⟨x13.up, x9.1, x13.note⟩ : Commit) (aM7 h14).2 ?_
 obtain ⟨x15, h16, h⟩ := bnd h
 refine go ?_;intros
 refine an7 (c := co7) ((⟨a0.b, x9.2⟩ : Rd), 7, g0, g1) H_dw9 h16 fun ch => ?_
 obtain ⟨q56, h94, h⟩ := bnd h
 refine go ?_;intros
 refine lk7 (fun t o => ∃ b78 c79 b80 c81 b82 b84 c85 b87 c88 b89, Pin t (ovr [(0, .ptr 0 (bs 0).1 290 0 0), (2, .ptr 16 b82 210 0 0), (3, .ptr 24 b89 210 0 0)] t) ∧ d47 o (ovh [(0, ⟨(bs 0).1, (bs 0).2, 290, true, [[.rw g0 g1 (List.map eU8 a0.b), .v (.int .i64 q56.1)]]⟩), (1000256, ent b78 c79 115 (List.map (af7 true) [])), (1000257, ent b80 c81 130 (List.map av7 [])), (16, ⟨b82, 1, 210, true, [[.al 1000256 b78 c79 0 ([] : List Commit).length 115, .al 1000257 b80 c81 0 ([] : List Head).length 130]]⟩), (1000384, ent b84 c85 115 (List.map bg7 q56.2.1)), (1000385, ent b87 c88 130 (List.map av7 q56.2.2)), (24, ⟨b89, 1, 210, true, [[.al 1000384 b84 c85 0 q56.2.1.length 115, .al 1000385 b87 c88 0 q56.2.2.length 130]]⟩)] o)) ?_ ?_
 ·refine fi7 (fun n t o => ∃ n71 v57 v58 v64 v67 b59 c60 b61 c62 b63 b65 c66 b68 c69 b70, dH7 a0 n71 v57 v58 v64 v67 = some q56 ∧ n71 = n ∧ Pin t (ovr [(0, .ptr 0 (bs 0).1 290 0 0), (2, .ptr 16 b63 210 0 0), (3, .ptr 24 b70 210 0 0), (5, .v (.int .i64 v57))] t) ∧ d47 o (ovh [(0, ⟨(bs 0).1, (bs 0).2, 290, true, [[.rw g0 g1 (List.map eU8 a0.b), .v (.int .i64 v58)]]⟩), (1000256, ent b59 c60 115 (List.map (af7 true) [])), (1000257, ent b61 c62 130 (List.map av7 [])), (16, ⟨b63, 1, 210, true, [[.al 1000256 b59 c60 0 ([] : List Commit).length 115, .al 1000257 b61 c62 0 ([] : List Head).length 130]]⟩), (1000384, ent b65 c66 115 (List.map bg7 v64)), (1000385, ent b68 c69 130 (List.map av7 v67)), (24, ⟨b70, 1, 210, true, [[.al 1000384 b65 c66 0 v64.length 115, .al 1000385 b68 c69 0 v67.length 130]]⟩)] o)) _ ⟨_, _, _, _, _, _, _, _, _, _, _, _, _, _, _, h94, rfl, pin, aE7⟩ ?_
  rintro n t o ⟨n71, v57, v58, v64, v67, b59, c60, b61, c62, b63, b65, c66, b68, c69, b70, h94, rfl, pq1, pq2⟩
  refine bl7 pq1 pq2 ?_
  cases n71 with
  | zero => rw [dH7] at h94; cases h94
  | succ n71 =>
   rw [dH7] at h94
   refine go ?_;intros
   refine aq7 rfl (fun c => ?_) (fun c => ?_)
   ·replace h94 := itt h94 c
    try rw [c]
    refine go ?_;intros
    refine Gr7 ?_
    refine go ?_;intros
    refine QK7 rfl rfl ?_
    refine go ?_;intros
    refine CY7 ?_
    refine go ?_;intros
    refine MZ7 ?_
    obtain ⟨x72, h73, h94⟩ := bnd h94
    rcases x72 with ⟨_ | y74, p75⟩
    ·dsimp only at h94
     refine go ?_;intros
     refine an7 (c := xY7) ((⟨a0.b, v58⟩ : Rd), (⟨v64, v67⟩ : am7), g0, g1, (uQ7 b65), c66, (uQ7 b68), c69) H_fr9 h73 fun ch76 => ?_
     refine go ?_;intros
     refine Qf7 rfl (BK7 rfl rfl (by first | rfl | simp) (BK7 rfl rfl (by first | rfl | simp) BI7)) ?_
     refine go ?_;intros
     refine L67 (f := bg7) (g := bg7) (nr7 _) rfl rfl ?_
     refine go ?_;intros
     exact gs7 _ (Nat.lt_succ_self _) ⟨_, _, _, _, _, _, _, _, _, _, _, _, _, _, _, h94, rfl, pin, aE7⟩
    dsimp only at h94
    refine go ?_;intros
    refine an7 (c := xY7) ((⟨a0.b, v58⟩ : Rd), (⟨v64, v67⟩ : am7), g0, g1, (uQ7 b65), c66, (uQ7 b68), c69) H_fr9 h73 fun ch76 => ?_
    refine go ?_;intros
    refine Qf7 rfl (BJ7 (BJ7 BI7)) ?_
    refine go ?_;intros
    refine L67 (f := (af7 true)) (g := bg7) (lh7 _) rfl rfl ?_
    refine go ?_;intros
    exact gs7 _ (Nat.lt_succ_self _) ⟨_, _, _, _, _, _, _, _, _, _, _, _, _, _, _, h94, rfl, pin, aE7⟩
   replace h94 := itf h94 c
   try rw [c]
   refine go ?_;intros
   cases h94
   exact cm7 ⟨_, _, _, _, _, _, _, _, _, _, pin, aE7⟩
 rintro t o ⟨b78, c79, b80, c81, b82, b84, c85, b87, c88, b89, pq1, pq2⟩
 refine hH7 pq1 pq2 ?_
 obtain ⟨x90, h91, h⟩ := bnd h
 refine go ?_;intros
 refine an7 (c := co7) ((⟨a0.b, q56.1⟩ : Rd), 4, g0, g1) H_dw9 h91 fun ch => ?_
 refine go ?_;intros
 refine aL7 rfl (fun c => ?_) (fun c => ?_)
 ·replace h := itt h c
  rw [c]
  refine go ?_;intros
  refine aq7 rfl (fun c => ?_) (fun c => ?_)
  ·replace h := itt h (by first | exact c | (have c2 := c; simp only [List.length_map] at c2; exact c2))
   try rw [c]
   refine go ?_;intros
   refine CZ7 ?_
   obtain ⟨x92, h93, h⟩ := bnd h
   refine go ?_;intros
   refine Gs7 (xs := q56.2.2) h93 rfl rfl rfl rfl (by first | rfl | simp) ?_
   refine go ?_;intros
   refine Qe7 (f := av7) h93 rfl rfl rfl ?_
   refine go ?_;intros
   cases h
   exact aX7
  replace h := itf h (by first | exact c | (have c2 := c; simp only [List.length_map] at c2; exact c2))
  try rw [c]
  refine go ?_;intros
  cases h
  exact aX7
 replace h := itf h c
 rw [c]
 refine go ?_;intros
 cases h
 exact aX7
theorem PF7 : OkC [Au7, co7, mN7, An7] EL7 LA7 LB7 := by
 refine ok fun G H ⟨a0, g0, g1⟩ r h => ?_
 have H_fz9 := H _ (.head _)
 have H_dw9 := H _ (.tail _ (.head _))
 have H_du9 := H _ (.tail _ (.tail _ (.head _)))
 have H_eq9 := H _ (.tail _ (.tail _ (.tail _ (.head _))))
 refine st1 fun bs t o => ?_
 dsimp only [rx7] at h
 obtain ⟨x2, h3, h⟩ := bnd h
 refine go ?_;intros
 refine an7 (c := Au7) (a0, g0, g1) H_fz9 h3 fun ch => ?_
 obtain ⟨x9, h10, h⟩ := bnd h
 refine go ?_;intros
 refine an7 (c := co7) ((⟨a0.b, x2.2⟩ : Rd), (x2.1.commits.length : Int), g0, g1) H_dw9 h10 fun ch => ?_
 obtain ⟨x11, h12, h⟩ := bnd h
 refine go ?_;intros
 refine an7 (c := co7) ((⟨a0.b, x9.2⟩ : Rd), 48, g0, g1) H_dw9 h12 fun ch => ?_
 obtain ⟨q13, h53, h⟩ := bnd h
 refine go ?_;intros
 refine cV7 (fun t o => ∃ b14 c15 b16 c17 b18 b19 c20 b21 c22 b23, Pin t (ovr [(0, .ptr 0 (bs 0).1 290 0 0), (2, .ptr 16 b18 210 0 0), (3, .ptr 24 b23 210 0 0), (4, .v (.int .i64 x9.1)), (13, .v (.int .i64 x11.1)), (14, .v (.bool (x11.1 == 0)))] t) ∧ d47 o (ovh [(0, ⟨(bs 0).1, (bs 0).2, 290, true, [[.rw g0 g1 (List.map eU8 a0.b), .v (.int .i64 x11.2)]]⟩), (1000256, ent b14 c15 115 (List.map (af7 true) [])), (1000257, ent b16 c17 130 (List.map av7 [])), (16, ⟨b18, 1, 210, true, [[.al 1000256 b14 c15 0 ([] : List Commit).length 115, .al 1000257 b16 c17 0 ([] : List Head).length 130]]⟩), (1000384, ent b19 c20 115 (List.map bg7 x2.1.commits)), (1000385, ent b21 c22 130 (List.map av7 x2.1.heads)), (24, ⟨b23, 1, 210, true, [[.al 1000384 b19 c20 0 x2.1.commits.length 115, .al 1000385 b21 c22 0 x2.1.heads.length 130]]⟩)] o)) ?_ ?_
 ·refine go ?_;intros
  cases h53
  exact cm7 ⟨_, _, _, _, _, _, _, _, _, _, pin, aE7⟩
 rintro t o ⟨b14, c15, b16, c17, b18, b19, c20, b21, c22, b23, pq1, pq2⟩
 refine bl7 pq1 pq2 ?_
 refine go ?_;intros
 refine aq7 rfl (fun c => ?_) (fun c => ?_)
 ·replace h := itt h c
  try rw [c]
  obtain ⟨x25, h26, h⟩ := bnd h
  refine go ?_;intros
  refine an7 (c := mN7) ((⟨a0.b, x11.2⟩ : Rd), ([(-1), (x2.1.commits.length : Int)] : (List Int)), g0, g1) H_du9 h26 fun ch => ?_
  obtain ⟨x27, h28, h⟩ := bnd h
  refine go ?_;intros
  refine fh7 (xs := x2.1.heads) rfl rfl h28 rfl ?_
  refine go ?_;intros
  refine cG7 (f := av7) x2.1.heads (⟨x27.name, x25.1⟩ : Head) (aM7 h28).2 ?_
  refine go ?_;intros
  cases h
  exact aX7
 replace h := itf h c
 try rw [c]
 refine go ?_;intros
 refine aq7 rfl (fun c => ?_) (fun c => ?_)
 ·replace h := itt h c
  try rw [c]
  obtain ⟨x29, h30, h⟩ := bnd h
  refine go ?_;intros
  refine fh7 (xs := x2.1.commits) rfl rfl h30 rfl ?_
  refine go ?_;intros
  refine Gu7 (f := bg7) (g := bn7) (xs := x2.1.commits) (x := x29) (ys := x29.up) (aM7 h30).2 rfl rfl rfl fun b31 c32 => ?_
  obtain ⟨h36, h⟩ := gd h
  refine go ?_;intros
  refine dZ7 (f := bn7) (xs := x29.up) (ys := ([x9.1] : (List Int))) rfl (eR7 rfl rfl (by first | rfl | simp)) rfl rfl (by first | rfl | simp) h36 fun b34 c35 => ?_
  refine go ?_;intros
  refine fh7 (xs := x2.1.commits) rfl rfl h30 rfl ?_
  refine go ?_;intros
  refine M57 (f := bg7) x2.1.commits (⟨(x29.up ++ ([x9.1] : (List Int))), x29.sheet, x29.note⟩ : Commit) (aM7 h30).2 ?_
  refine go ?_;intros
  cases h
  exact aX7
 replace h := itf h c
 try rw [c]
 refine go ?_;intros
 refine aq7 rfl (fun c => ?_) (fun c => ?_)
 ·replace h := itt h c
  try rw [c]
  refine go ?_;intros
  refine dr7 ?_
  obtain ⟨x37, h38, h⟩ := bnd h
  refine go ?_;intros
  refine an7 (c := An7) ((⟨a0.b, x11.2⟩ : Rd), g0, g1) H_eq9 h38 fun ch => ?_
  refine go ?_;intros
  refine ky7 ?_
  obtain ⟨x41, h42, h⟩ := bnd h
  refine go ?_;intros
  refine fh7 (xs := x2.1.commits) rfl rfl h42 rfl ?_
  refine go ?_;intros
  refine cG7 (f := bg7) x2.1.commits (⟨x41.up, x37.1, x41.note⟩ : Commit) (aM7 h42).2 ?_
  refine go ?_;intros
  cases h
  exact aX7
 replace h := itf h c
 try rw [c]
 refine go ?_;intros
 refine aq7 rfl (fun c => ?_) (fun c => ?_)
 ·replace h := itt h c
  try rw [c]
  obtain ⟨x43, h44, h⟩ := bnd h
  refine go ?_;intros
  refine fh7 (xs := x2.1.commits) rfl rfl h44 rfl ?_
  refine go ?_;intros
  refine cG7 (f := bg7) x2.1.commits (⟨x43.up, x43.sheet, (⟨#[]⟩ : Str)⟩ : Commit) (aM7 h44).2 ?_
  refine go ?_;intros
  cases h
  exact aX7
 replace h := itf h c
 try rw [c]
 refine go ?_;intros
 refine aq7 rfl (fun c => ?_) (fun c => ?_)
 ·replace h := itt h c
  try rw [c]
  obtain ⟨x45, h46, h⟩ := bnd h
  refine go ?_;intros
  refine fh7 (xs := x2.1.heads) rfl rfl h46 rfl ?_
  refine go ?_;intros
  refine ow7 (f := av7) (xs := x2.1.heads) (x := x45) rfl rfl (aM7 h46).2 rfl rfl rfl ?_
  obtain ⟨h50, h⟩ := gd h
  refine go ?_;intros
  refine dZ7 (f := av7) (xs := x2.1.heads) (ys := ([x45] : (List Head))) rfl (eR7 rfl rfl (by first | rfl | simp)) rfl rfl (by first | rfl | simp) h50 fun b48 c49 => ?_
  refine go ?_;intros
  cases h
  exact aX7
 replace h := itf h c
 try rw [c]
 refine go ?_;intros
 refine aq7 rfl (fun c => ?_) (fun c => ?_)
 ·replace h := itt h c
  try rw [c]
  obtain ⟨x51, h52, h⟩ := bnd h
  refine go ?_;intros
  refine fh7 (xs := x2.1.commits) rfl rfl h52 rfl ?_
  refine go ?_;intros
  refine cG7 (f := bg7) x2.1.commits (⟨[], x51.sheet, x51.note⟩ : Commit) (aM7 h52).2 ?_
  refine go ?_;intros
  cases h
  exact aX7
 replace h := itf h c
 try rw [c]
 refine go ?_;intros
 cases h
 exact aX7
theorem PG7 : OkC [xP7, xQ7] xZ7 LC7 LD7 := by
 refine ok fun G H ⟨a0, a1⟩ r h => ?_
 refine st1 fun bs t o => ?_
 dsimp only [nZ7] at h
 exact cls
theorem PH7 : OkC [] EM7 LE7 LF7 := by
 refine ok fun G H ⟨a0, a1⟩ r h => ?_
 refine st1 fun bs t o => ?_
 dsimp only [uk7] at h
 try (refine gx ?_; intros; rename_i h)
 obtain ⟨hf, h⟩ := gd h
 obtain ⟨q14, hq, h⟩ := bnd h
 refine ae7 [] [] (fun K J t o => ∃ q14_, q14 = .inr q14_ ∧ PP K J t o) ?_ ?_
 ·have ho1 := h
  refine aR7 (xs := a0) [0, 1, 12] [] 0 hf (fun K J l18 k16 t o => fO7 a1 l18 k16  = some q14 ∧ PP ((13, .v (.int .i64 (k16 : Int))) :: K) J t o) ?_ ?_ ?_
  ·exact ⟨hq, pin, aE7⟩
  ·rintro k16 t o hlt ⟨h, pq⟩
   refine pn pq ?_
   rw [fO7] at h
   exact cls
  rintro x17 l18 k16 t o hlt hx22 hw hd ⟨h, pq⟩
  refine pn pq ?_
  rw [fO7] at h
  exact cls
 rintro t o ⟨q14, rfl, pq⟩
 refine pnq pq ?_
 exact cls
theorem PI7 : OkC [xO7] EN7 LG7 LH7 := by
 refine ok fun G H ⟨a0, a1⟩ r h => ?_
 have H_bu9 := H _ (.head _)
 replace H := mK7 0 H
 refine st1 fun bs t o => ?_
 dsimp only [ul7] at h
 try (refine gx ?_; intros; rename_i h)
 obtain ⟨hf, h⟩ := gd h
 obtain ⟨q26, hq, h⟩ := bnd h
 refine ae7 [] [] (fun K J t o => ∃ q26_, q26 = .inr q26_ ∧ PP K J t o) ?_ ?_
 ·have ho1 := h
  refine aR7 (xs := a0) [1, 2, 15, 16] [] 0 hf (fun K J l30 k28 t o => fP7 a1 l30 k28  = some q26 ∧ PP ((17, .v (.int .i64 (k28 : Int))) :: K) J t o) ?_ ?_ ?_
  ·exact ⟨hq, pin, aE7⟩
  ·rintro k28 t o hlt ⟨h, pq⟩
   refine pn pq ?_
   rw [fP7] at h
   exact cls
  rintro x29 l30 k28 t o hlt hx34 hw hd ⟨h, pq⟩
  refine pn pq ?_
  rw [fP7] at h
  refine gx fun x38 h39 => ?_; intros; rename_i h
  obtain ⟨x41, h42, h⟩ := bnd h
  refine bD7 (c := xO7) (x29, x38) H_bu9 h42 fun ch => ?_
  exact cls
 rintro t o ⟨q26, rfl, pq⟩
 refine pnq pq ?_
 exact cls
theorem PJ7 : OkC [EN7, EM7] x07 LI7 LJ7 := by
 refine ok fun G H ⟨a0, a1⟩ r h => ?_
 refine st1 fun bs t o => ?_
 dsimp only [n07] at h
 exact cls
theorem PK7 : OkC [EK7, EL7, xX7, lM7] Av7 LK7 LL7 := by
 refine ok fun G H ⟨a0, g0, g1⟩ r h => ?_
 refine st1 fun bs t o => ?_
 dsimp only [ry7] at h
 exact cls
theorem PL7 : OkC [Av7, sP7, Aj7, x07, xZ7] LO7 LM7 LN7 := by
 refine ok fun G H ⟨a0, g0, g1⟩ r h => ?_
 have H_db9 := H _ (.head _)
 have H_ah9 := H _ (.tail _ (.head _))
 have H_df9 := H _ (.tail _ (.tail _ (.head _)))
 have H_an9 := H _ (.tail _ (.tail _ (.tail _ (.head _))))
 have H_aj9 := H _ (.tail _ (.tail _ (.tail _ (.tail _ (.head _)))))
 refine st1 fun bs t o => ?_
 dsimp only [um7] at h
 refine go ?_;intros
 refine aq7 rfl (fun c => ?_) (fun c => ?_)
 ·replace h := itt h (by first | exact c | (have c2 := c; simp only [List.length_map] at c2; exact c2))
  try rw [c]
  refine go ?_;intros
  cases h
  exact bp7
 replace h := itf h (by first | exact c | (have c2 := c; simp only [List.length_map] at c2; exact c2))
 try rw [c]
 refine go ?_;intros
 refine dr7 ?_
 obtain ⟨x1, h2, h⟩ := bnd h
 refine go ?_;intros
 refine aw7 (c := Av7) (a0, g0, g1) H_db9 h2 fun ch => ?_
 refine go ?_;intros
 refine ky7 ?_
 obtain ⟨q8, h102, h⟩ := bnd h
 refine go ?_;intros
 refine cV7 (fun t o => ∃ b19 b21 c22 b24 c25 b26, Pin t (ovr [(3, .ptr 24 b19 210 0 0), (4, .v (.string x1.2.1)), (5, .v (.string x1.2.2.1)), (6, .v (.string x1.2.2.2)), (7, .ptr 56 b26 210 0 0), (9, .v (.int .i64 q8.1))] t) ∧ d47 o (ovh [(24, ⟨b19, 1, 210, true, [[.sl false 3 (List.map (af7 false) x1.1.commits), .sl false 2 (List.map av7 x1.1.heads)]]⟩), (1000896, ent b21 c22 115 (List.map (af7 true) q8.2.1)), (1000897, ent b24 c25 130 (List.map av7 q8.2.2)), (56, ⟨b26, 1, 210, true, [[.al 1000896 b21 c22 0 q8.2.1.length 115, .al 1000897 b24 c25 0 q8.2.2.length 130]]⟩)] o)) ?_ ?_
 ·obtain ⟨x9, h10, h102⟩ := bnd h102
  refine go ?_;intros
  refine aw7 (c := sP7) (x1.1, x1.2.1, x1.2.2.1, x1.2.2.2) H_ah9 h10 fun ch => ?_
  refine go ?_;intros
  cases h102
  exact cm7 ⟨_, _, _, _, _, _, pin, aE7⟩
 rintro t o ⟨b19, b21, c22, b24, c25, b26, pq1, pq2⟩
 refine bl7 pq1 pq2 ?_
 obtain ⟨x27, h28, h⟩ := bnd h
 refine go ?_;intros
 refine aw7 (c := Aj7) (x1.1, x1.2.1, x1.2.2.1, x1.2.2.2) H_df9 h28 fun ch => ?_
 obtain ⟨q36, h103, h⟩ := bnd h
 refine go ?_;intros
 refine cV7 (fun t o => ∃ q36_, q36 = .inr q36_ ∧ ∃ b37 c38 b39 c40 b41, Pin t (ovr [(4, .v (.string x1.2.1)), (5, .v (.string x1.2.2.1)), (6, .v (.string x1.2.2.2)), (7, .ptr 56 b41 210 0 0), (9, .v (.int .i64 q8.1))] t) ∧ d47 o (ovh [(1000896, ent b37 c38 115 (List.map (af7 true) q8.2.1)), (1000897, ent b39 c40 130 (List.map av7 q8.2.2)), (56, ⟨b41, 1, 210, true, [[.al 1000896 b37 c38 0 q8.2.1.length 115, .al 1000897 b39 c40 0 q8.2.2.length 130]]⟩)] o)) ?_ ?_
 ·refine go ?_;intros
  refine aL7 rfl (fun c => ?_) (fun c => ?_)
  ·replace h103 := itt h103 c
   rw [c]
   refine go ?_;intros
   cases h103
   replace h : some _ = some _ := h
   cases h
   exact bp7
  replace h103 := itf h103 c
  rw [c]
  refine go ?_;intros
  refine aL7 rfl (fun c => ?_) (fun c => ?_)
  ·replace h103 := itt h103 c
   rw [c]
   refine go ?_;intros
   refine aq7 rfl (fun c => ?_) (fun c => ?_)
   ·replace h103 := itt h103 c
    try rw [c]
    refine go ?_;intros
    cases h103
    replace h : some _ = some _ := h
    cases h
    exact bp7
   replace h103 := itf h103 c
   try rw [c]
   refine go ?_;intros
   cases h103
   exact cm7 ⟨_, rfl, _, _, _, _, _, pin, aE7⟩
  replace h103 := itf h103 c
  rw [c]
  refine go ?_;intros
  cases h103
  exact cm7 ⟨_, rfl, _, _, _, _, _, pin, aE7⟩
 rintro t o ⟨q36, rfl, b37, c38, b39, c40, b41, pq1, pq2⟩
 refine bl7 pq1 pq2 ?_
 obtain ⟨x42, h43, h⟩ := bnd h
 refine go ?_;intros
 refine aw7 (c := sP7) ((⟨q8.2.1, q8.2.2⟩ : am7), x1.2.1, x1.2.2.1, x1.2.2.2) H_ah9 h43 fun ch => ?_
 obtain ⟨q51, h104, h⟩ := bnd h
 refine go ?_;intros
 refine cV7 (fun t o => ∃ b62 c63 b64 c65 b66 b67 c68 b69 c70 b71 b73 c74 b76 c77 b78, Pin t (ovr [(4, .v (.string x1.2.1)), (5, .v (.string x1.2.2.1)), (6, .v (.string x1.2.2.2)), (7, .ptr 56 b66 210 0 0), (9, .v (.int .i64 q8.1)), (13, .ptr 104 b71 210 0 0), (15, .v (.int .i64 x42.2.2)), (16, .ptr 128 b78 210 0 0), (18, .v (.int .i64 q51.1))] t) ∧ d47 o (ovh [(1000896, ent b62 c63 115 (List.map (af7 true) q8.2.1)), (1000897, ent b64 c65 130 (List.map av7 q8.2.2)), (56, ⟨b66, 1, 210, true, [[.al 1000896 b62 c63 0 q8.2.1.length 115, .al 1000897 b64 c65 0 q8.2.2.length 130]]⟩), (1001664, ent b67 c68 115 (List.map (af7 true) x42.1.commits)), (1001665, ent b69 c70 130 (List.map av7 x42.1.heads)), (104, ⟨b71, 1, 210, true, [[.al 1001664 b67 c68 0 x42.1.commits.length 115, .al 1001665 b69 c70 0 x42.1.heads.length 130]]⟩), (1002048, ent b73 c74 115 (List.map (af7 true) q51.2.1)), (1002049, ent b76 c77 130 (List.map av7 q51.2.2)), (128, ⟨b78, 1, 210, true, [[.al 1002048 b73 c74 0 q51.2.1.length 115, .al 1002049 b76 c77 0 q51.2.2.length 130]]⟩)] o)) ?_ ?_
 ·obtain ⟨x52, h53, h104⟩ := bnd h104
  refine go ?_;intros
  refine aw7 (c := sP7) ((⟨q8.2.1, q8.2.2⟩ : am7), x1.2.2.1, x1.2.1, x1.2.2.2) H_ah9 h53 fun ch => ?_
  refine go ?_;intros
  cases h104
  exact cm7 ⟨_, _, _, _, _, _, _, _, _, _, _, _, _, _, _, pin, aE7⟩
 rintro t o ⟨b62, c63, b64, c65, b66, b67, c68, b69, c70, b71, b73, c74, b76, c77, b78, pq1, pq2⟩
 refine bl7 pq1 pq2 ?_
 obtain ⟨x79, h80, h⟩ := bnd h
 refine go ?_;intros
 refine aw7 (c := sP7) ((⟨q51.2.1, q51.2.2⟩ : am7), x1.2.2.1, x1.2.1, x1.2.2.2) H_ah9 h80 fun ch => ?_
 refine go ?_;intros
 refine aL7 rfl (fun c => ?_) (fun c => ?_)
 ·replace h := itt h c
  rw [c]
  refine go ?_;intros
  cases h
  exact bp7
 replace h := itf h c
 rw [c]
 obtain ⟨x88, h89, h⟩ := bnd h
 refine go ?_;intros
 refine aw7 (c := x07) (x42.1, (⟨q8.2.1, q8.2.2⟩ : am7)) H_an9 h89 fun ch => ?_
 refine go ?_;intros
 refine aL7 rfl (fun c => ?_) (fun c => ?_)
 ·replace h := itt h c
  rw [c]
  refine go ?_;intros
  cases h
  exact bp7
 replace h := itf h c
 rw [c]
 refine go ?_;intros
 refine aL7 rfl (fun c => ?_) (fun c => ?_)
 ·replace h := itt h c
  rw [c]
  refine go ?_;intros
  cases h
  exact bp7
 replace h := itf h c
 rw [c]
 obtain ⟨x90, h91, h⟩ := bnd h
 refine go ?_;intros
 refine aw7 (c := x07) (x79.1, (⟨q51.2.1, q51.2.2⟩ : am7)) H_an9 h91 fun ch => ?_
 refine go ?_;intros
 refine aq7 rfl (fun c => ?_) (fun c => ?_)
 ·replace h := itt h c
  try rw [c]
  refine go ?_;intros
  cases h
  exact bp7
 replace h := itf h c
 try rw [c]
 obtain ⟨q92, h105, h⟩ := bnd h
 refine go ?_;intros
 refine cV7 (fun t o => ∃ q92_, q92 = .inr q92_ ∧ ∃ b93 c94 b95 c96 b97, Pin t (ovr [(4, .v (.string x1.2.1)), (5, .v (.string x1.2.2.1)), (16, .ptr 128 b97 210 0 0)] t) ∧ d47 o (ovh [(1002048, ent b93 c94 115 (List.map (af7 true) q51.2.1)), (1002049, ent b95 c96 130 (List.map av7 q51.2.2)), (128, ⟨b97, 1, 210, true, [[.al 1002048 b93 c94 0 q51.2.1.length 115, .al 1002049 b95 c96 0 q51.2.2.length 130]]⟩)] o)) ?_ ?_
 ·refine go ?_;intros
  refine aL7 rfl (fun c => ?_) (fun c => ?_)
  ·replace h105 := itt h105 c
   rw [c]
   refine go ?_;intros
   refine aL7 rfl (fun c => ?_) (fun c => ?_)
   ·replace h105 := itt h105 c
    rw [c]
    refine go ?_;intros
    cases h105
    replace h : some _ = some _ := h
    cases h
    exact bp7
   replace h105 := itf h105 c
   rw [c]
   refine go ?_;intros
   refine aL7 rfl (fun c => ?_) (fun c => ?_)
   ·replace h105 := itt h105 c
    rw [c]
    refine go ?_;intros
    refine aq7 rfl (fun c => ?_) (fun c => ?_)
    ·replace h105 := itt h105 c
     try rw [c]
     refine go ?_;intros
     cases h105
     replace h : some _ = some _ := h
     cases h
     exact bp7
    replace h105 := itf h105 c
    try rw [c]
    refine go ?_;intros
    cases h105
    exact cm7 ⟨_, rfl, _, _, _, _, _, pin, aE7⟩
   replace h105 := itf h105 c
   rw [c]
   refine go ?_;intros
   cases h105
   exact cm7 ⟨_, rfl, _, _, _, _, _, pin, aE7⟩
  replace h105 := itf h105 c
  rw [c]
  refine go ?_;intros
  refine aL7 rfl (fun c => ?_) (fun c => ?_)
  ·replace h105 := itt h105 c
   rw [c]
   refine go ?_;intros
   refine aq7 rfl (fun c => ?_) (fun c => ?_)
   ·replace h105 := itt h105 c
    try rw [c]
    refine go ?_;intros
    cases h105
    replace h : some _ = some _ := h
    cases h
    exact bp7
   replace h105 := itf h105 c
   try rw [c]
   refine go ?_;intros
   cases h105
   exact cm7 ⟨_, rfl, _, _, _, _, _, pin, aE7⟩
  replace h105 := itf h105 c
  rw [c]
  refine go ?_;intros
  cases h105
  exact cm7 ⟨_, rfl, _, _, _, _, _, pin, aE7⟩
 rintro t o ⟨q92, rfl, b93, c94, b95, c96, b97, pq1, pq2⟩
 refine bl7 pq1 pq2 ?_
 obtain ⟨x98, h99, h⟩ := bnd h
 refine go ?_;intros
 refine aw7 (c := xZ7) ((⟨q51.2.1, q51.2.2⟩ : am7), x1.2.2.1) H_aj9 h99 fun ch => ?_
 obtain ⟨x100, h101, h⟩ := bnd h
 refine go ?_;intros
 refine aw7 (c := xZ7) ((⟨q51.2.1, q51.2.2⟩ : am7), x1.2.1) H_aj9 h101 fun ch => ?_
 refine go ?_;intros
 cases h
 exact bp7
end Go.Proofs.AM
