/- Lemmas of the proof (UFF10), on an abstract machine. Conditions: none. -/
import Derived.Test.YtnnfdbdheoajgaaGreatUFD
set_option linter.unusedVariables false
set_option linter.unusedSimpArgs false
set_option maxRecDepth 100000
set_option maxHeartbeats 4000000
namespace Go.Proofs.AM
attribute [local irreducible] vwp cZ7 bI7 f17 vdo jm7 mB7 jX7 fg7 mr7 kD7 bL7 e77 kn7 eX7 jL7 kT7 kS7
theorem PN7 : OkC [lS7] At7 Lt7 Lu7 := by
 refine ok fun G H ⟨a0, g0, g1⟩ r h => ?_
 refine st1 fun bs t o => ?_
 dsimp only [q27] at h
 exact cls
theorem PO7 : OkC [Ap7, mF7, cq7, Ao7, As7, At7, sp7, xv7] xP7 Lv7 Lw7 := by
 refine ok fun G H ⟨a0, a1, g0, g1, g2, g3, g4, g5⟩ r h => ?_
 have H_gc9 := H _ (.head _)
 have H_fy9 := H _ (.tail _ (.head _))
 have H_ec9 := H _ (.tail _ (.tail _ (.head _)))
 have H_dp9 := H _ (.tail _ (.tail _ (.tail _ (.head _))))
 have H_ff9 := H _ (.tail _ (.tail _ (.tail _ (.tail _ (.head _)))))
 have H_gd9 := H _ (.tail _ (.tail _ (.tail _ (.tail _ (.tail _ (.head _))))))
 have H_fv9 := H _ (.tail _ (.tail _ (.tail _ (.tail _ (.tail _ (.tail _ (.head _)))))))
 have H_ft9 := H _ (.tail _ (.tail _ (.tail _ (.tail _ (.tail _ (.tail _ (.tail _ (.head _))))))))
 refine st1 fun bs t o => ?_
 dsimp only [q37] at h
 obtain ⟨x3, h4, h⟩ := bnd h
 refine go ?_;intros
 refine ao7 (c := Ap7) (a0, g0, g1) H_gc9 h4 fun ch => ?_
 obtain ⟨x5, h6, h⟩ := bnd h
 refine go ?_;intros
 refine aj7 (c := mF7) (a1, x3.1) H_fy9 h6 fun ch => ?_
 refine go ?_;intros
 refine ar7 rfl (fun c => ?_) (fun c => ?_)
 ·replace h := itt h c
  try rw [c]
  obtain ⟨x7, h8, h⟩ := bnd h
  refine go ?_;intros
  refine ao7 (c := cq7) ((⟨a0.b, x3.2⟩ : Rd), (a1.heads.length : Int), g0, g1) H_ec9 h8 fun ch => ?_
  obtain ⟨x9, h10, h⟩ := bnd h
  refine go ?_;intros
  refine cK7 rfl rfl h10 rfl ?_
  obtain ⟨x11, h12, h⟩ := bnd h
  refine go ?_;intros
  refine aj7 (c := Ao7) (a1, x3.1, x9.name) H_dp9 h12 fun ch => ?_
  refine go ?_;intros
  refine ar7 rfl (fun c => ?_) (fun c => ?_)
  ·replace h := itt h (by first | exact c | (have c2 := c; simp only [List.length_map] at c2; exact c2))
   try rw [c]
   refine go ?_;intros
   cases h
   exact aY7
  replace h := itf h (by first | exact c | (have c2 := c; simp only [List.length_map] at c2; exact c2))
  try rw [c]
  refine go ?_;intros
  refine Ga7 rfl rfl rfl rfl ?_
  refine go ?_;intros
  cases h
  exact aY7
 replace h := itf h c
 try rw [c]
 obtain ⟨x18, h19, h⟩ := bnd h
 refine go ?_;intros
 refine cK7 rfl rfl h19 rfl ?_
 obtain ⟨q20, h75, h⟩ := bnd h
 refine go ?_;intros
 refine c07 (fun t o => ∃ b30 b31 c32 b33 c34 b35 b36 c37 b40, Pin t (ovr [(0, .ptr 0 (bs 0).1 290 0 0), (3, .ptr 24 b30 210 0 0), (4, .ptr 32 b35 210 0 0), (6, .v (.int .i64 x5)), (9, .v (.int .i64 x18.at_)), (10, .ptr 80 b40 115 0 0)] t) ∧ ed7 o (ovh [(0, ⟨(bs 0).1, (bs 0).2, 290, true, [[.rw g0 g1 (List.map eU8 a0.b), .v (.int .i64 q20.1)]]⟩), (24, ⟨b30, 1, 210, true, [[.rw g2 g3 (List.map (af7 false) a1.commits), .rw g4 g5 (List.map av7 a1.heads)]]⟩), (1000512, ent b31 c32 115 (List.map (af7 true) [])), (1000513, ent b33 c34 130 (List.map av7 [])), (32, ⟨b35, 1, 210, true, [[.al 1000512 b31 c32 0 ([] : List Commit).length 115, .al 1000513 b33 c34 0 ([] : List Head).length 130]]⟩), (1001280, ent b36 c37 17 (List.map br7 [x18.at_])), (80, ⟨b40, 1, 115, true, [[.al 1001280 b36 c37 0 [x18.at_].length 17, .sl false 4 (List.map (ag7 false) q20.2.1), .v (.string q20.2.2)]]⟩)] o)) ?_ ?_
 ·obtain ⟨x22, h23, h75⟩ := bnd h75
  refine go ?_;intros
  refine cK7 rfl rfl h23 rfl ?_
  obtain ⟨x24, h25, h75⟩ := bnd h75
  refine go ?_;intros
  refine ao7 (c := As7) ((⟨a0.b, x3.2⟩ : Rd), x22.sheet, g0, g1) H_ff9 h25 fun ch => ?_
  obtain ⟨x26, h27, h75⟩ := bnd h75
  refine go ?_;intros
  refine ao7 (c := At7) ((⟨a0.b, x24.2⟩ : Rd), g0, g1) H_gd9 h27 fun ch => ?_
  refine go ?_;intros
  cases h75
  exact cN7 ⟨_, _, _, _, _, _, _, _, _, pin, aJ7⟩
 rintro t o ⟨b30, b31, c32, b33, c34, b35, b36, c37, b40, pq1, pq2⟩
 refine bo7 pq1 pq2 ?_
 obtain ⟨x41, h42, h⟩ := bnd h
 refine go ?_;intros
 refine ao7 (c := cq7) ((⟨a0.b, q20.1⟩ : Rd), (a1.heads.length : Int), g0, g1) H_ec9 h42 fun ch => ?_
 obtain ⟨x43, h44, h⟩ := bnd h
 refine go ?_;intros
 refine cK7 rfl rfl h44 rfl ?_
 obtain ⟨q48, h76, h⟩ := bnd h
 refine go ?_;intros
 refine c07 (fun t o => ∃ b52 b53 c54 b55 c56 b57 b59 c60 b61, Pin t (ovr [(3, .ptr 24 b52 210 0 0), (4, .ptr 32 b57 210 0 0), (6, .v (.int .i64 x5)), (10, .ptr 80 b61 115 0 0)] t) ∧ ed7 o (ovh [(24, ⟨b52, 1, 210, true, [[.rw g2 g3 (List.map (af7 false) a1.commits), .rw g4 g5 (List.map av7 a1.heads)]]⟩), (1000512, ent b53 c54 115 (List.map (af7 true) [])), (1000513, ent b55 c56 130 (List.map av7 [])), (32, ⟨b57, 1, 210, true, [[.al 1000512 b53 c54 0 ([] : List Commit).length 115, .al 1000513 b55 c56 0 ([] : List Head).length 130]]⟩), (1001280, ent b59 c60 17 (List.map br7 q48.1)), (80, ⟨b61, 1, 115, true, [[.al 1001280 b59 c60 0 q48.1.length 17, .sl false 4 (List.map (ag7 false) q20.2.1), .v (.string q20.2.2)]]⟩), (0, ⟨(bs 0).1, (bs 0).2, 290, true, [[.rw g0 g1 (List.map eU8 a0.b), .v (.int .i64 q48.2)]]⟩)] o)) ?_ ?_
 ·refine go ?_;intros
  refine aF7 rfl (fun c => ?_) (fun c => ?_)
  ·replace h76 := itt h76 c
   rw [c]
   obtain ⟨x49, h50, h76⟩ := bnd h76
   refine go ?_;intros
   refine ao7 (c := cq7) ((⟨a0.b, x41.2⟩ : Rd), 4, g0, g1) H_ec9 h50 fun ch => ?_
   refine go ?_;intros
   refine ar7 rfl (fun c => ?_) (fun c => ?_)
   ·replace h76 := itt h76 c
    try rw [c]
    refine go ?_;intros
    cases h76
    exact cN7 ⟨_, _, _, _, _, _, _, _, _, pin, aJ7⟩
   replace h76 := itf h76 c
   try rw [c]
   refine go ?_;intros
   cases h76
   exact cN7 ⟨_, _, _, _, _, _, _, _, _, pin, aJ7⟩
  replace h76 := itf h76 c
  rw [c]
  refine go ?_;intros
  cases h76
  exact cN7 ⟨_, _, _, _, _, _, _, _, _, pin, aJ7⟩
 rintro t o ⟨b52, b53, c54, b55, c56, b57, b59, c60, b61, pq1, pq2⟩
 refine bo7 pq1 pq2 ?_
 refine go ?_;intros
 refine ar7 rfl (fun c => ?_) (fun c => ?_)
 ·replace h := itt h (by first | exact c | (have c2 := c; simp only [List.length_map] at c2; exact c2))
  try rw [c]
  refine go ?_;intros
  refine Ga7 rfl rfl rfl rfl ?_
  refine go ?_;intros
  cases h
  exact aY7
 replace h := itf h (by first | exact c | (have c2 := c; simp only [List.length_map] at c2; exact c2))
 try rw [c]
 obtain ⟨x63, h64, h⟩ := bnd h
 refine go ?_;intros
 refine aj7 (c := sp7) (a1) H_fv9 h64 fun ch => ?_
 obtain ⟨x69, h70, h⟩ := bnd h
 refine go ?_;intros
 refine ao7 (c := xv7) (x63, x5, (⟨q48.1, q20.2.1, q20.2.2⟩ : Commit)) H_ft9 h70 fun ch => ?_
 refine go ?_;intros
 cases h
 exact aY7
theorem PP7 : OkC [An7, vf7, cq7, xP7] Au7 Lx7 Ly7 := by
 refine ok fun G H ⟨a0, g0, g1⟩ r h => ?_
 have H_dq9 := H _ (.head _)
 have H_fc9 := H _ (.tail _ (.head _))
 have H_ec9 := H _ (.tail _ (.tail _ (.head _)))
 have H_fx9 := H _ (.tail _ (.tail _ (.tail _ (.head _))))
 refine st1 fun bs t o => ?_
 dsimp only [q57] at h
 obtain ⟨x2, h3, h⟩ := bnd h
 refine go ?_;intros
 refine aj7 (c := An7) ((⟨#[109, 97, 105, 110]⟩ : Str)) H_dq9 h3 fun ch => ?_
 refine go ?_;intros
 refine r87 ?_
 refine go ?_;intros
 refine BG7 (f := (af7 true)) (g := bi7) (lo7 _) rfl rfl ?_
 refine go ?_;intros
 refine bz7 ?_
 obtain ⟨x9, h10, h⟩ := bnd h
 refine go ?_;intros
 refine ao7 (c := vf7) (a0, g0, g1) H_fc9 h10 fun ch => ?_
 refine go ?_;intros
 refine ec7 ?_
 obtain ⟨x13, h14, h⟩ := bnd h
 refine go ?_;intros
 refine eK7 (xs := x2.1.commits) rfl rfl h14 rfl ?_
 refine go ?_;intros
 refine cu7 (f := bi7) x2.1.commits (⟨x13.up, x9.1, x13.note⟩ : Commit) (aL7 h14).2 ?_
 obtain ⟨x15, h16, h⟩ := bnd h
 refine go ?_;intros
 refine ao7 (c := cq7) ((⟨a0.b, x9.2⟩ : Rd), 7, g0, g1) H_ec9 h16 fun ch => ?_
 obtain ⟨q56, h94, h⟩ := bnd h
 refine go ?_;intros
 refine ls7 (fun t o => ∃ b78 c79 b80 c81 b82 b84 c85 b87 c88 b89, Pin t (ovr [(0, .ptr 0 (bs 0).1 290 0 0), (2, .ptr 16 b82 210 0 0), (3, .ptr 24 b89 210 0 0)] t) ∧ ed7 o (ovh [(0, ⟨(bs 0).1, (bs 0).2, 290, true, [[.rw g0 g1 (List.map eU8 a0.b), .v (.int .i64 q56.1)]]⟩), (1000256, ent b78 c79 115 (List.map (af7 true) [])), (1000257, ent b80 c81 130 (List.map av7 [])), (16, ⟨b82, 1, 210, true, [[.al 1000256 b78 c79 0 ([] : List Commit).length 115, .al 1000257 b80 c81 0 ([] : List Head).length 130]]⟩), (1000384, ent b84 c85 115 (List.map bi7 q56.2.1)), (1000385, ent b87 c88 130 (List.map av7 q56.2.2)), (24, ⟨b89, 1, 210, true, [[.al 1000384 b84 c85 0 q56.2.1.length 115, .al 1000385 b87 c88 0 q56.2.2.length 130]]⟩)] o)) ?_ ?_
 ·refine fj7 (fun n t o => ∃ n71 v57 v58 v64 v67 b59 c60 b61 c62 b63 b65 c66 b68 c69 b70, dI7 a0 n71 v57 v58 v64 v67 = some q56 ∧ n71 = n ∧ Pin t (ovr [(0, .ptr 0 (bs 0).1 290 0 0), (2, .ptr 16 b63 210 0 0), (3, .ptr 24 b70 210 0 0), (5, .v (.int .i64 v57))] t) ∧ ed7 o (ovh [(0, ⟨(bs 0).1, (bs 0).2, 290, true, [[.rw g0 g1 (List.map eU8 a0.b), .v (.int .i64 v58)]]⟩), (1000256, ent b59 c60 115 (List.map (af7 true) [])), (1000257, ent b61 c62 130 (List.map av7 [])), (16, ⟨b63, 1, 210, true, [[.al 1000256 b59 c60 0 ([] : List Commit).length 115, .al 1000257 b61 c62 0 ([] : List Head).length 130]]⟩), (1000384, ent b65 c66 115 (List.map bi7 v64)), (1000385, ent b68 c69 130 (List.map av7 v67)), (24, ⟨b70, 1, 210, true, [[.al 1000384 b65 c66 0 v64.length 115, .al 1000385 b68 c69 0 v67.length 130]]⟩)] o)) _ ⟨_, _, _, _, _, _, _, _, _, _, _, _, _, _, _, h94, rfl, pin, aJ7⟩ ?_
  rintro n t o ⟨n71, v57, v58, v64, v67, b59, c60, b61, c62, b63, b65, c66, b68, c69, b70, h94, rfl, pq1, pq2⟩
  refine bo7 pq1 pq2 ?_
  cases n71 with
  | zero => rw [dI7] at h94; cases h94
  | succ n71 =>
   rw [dI7] at h94
   refine go ?_;intros
   refine ar7 rfl (fun c => ?_) (fun c => ?_)
   ·replace h94 := itt h94 c
    try rw [c]
    refine go ?_;intros
    refine Gl7 ?_
    refine go ?_;intros
    refine QZ7 rfl rfl ?_
    refine go ?_;intros
    refine r87 ?_
    refine go ?_;intros
    refine M97 ?_
    obtain ⟨x72, h73, h94⟩ := bnd h94
    rcases x72 with ⟨_ | y74, p75⟩
    ·dsimp only at h94
     refine go ?_;intros
     refine ao7 (c := xP7) ((⟨a0.b, v58⟩ : Rd), (⟨v64, v67⟩ : an7), g0, g1, (ur7 b65), c66, (ur7 b68), c69) H_fx9 h73 fun ch76 => ?_
     refine go ?_;intros
     refine Qt7 rfl (BJ7 rfl rfl (by first | rfl | simp) (BJ7 rfl rfl (by first | rfl | simp) BH7)) ?_
     refine go ?_;intros
     refine BG7 (f := bi7) (g := bi7) (nl7 _) rfl rfl ?_
     refine go ?_;intros
     exact gy7 _ (Nat.lt_succ_self _) ⟨_, _, _, _, _, _, _, _, _, _, _, _, _, _, _, h94, rfl, pin, aJ7⟩
    dsimp only at h94
    refine go ?_;intros
    refine ao7 (c := xP7) ((⟨a0.b, v58⟩ : Rd), (⟨v64, v67⟩ : an7), g0, g1, (ur7 b65), c66, (ur7 b68), c69) H_fx9 h73 fun ch76 => ?_
    refine go ?_;intros
    refine Qt7 rfl (BI7 (BI7 BH7)) ?_
    refine go ?_;intros
    refine BG7 (f := (af7 true)) (g := bi7) (lo7 _) rfl rfl ?_
    refine go ?_;intros
    exact gy7 _ (Nat.lt_succ_self _) ⟨_, _, _, _, _, _, _, _, _, _, _, _, _, _, _, h94, rfl, pin, aJ7⟩
   replace h94 := itf h94 c
   try rw [c]
   refine go ?_;intros
   cases h94
   exact cN7 ⟨_, _, _, _, _, _, _, _, _, _, pin, aJ7⟩
 rintro t o ⟨b78, c79, b80, c81, b82, b84, c85, b87, c88, b89, pq1, pq2⟩
 refine hM7 pq1 pq2 ?_
 obtain ⟨x90, h91, h⟩ := bnd h
 refine go ?_;intros
 refine ao7 (c := cq7) ((⟨a0.b, q56.1⟩ : Rd), 4, g0, g1) H_ec9 h91 fun ch => ?_
 refine go ?_;intros
 refine aF7 rfl (fun c => ?_) (fun c => ?_)
 ·replace h := itt h c
  rw [c]
  refine go ?_;intros
  refine ar7 rfl (fun c => ?_) (fun c => ?_)
  ·replace h := itt h (by first | exact c | (have c2 := c; simp only [List.length_map] at c2; exact c2))
   try rw [c]
   refine go ?_;intros
   refine CX7 ?_
   obtain ⟨x92, h93, h⟩ := bnd h
   refine go ?_;intros
   refine Gm7 (xs := q56.2.2) h93 rfl rfl rfl rfl (by first | rfl | simp) ?_
   refine go ?_;intros
   refine Qs7 (f := av7) h93 rfl rfl rfl ?_
   refine go ?_;intros
   cases h
   exact aY7
  replace h := itf h (by first | exact c | (have c2 := c; simp only [List.length_map] at c2; exact c2))
  try rw [c]
  refine go ?_;intros
  cases h
  exact aY7
 replace h := itf h c
 rw [c]
 refine go ?_;intros
 cases h
 exact aY7
theorem PQ7 : OkC [Au7, cq7, mG7, Am7] EI7 Lz7 LA7 := by
 refine ok fun G H ⟨a0, g0, g1⟩ r h => ?_
 have H_gf9 := H _ (.head _)
 have H_ec9 := H _ (.tail _ (.head _))
 have H_ea9 := H _ (.tail _ (.tail _ (.head _)))
 have H_ew9 := H _ (.tail _ (.tail _ (.tail _ (.head _))))
 refine st1 fun bs t o => ?_
 dsimp only [q67] at h
 obtain ⟨x2, h3, h⟩ := bnd h
 refine go ?_;intros
 refine ao7 (c := Au7) (a0, g0, g1) H_gf9 h3 fun ch => ?_
 obtain ⟨x9, h10, h⟩ := bnd h
 refine go ?_;intros
 refine ao7 (c := cq7) ((⟨a0.b, x2.2⟩ : Rd), (x2.1.commits.length : Int), g0, g1) H_ec9 h10 fun ch => ?_
 obtain ⟨x11, h12, h⟩ := bnd h
 refine go ?_;intros
 refine ao7 (c := cq7) ((⟨a0.b, x9.2⟩ : Rd), 48, g0, g1) H_ec9 h12 fun ch => ?_
 obtain ⟨q13, h53, h⟩ := bnd h
 refine go ?_;intros
 refine c07 (fun t o => ∃ b14 c15 b16 c17 b18 b19 c20 b21 c22 b23, Pin t (ovr [(0, .ptr 0 (bs 0).1 290 0 0), (2, .ptr 16 b18 210 0 0), (3, .ptr 24 b23 210 0 0), (4, .v (.int .i64 x9.1)), (13, .v (.int .i64 x11.1)), (14, .v (.bool (x11.1 == 0)))] t) ∧ ed7 o (ovh [(0, ⟨(bs 0).1, (bs 0).2, 290, true, [[.rw g0 g1 (List.map eU8 a0.b), .v (.int .i64 x11.2)]]⟩), (1000256, ent b14 c15 115 (List.map (af7 true) [])), (1000257, ent b16 c17 130 (List.map av7 [])), (16, ⟨b18, 1, 210, true, [[.al 1000256 b14 c15 0 ([] : List Commit).length 115, .al 1000257 b16 c17 0 ([] : List Head).length 130]]⟩), (1000384, ent b19 c20 115 (List.map bi7 x2.1.commits)), (1000385, ent b21 c22 130 (List.map av7 x2.1.heads)), (24, ⟨b23, 1, 210, true, [[.al 1000384 b19 c20 0 x2.1.commits.length 115, .al 1000385 b21 c22 0 x2.1.heads.length 130]]⟩)] o)) ?_ ?_
 ·refine go ?_;intros
  cases h53
  exact cN7 ⟨_, _, _, _, _, _, _, _, _, _, pin, aJ7⟩
 rintro t o ⟨b14, c15, b16, c17, b18, b19, c20, b21, c22, b23, pq1, pq2⟩
 refine bo7 pq1 pq2 ?_
 refine go ?_;intros
 refine ar7 rfl (fun c => ?_) (fun c => ?_)
 ·replace h := itt h c
  try rw [c]
  obtain ⟨x25, h26, h⟩ := bnd h
  refine go ?_;intros
  refine ao7 (c := mG7) ((⟨a0.b, x11.2⟩ : Rd), ([(-1), (x2.1.commits.length : Int)] : (List Int)), g0, g1) H_ea9 h26 fun ch => ?_
  obtain ⟨x27, h28, h⟩ := bnd h
  refine go ?_;intros
  refine eK7 (xs := x2.1.heads) rfl rfl h28 rfl ?_
  refine go ?_;intros
  refine cu7 (f := av7) x2.1.heads (⟨x27.name, x25.1⟩ : Head) (aL7 h28).2 ?_
  refine go ?_;intros
  cases h
  exact aY7
 replace h := itf h c
 try rw [c]
 refine go ?_;intros
 refine ar7 rfl (fun c => ?_) (fun c => ?_)
 ·replace h := itt h c
  try rw [c]
  obtain ⟨x29, h30, h⟩ := bnd h
  refine go ?_;intros
  refine eK7 (xs := x2.1.commits) rfl rfl h30 rfl ?_
  refine go ?_;intros
  refine Go7 (f := bi7) (g := br7) (xs := x2.1.commits) (x := x29) (ys := x29.up) (aL7 h30).2 rfl rfl rfl fun b31 c32 => ?_
  obtain ⟨h36, h⟩ := gd h
  refine go ?_;intros
  refine dD7 (f := br7) (xs := x29.up) (ys := ([x9.1] : (List Int))) rfl (dZ7 rfl rfl (by first | rfl | simp)) rfl rfl (by first | rfl | simp) h36 fun b34 c35 => ?_
  refine go ?_;intros
  refine eK7 (xs := x2.1.commits) rfl rfl h30 rfl ?_
  refine go ?_;intros
  refine Nf7 (f := bi7) x2.1.commits (⟨(x29.up ++ ([x9.1] : (List Int))), x29.sheet, x29.note⟩ : Commit) (aL7 h30).2 ?_
  refine go ?_;intros
  cases h
  exact aY7
 replace h := itf h c
 try rw [c]
 refine go ?_;intros
 refine ar7 rfl (fun c => ?_) (fun c => ?_)
 ·replace h := itt h c
  try rw [c]
  refine go ?_;intros
  refine bz7 ?_
  obtain ⟨x37, h38, h⟩ := bnd h
  refine go ?_;intros
  refine ao7 (c := Am7) ((⟨a0.b, x11.2⟩ : Rd), g0, g1) H_ew9 h38 fun ch => ?_
  refine go ?_;intros
  refine ec7 ?_
  obtain ⟨x41, h42, h⟩ := bnd h
  refine go ?_;intros
  refine eK7 (xs := x2.1.commits) rfl rfl h42 rfl ?_
  refine go ?_;intros
  refine cu7 (f := bi7) x2.1.commits (⟨x41.up, x37.1, x41.note⟩ : Commit) (aL7 h42).2 ?_
  refine go ?_;intros
  cases h
  exact aY7
 replace h := itf h c
 try rw [c]
 refine go ?_;intros
 refine ar7 rfl (fun c => ?_) (fun c => ?_)
 ·replace h := itt h c
  try rw [c]
  obtain ⟨x43, h44, h⟩ := bnd h
  refine go ?_;intros
  refine eK7 (xs := x2.1.commits) rfl rfl h44 rfl ?_
  refine go ?_;intros
  refine cu7 (f := bi7) x2.1.commits (⟨x43.up, x43.sheet, (⟨#[]⟩ : Str)⟩ : Commit) (aL7 h44).2 ?_
  refine go ?_;intros
  cases h
  exact aY7
 replace h := itf h c
 try rw [c]
 refine go ?_;intros
 refine ar7 rfl (fun c => ?_) (fun c => ?_)
 ·replace h := itt h c
  try rw [c]
  obtain ⟨x45, h46, h⟩ := bnd h
  refine go ?_;intros
  refine eK7 (xs := x2.1.heads) rfl rfl h46 rfl ?_
  refine go ?_;intros
  refine oi7 (f := av7) (xs := x2.1.heads) (x := x45) rfl rfl (aL7 h46).2 rfl rfl rfl ?_
  obtain ⟨h50, h⟩ := gd h
  refine go ?_;intros
  refine dD7 (f := av7) (xs := x2.1.heads) (ys := ([x45] : (List Head))) rfl (dZ7 rfl rfl (by first | rfl | simp)) rfl rfl (by first | rfl | simp) h50 fun b48 c49 => ?_
  refine go ?_;intros
  cases h
  exact aY7
 replace h := itf h c
 try rw [c]
 refine go ?_;intros
 refine ar7 rfl (fun c => ?_) (fun c => ?_)
 ·replace h := itt h c
  try rw [c]
  obtain ⟨x51, h52, h⟩ := bnd h
  refine go ?_;intros
  refine eK7 (xs := x2.1.commits) rfl rfl h52 rfl ?_
  refine go ?_;intros
  refine cu7 (f := bi7) x2.1.commits (⟨[], x51.sheet, x51.note⟩ : Commit) (aL7 h52).2 ?_
  refine go ?_;intros
  cases h
  exact aY7
 replace h := itf h c
 try rw [c]
 refine go ?_;intros
 cases h
 exact aY7
theorem PR7 : OkC [st7, su7] sx7 LB7 LC7 := by
 refine ok fun G H ⟨a0, a1⟩ r h => ?_
 refine st1 fun bs t o => ?_
 dsimp only [iI7] at h
 exact cls
theorem PS7 : OkC [su7, sr7, xK7, st7] Av7 LD7 LE7 := by
 refine ok fun G H ⟨a0, a1, a2⟩ r h => ?_
 refine st1 fun bs t o => ?_
 dsimp only [nN7] at h
 refine gx fun x3 h4 x5 h6 => ?_; intros; rename_i h
 obtain ⟨q7, hq, h⟩ := bnd h
 refine a37 [1, 2, 3, 6] [24, 1000768, 1000769, 48] (fun K J t o => ∃ b16 c17 b19 c20 b21, PP ((8, .ptr 64 b21 210 0 0) :: K) ((1001024, ent b16 c17 115 (List.map (af7 true) q7.1)) :: (1001025, ent b19 c20 130 (List.map av7 q7.2)) :: (64, ⟨b21, 1, 210, true, [[.al 1001024 b16 c17 0 q7.1.length 115, .al 1001025 b19 c20 0 q7.2.length 130]]⟩) :: J) t o) ?_ ?_
 ·have h := hq
  exact cls
 rintro t o ⟨b16, c17, b19, c20, b21, pq⟩
 refine pn pq ?_
 exact cls
theorem PT7 : OkC [EH7, EI7, lS7] Aw7 LF7 LG7 := by
 refine ok fun G H ⟨a0, g0, g1⟩ r h => ?_
 refine st1 fun bs t o => ?_
 dsimp only [q77] at h
 exact cls
theorem PU7 : OkC [mF7, so7] oC7 LH7 LI7 := by
 refine ok fun G H ⟨a0, a1⟩ r h => ?_
 refine st1 fun bs t o => ?_
 dsimp only [hq7] at h
 exact cls
theorem PV7 : OkC [Eq7] EJ7 LJ7 LK7 := by
 refine ok fun G H ⟨a0, a1⟩ r h => ?_
 refine st1 fun bs t o => ?_
 dsimp only [xQ7] at h
 exact cls
theorem PW7 : OkC [EJ7] LN7 LL7 LM7 := by
 refine ok fun G H ⟨a0, a1⟩ r h => ?_
 refine st1 fun bs t o => ?_
 dsimp only [BU7] at h
 exact cls
theorem PX7 : OkC [qC7, va7, vb7, vc7, oB7, EK7] xS7 LO7 LP7 := by
 refine ok fun G H ⟨a0, a1⟩ r h => ?_
 have H_be9 := H _ (.head _)
 have H_ae9 := H _ (.tail _ (.head _))
 have H_bn9 := H _ (.tail _ (.tail _ (.head _)))
 have H_bo9 := H _ (.tail _ (.tail _ (.tail _ (.head _))))
 have H_bk9 := H _ (.tail _ (.tail _ (.tail _ (.tail _ (.head _)))))
 have H_de9 := H _ (.tail _ (.tail _ (.tail _ (.tail _ (.tail _ (.head _))))))
 refine st1 fun bs t o => ?_
 dsimp only [nO7] at h
 obtain ⟨x2, h3, h⟩ := bnd h
 refine go ?_;intros
 refine aj7 (c := qC7) (a0) H_be9 h3 fun ch => ?_
 refine go ?_;intros
 refine aF7 rfl (fun c => ?_) (fun c => ?_)
 ·replace h := itt h c
  rw [c]
  refine go ?_;intros
  cases h
  exact a27
 replace h := itf h c
 rw [c]
 obtain ⟨x4, h5, h⟩ := bnd h
 refine go ?_;intros
 refine aj7 (c := va7) (a1) H_ae9 h5 fun ch => ?_
 refine go ?_;intros
 refine ar7 rfl (fun c => ?_) (fun c => ?_)
 ·replace h := itt h c
  try rw [c]
  refine go ?_;intros
  cases h
  exact a27
 replace h := itf h c
 try rw [c]
 refine go ?_;intros
 refine r87 ?_
 obtain ⟨x8, h9, h⟩ := bnd h
 refine go ?_;intros
 refine aj7 (c := vb7) (a0) H_bn9 h9 fun ch => ?_
 refine go ?_;intros
 refine BG7 (f := ag7 true) (g := ag7 false) (lp7 _) rfl rfl ?_
 obtain ⟨x12, h13, h⟩ := bnd h
 refine go ?_;intros
 refine aj7 (c := vc7) (x8, a1.id) H_bo9 h13 fun ch => ?_
 refine go ?_;intros
 refine ar7 rfl (fun c => ?_) (fun c => ?_)
 ·replace h := itt h c
  try rw [c]
  refine go ?_;intros
  refine bz7 ?_
  obtain ⟨x14, h15, h⟩ := bnd h
  refine go ?_;intros
  refine aj7 (c := oB7) (a1) H_bk9 h15 fun ch => ?_
  refine go ?_;intros
  refine ec7 ?_
  obtain ⟨x20, h21, h⟩ := bnd h
  refine go ?_;intros
  refine eK7 (xs := x8) rfl rfl h21 rfl ?_
  refine go ?_;intros
  refine cu7 (f := (ag7 false)) x8 x14 (aL7 h21).2 ?_
  refine go ?_;intros
  cases h
  exact a27
 replace h := itf h c
 try rw [c]
 refine go ?_;intros
 refine ar7 rfl (fun c => ?_) (fun c => ?_)
 ·replace h := itt h (by first | exact c | (have c2 := c; simp only [List.length_map] at c2; exact c2))
  try rw [c]
  refine go ?_;intros
  cases h
  exact a27
 replace h := itf h (by first | exact c | (have c2 := c; simp only [List.length_map] at c2; exact c2))
 try rw [c]
 refine go ?_;intros
 refine bz7 ?_
 refine go ?_;intros
 refine ec7 ?_
 obtain ⟨h26, h⟩ := gd h
 refine go ?_;intros
 refine dD7 (f := (ag7 false)) (xs := x8) (ys := ([a1] : (List Feat))) rfl (dZ7 rfl rfl (by first | rfl | simp)) rfl rfl (by first | rfl | simp) h26 fun b24 c25 => ?_
 obtain ⟨x27, h28, h⟩ := bnd h
 refine go ?_;intros
 have L28 := NB7 h28; (try dsimp only at L28); refine ao7 (c := EK7) ((x8 ++ ([a1] : (List Feat)))) H_de9 h28 fun ch => ?_
 refine go ?_;intros
 refine r87 ?_
 obtain ⟨x29, h30, h⟩ := bnd h
 refine go ?_;intros
 refine aj7 (c := vb7) (x27) H_bn9 h30 fun ch => ?_
 refine go ?_;intros
 refine BG7 (f := ag7 true) (g := ag7 false) (lp7 _) rfl rfl ?_
 refine go ?_;intros
 cases h
 exact a27
theorem PY7 : OkC [su7, qC7, sr7, xK7, st7, z37, Ag7] xT7 LQ7 LR7 := by
 refine ok fun G H ⟨a0, a1, a2, a3⟩ r h => ?_
 refine st1 fun bs t o => ?_
 dsimp only [kd7] at h
 refine gx fun x3 h4 x5 h6 x7 h8 => ?_; intros; rename_i h
 obtain ⟨q9, hq, h⟩ := bnd h
 refine a37 [1, 2, 3, 4, 8] [32, 1001024, 1001025, 64] (fun K J t o => ∃ b18 c19 b21 c22 b23, PP ((10, .ptr 80 b23 210 0 0) :: K) ((1001280, ent b18 c19 115 (List.map (af7 true) q9.1)) :: (1001281, ent b21 c22 130 (List.map av7 q9.2)) :: (80, ⟨b23, 1, 210, true, [[.al 1001280 b18 c19 0 q9.1.length 115, .al 1001281 b21 c22 0 q9.2.length 130]]⟩) :: J) t o) ?_ ?_
 ·have h := hq
  exact cls
 rintro t o ⟨b18, c19, b21, c22, b23, pq⟩
 refine pn pq ?_
 exact cls
theorem PZ7 : OkC [vc7, qC7, oB7] xU7 LS7 LT7 := by
 refine ok fun G H ⟨a0, a1⟩ r h => ?_
 refine st1 fun bs t o => ?_
 dsimp only [ke7] at h
 exact cls
theorem P07 : OkC [Aw7, sx7, oC7, xS7, Av7, xT7, Ai7, Ah7, xJ7, xU7] LW7 LU7 LV7 := by
 refine ok fun G H ⟨a0, g0, g1⟩ r h => ?_
 have H_dg9 := H _ (.head _)
 have H_am9 := H _ (.tail _ (.head _))
 have H_dn9 := H _ (.tail _ (.tail _ (.head _)))
 have H_bf9 := H _ (.tail _ (.tail _ (.tail _ (.head _))))
 have H_ap9 := H _ (.tail _ (.tail _ (.tail _ (.tail _ (.head _)))))
 have H_al9 := H _ (.tail _ (.tail _ (.tail _ (.tail _ (.tail _ (.head _))))))
 have H_aj9 := H _ (.tail _ (.tail _ (.tail _ (.tail _ (.tail _ (.tail _ (.head _)))))))
 have H_dk9 := H _ (.tail _ (.tail _ (.tail _ (.tail _ (.tail _ (.tail _ (.tail _ (.head _))))))))
 have H_ai9 := H _ (.tail _ (.tail _ (.tail _ (.tail _ (.tail _ (.tail _ (.tail _ (.tail _ (.head _)))))))))
 have H_bc9 := H _ (.tail _ (.tail _ (.tail _ (.tail _ (.tail _ (.tail _ (.tail _ (.tail _ (.tail _ (.head _))))))))))
 refine st1 fun bs t o => ?_
 dsimp only [t07] at h
 refine go ?_;intros
 refine ar7 rfl (fun c => ?_) (fun c => ?_)
 ·replace h := itt h (by first | exact c | (have c2 := c; simp only [List.length_map] at c2; exact c2))
  try rw [c]
  refine go ?_;intros
  cases h
  exact a27
 replace h := itf h (by first | exact c | (have c2 := c; simp only [List.length_map] at c2; exact c2))
 try rw [c]
 refine go ?_;intros
 refine bz7 ?_
 obtain ⟨x1, h2, h⟩ := bnd h
 refine go ?_;intros
 refine aj7 (c := Aw7) (a0, g0, g1) H_dg9 h2 fun ch => ?_
 refine go ?_;intros
 refine ec7 ?_
 obtain ⟨x8, h9, h⟩ := bnd h
 refine go ?_;intros
 refine aj7 (c := sx7) (x1.1, x1.2) H_am9 h9 fun ch => ?_
 obtain ⟨x10, h11, h⟩ := bnd h
 refine go ?_;intros
 refine aj7 (c := oC7) (x1.1, x1.2) H_dn9 h11 fun ch => ?_
 refine go ?_;intros
 refine aF7 rfl (fun c => ?_) (fun c => ?_)
 ·replace h := itt h c
  rw [c]
  obtain ⟨x14, h15, h⟩ := bnd h
  refine go ?_;intros
  refine aj7 (c := oC7) (x1.1, x1.2) H_dn9 h15 fun ch => ?_
  refine go ?_;intros
  cases h
  exact a27
 replace h := itf h c
 rw [c]
 refine go ?_;intros
 refine aF7 rfl (fun c => ?_) (fun c => ?_)
 ·replace h := itt h c
  rw [c]
  obtain ⟨x16, h17, h⟩ := bnd h
  refine go ?_;intros
  refine aj7 (c := oC7) (x1.1, x1.2) H_dn9 h17 fun ch => ?_
  refine go ?_;intros
  cases h
  exact a27
 replace h := itf h c
 rw [c]
 refine go ?_;intros
 refine aF7 rfl (fun c => ?_) (fun c => ?_)
 ·replace h := itt h (by first | exact c | (have c2 := c; simp only [List.length_map] at c2; exact c2))
  rw [c]
  obtain ⟨x18, h19, h⟩ := bnd h
  refine go ?_;intros
  refine aj7 (c := oC7) (x1.1, x1.2) H_dn9 h19 fun ch => ?_
  refine go ?_;intros
  cases h
  exact a27
 replace h := itf h (by first | exact c | (have c2 := c; simp only [List.length_map] at c2; exact c2))
 rw [c]
 refine go ?_;intros
 refine aF7 rfl (fun c => ?_) (fun c => ?_)
 ·replace h := itt h (by first | exact c | (have c2 := c; simp only [List.length_map] at c2; exact c2))
  rw [c]
  obtain ⟨x20, h21, h⟩ := bnd h
  refine go ?_;intros
  refine aj7 (c := oC7) (x1.1, x1.2) H_dn9 h21 fun ch => ?_
  refine go ?_;intros
  cases h
  exact a27
 replace h := itf h (by first | exact c | (have c2 := c; simp only [List.length_map] at c2; exact c2))
 rw [c]
 obtain ⟨x12, h13, h⟩ := bnd h
 refine go ?_;intros
 refine cK7 rfl rfl h13 rfl ?_
 refine go ?_;intros
 refine ar7 rfl (fun c => ?_) (fun c => ?_)
 ·replace h := itt h (by first | exact c | (have c2 := c; simp only [List.length_map] at c2; exact c2))
  try rw [c]
  obtain ⟨x22, h23, h⟩ := bnd h
  refine go ?_;intros
  refine aj7 (c := oC7) (x1.1, x1.2) H_dn9 h23 fun ch => ?_
  refine go ?_;intros
  cases h
  exact a27
 replace h := itf h (by first | exact c | (have c2 := c; simp only [List.length_map] at c2; exact c2))
 try rw [c]
 obtain ⟨q24, h121, h⟩ := bnd h
 refine go ?_;intros
 refine c07 (fun t o => ∃ b27 b28 c29 b30 c31 b32, Pin t (ovr [(3, .ptr 24 b27 210 0 0), (4, .v (.string x1.2)), (5, .v (.int .i64 x8)), (6, .ptr 48 b32 100 0 0)] t) ∧ ed7 o (ovh [(24, ⟨b27, 1, 210, true, [[.sl false 3 (List.map (af7 false) x1.1.commits), .sl false 2 (List.map av7 x1.1.heads)]]⟩), (1000770, ent b28 c29 66 (List.map ePt [(⟨1, 0⟩ : Pt)])), (1000771, ent b30 c31 82 (List.map bc7 [])), (48, ⟨b32, 1, 100, true, [[.v (.string (⟨#[121, 121]⟩ : Str)), .v (.int .i64 1), .al 1000770 b28 c29 0 [(⟨1, 0⟩ : Pt)].length 66, .al 1000771 b30 c31 0 ([] : List Tag).length 82]]⟩)] o)) ?_ ?_
 ·refine go ?_;intros
  cases h121
  exact cN7 ⟨_, _, _, _, _, _, pin, aJ7⟩
 rintro t o ⟨b27, b28, c29, b30, c31, b32, pq1, pq2⟩
 refine bo7 pq1 pq2 ?_
 refine go ?_;intros
 refine cK7 rfl rfl h13 rfl ?_
 refine go ?_;intros
 refine bz7 ?_
 refine go ?_;intros
 refine ec7 (h := (nr7 (bj7 wM7 (bj7 wM7 (bj7 (gx7 (f := ePt) (g := ePt) (xs := ([(⟨1, 0⟩ : Pt)] : (List Pt))) rfl mD7 (by first | rfl | simp)) (bj7 (gx7 (f := bc7) (g := bc7) (xs := ([] : (List Tag))) rfl id7 (by first | rfl | simp)) js7)))))) ?_
 refine go ?_;intros
 refine bz7 ?_
 obtain ⟨x35, h36, h⟩ := bnd h
 refine go ?_;intros
 refine aj7 (c := xS7) (x12.sheet, (⟨(⟨#[121, 121]⟩ : Str), ⟨1, [(⟨1, 0⟩ : Pt)]⟩, []⟩ : Feat)) H_bf9 h36 fun ch => ?_
 refine go ?_;intros
 refine ec7 ?_
 refine go ?_;intros
 refine cK7 rfl rfl h13 rfl ?_
 refine go ?_;intros
 refine bz7 ?_
 refine go ?_;intros
 refine ec7 (h := (nr7 (bj7 wM7 (bj7 wM7 (bj7 (gx7 (f := ePt) (g := ePt) (xs := ([(⟨2, 0⟩ : Pt)] : (List Pt))) rfl mD7 (by first | rfl | simp)) (bj7 (gx7 (f := bc7) (g := bc7) (xs := ([] : (List Tag))) rfl id7 (by first | rfl | simp)) js7)))))) ?_
 refine go ?_;intros
 refine bz7 ?_
 obtain ⟨x39, h40, h⟩ := bnd h
 refine go ?_;intros
 refine aj7 (c := xS7) (x12.sheet, (⟨(⟨#[122, 122]⟩ : Str), ⟨1, [(⟨2, 0⟩ : Pt)]⟩, []⟩ : Feat)) H_bf9 h40 fun ch => ?_
 refine go ?_;intros
 refine ec7 ?_
 obtain ⟨q43, h122, h⟩ := bnd h
 refine go ?_;intros
 refine c07 (fun t o => ∃ b52 b55, Pin t (ovr [(3, .ptr 24 b52 210 0 0), (4, .v (.string x1.2)), (5, .v (.int .i64 x8)), (8, .ro (List.map (ag7 false) x35.1)), (10, .ro (List.map (ag7 false) x39.1)), (12, .ptr 96 b55 210 0 0), (13, .v (.int .i64 q43.1))] t) ∧ ed7 o (ovh [(24, ⟨b52, 1, 210, true, [[.sl false 3 (List.map (af7 false) x1.1.commits), .sl false 2 (List.map av7 x1.1.heads)]]⟩), (96, ⟨b55, 1, 210, true, [[.sl false 3 (List.map (af7 false) q43.2.1), .sl false 2 (List.map av7 q43.2.2)]]⟩)] o)) ?_ ?_
 ·refine go ?_;intros
  refine bz7 ?_
  obtain ⟨x44, h45, h122⟩ := bnd h122
  refine go ?_;intros
  refine aj7 (c := Av7) (x1.1, (⟨#[102, 111, 114, 107]⟩ : Str), x1.2) H_ap9 h45 fun ch => ?_
  refine go ?_;intros
  refine ec7 ?_
  refine go ?_;intros
  cases h122
  exact cN7 ⟨_, _, pin, aJ7⟩
 rintro t o ⟨b52, b55, pq1, pq2⟩
 refine bo7 pq1 pq2 ?_
 refine go ?_;intros
 refine bz7 ?_
 obtain ⟨x56, h57, h⟩ := bnd h
 refine go ?_;intros
 refine aj7 (c := xT7) ((⟨q43.2.1, q43.2.2⟩ : an7), (⟨#[102, 111, 114, 107]⟩ : Str), x35.1, (⟨#[97, 110, 110]⟩ : Str)) H_al9 h57 fun ch => ?_
 refine go ?_;intros
 refine ec7 ?_
 refine go ?_;intros
 refine bz7 ?_
 obtain ⟨x62, h63, h⟩ := bnd h
 refine go ?_;intros
 refine aj7 (c := xT7) (x56.1, x1.2, x39.1, (⟨#[98, 111, 98]⟩ : Str)) H_al9 h63 fun ch => ?_
 refine go ?_;intros
 refine ec7 ?_
 obtain ⟨q68, h123, h⟩ := bnd h
 refine go ?_;intros
 refine c07 (fun t o => ∃ b80 b81 b84, Pin t (ovr [(3, .ptr 24 b80 210 0 0), (4, .v (.string x1.2)), (5, .v (.int .i64 x8)), (12, .ptr 96 b81 210 0 0), (13, .v (.int .i64 q43.1)), (14, .v (.int .i64 x56.2)), (15, .v (.int .i64 x62.2)), (16, .ptr 128 b84 210 0 0), (17, .ro (List.map bw7 q68.1)), (18, .v (.int .i64 q68.2.1))] t) ∧ ed7 o (ovh [(24, ⟨b80, 1, 210, true, [[.sl false 3 (List.map (af7 false) x1.1.commits), .sl false 2 (List.map av7 x1.1.heads)]]⟩), (96, ⟨b81, 1, 210, true, [[.sl false 3 (List.map (af7 false) x62.1.commits), .sl false 2 (List.map av7 x62.1.heads)]]⟩), (128, ⟨b84, 1, 210, true, [[.sl false 3 (List.map (af7 false) q68.2.2.1), .sl false 2 (List.map av7 q68.2.2.2)]]⟩)] o)) ?_ ?_
 ·refine go ?_;intros
  refine bz7 ?_
  obtain ⟨x69, h70, h123⟩ := bnd h123
  refine go ?_;intros
  refine aj7 (c := Ai7) (x62.1, x1.2, (⟨#[102, 111, 114, 107]⟩ : Str), (⟨#[106, 111, 105, 110]⟩ : Str)) H_aj9 h70 fun ch => ?_
  refine go ?_;intros
  refine ec7 ?_
  refine go ?_;intros
  cases h123
  exact cN7 ⟨_, _, _, pin, aJ7⟩
 rintro t o ⟨b80, b81, b84, pq1, pq2⟩
 refine bo7 pq1 pq2 ?_
 obtain ⟨x85, h86, h⟩ := bnd h
 refine go ?_;intros
 refine aj7 (c := Ah7) (x62.1, x1.2, (⟨#[102, 111, 114, 107]⟩ : Str), (⟨#[106, 111, 105, 110]⟩ : Str)) H_dk9 h86 fun ch => ?_
 refine go ?_;intros
 refine aF7 rfl (fun c => ?_) (fun c => ?_)
 ·replace h := itt h c
  rw [c]
  refine go ?_;intros
  cases h
  exact a27
 replace h := itf h c
 rw [c]
 refine go ?_;intros
 refine aF7 rfl (fun c => ?_) (fun c => ?_)
 ·replace h := itt h c
  rw [c]
  refine go ?_;intros
  cases h
  exact a27
 replace h := itf h c
 rw [c]
 refine go ?_;intros
 refine aF7 rfl (fun c => ?_) (fun c => ?_)
 ·replace h := itt h c
  rw [c]
  refine go ?_;intros
  cases h
  exact a27
 replace h := itf h c
 rw [c]
 refine go ?_;intros
 refine aF7 rfl (fun c => ?_) (fun c => ?_)
 ·replace h := itt h (by first | exact c | (have c2 := c; simp only [List.length_map] at c2; exact c2))
  rw [c]
  refine go ?_;intros
  cases h
  exact a27
 replace h := itf h (by first | exact c | (have c2 := c; simp only [List.length_map] at c2; exact c2))
 rw [c]
 obtain ⟨x94, h95, h⟩ := bnd h
 refine go ?_;intros
 refine aj7 (c := sx7) (x62.1, x1.2) H_am9 h95 fun ch => ?_
 obtain ⟨x96, h97, h⟩ := bnd h
 refine go ?_;intros
 refine aj7 (c := sx7) (x62.1, (⟨#[102, 111, 114, 107]⟩ : Str)) H_am9 h97 fun ch => ?_
 obtain ⟨x98, h99, h⟩ := bnd h
 refine go ?_;intros
 refine aj7 (c := xJ7) (x62.1, x94, x96) H_ai9 h99 fun ch => ?_
 refine go ?_;intros
 refine ar7 rfl (fun c => ?_) (fun c => ?_)
 ·replace h := itt h c
  try rw [c]
  refine go ?_;intros
  cases h
  exact a27
 replace h := itf h c
 try rw [c]
 obtain ⟨x100, h101, h⟩ := bnd h
 refine go ?_;intros
 refine aj7 (c := sx7) ((⟨q68.2.2.1, q68.2.2.2⟩ : an7), x1.2) H_am9 h101 fun ch => ?_
 obtain ⟨x102, h103, h⟩ := bnd h
 refine go ?_;intros
 refine cK7 rfl rfl h103 rfl ?_
 obtain ⟨q104, h124, h⟩ := bnd h
 refine go ?_;intros
 refine c07 (fun t o => ∃ b113, Pin t (ovr [(3, .ptr 24 b113 210 0 0), (5, .v (.int .i64 x8)), (22, .ro (List.map (ag7 false) x102.sheet)), (24, .v (.bool q104))] t) ∧ ed7 o (ovh [(24, ⟨b113, 1, 210, true, [[.sl false 3 (List.map (af7 false) x1.1.commits), .sl false 2 (List.map av7 x1.1.heads)]]⟩)] o)) ?_ ?_
 ·obtain ⟨x105, h106, h124⟩ := bnd h124
  refine go ?_;intros
  refine aj7 (c := xU7) (x102.sheet, (⟨#[121, 121]⟩ : Str)) H_bc9 h106 fun ch => ?_
  refine go ?_;intros
  cases h124
  exact cN7 ⟨_, pin, aJ7⟩
 rintro t o ⟨b113, pq1, pq2⟩
 refine bo7 pq1 pq2 ?_
 obtain ⟨x114, h115, h⟩ := bnd h
 refine go ?_;intros
 refine aj7 (c := xU7) (x102.sheet, (⟨#[122, 122]⟩ : Str)) H_bc9 h115 fun ch => ?_
 refine go ?_;intros
 refine aF7 rfl (fun c => ?_) (fun c => ?_)
 ·replace h := itt h c
  rw [c]
  refine go ?_;intros
  refine aF7 rfl (fun c => ?_) (fun c => ?_)
  ·replace h := itt h c
   rw [c]
   refine go ?_;intros
   refine cK7 rfl rfl h13 rfl ?_
   refine go ?_;intros
   cases h
   first | exact a27 | (simp only [List.length_map]; exact a27)
  replace h := itf h c
  rw [c]
  refine go ?_;intros
  cases h
  exact a27
 replace h := itf h c
 rw [c]
 refine go ?_;intros
 cases h
 exact a27
end Go.Proofs.AM
