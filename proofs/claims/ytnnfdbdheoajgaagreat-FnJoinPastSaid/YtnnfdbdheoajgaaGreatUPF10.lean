/- Lemmas of the proof (UPF10), on an abstract machine. Conditions: none. -/
import Derived.Test.YtnnfdbdheoajgaaGreatUPD
set_option linter.unusedVariables false
set_option linter.unusedSimpArgs false
set_option maxRecDepth 100000
set_option maxHeartbeats 4000000
namespace Go.Proofs.AM
attribute [local irreducible] vwp cX7 bF7 f77 vdo ja7 mN7 jQ7 fj7 mB7 kC7 bI7 fa7 kj7 eY7 jE7 kS7 kR7
theorem PM7 : OkC [lR7] AC7 LC7 LD7 := by
 refine ok fun G H ⟨a0, g0, g1⟩ r h => ?_
 refine st1 fun bs t o => ?_
 dsimp only [rx7] at h
 exact cls
theorem PN7 : OkC [yd7, oS7, cm7, Ay7, AB7, AC7, sR7, xU7] ye7 LE7 LF7 := by
 refine ok fun G H ⟨a0, a1, g0, g1, g2, g3, g4, g5⟩ r h => ?_
 have H_fx9 := H _ (.head _)
 have H_ft9 := H _ (.tail _ (.head _))
 have H_dx9 := H _ (.tail _ (.tail _ (.head _)))
 have H_dk9 := H _ (.tail _ (.tail _ (.tail _ (.head _))))
 have H_fa9 := H _ (.tail _ (.tail _ (.tail _ (.tail _ (.head _)))))
 have H_fy9 := H _ (.tail _ (.tail _ (.tail _ (.tail _ (.tail _ (.head _))))))
 have H_fq9 := H _ (.tail _ (.tail _ (.tail _ (.tail _ (.tail _ (.tail _ (.head _)))))))
 have H_fo9 := H _ (.tail _ (.tail _ (.tail _ (.tail _ (.tail _ (.tail _ (.tail _ (.head _))))))))
 refine st1 fun bs t o => ?_
 dsimp only [ry7] at h
 obtain ⟨x3, h4, h⟩ := bnd h
 refine go ?_;intros
 refine am7 (c := yd7) (a0, g0, g1) H_fx9 h4 fun ch => ?_
 obtain ⟨x5, h6, h⟩ := bnd h
 refine go ?_;intros
 refine av7 (c := oS7) (a1, x3.1) H_ft9 h6 fun ch => ?_
 refine go ?_;intros
 refine aq7 rfl (fun c => ?_) (fun c => ?_)
 ·replace h := itt h c
  try rw [c]
  obtain ⟨x7, h8, h⟩ := bnd h
  refine go ?_;intros
  refine am7 (c := cm7) ((⟨a0.b, x3.2⟩ : Rd), (a1.heads.length : Int), g0, g1) H_dx9 h8 fun ch => ?_
  obtain ⟨x9, h10, h⟩ := bnd h
  refine go ?_;intros
  refine cr7 rfl rfl h10 rfl ?_
  obtain ⟨x11, h12, h⟩ := bnd h
  refine go ?_;intros
  refine av7 (c := Ay7) (a1, x3.1, x9.name) H_dk9 h12 fun ch => ?_
  refine go ?_;intros
  refine aq7 rfl (fun c => ?_) (fun c => ?_)
  ·replace h := itt h (by first | exact c | (have c2 := c; simp only [List.length_map] at c2; exact c2))
   try rw [c]
   refine go ?_;intros
   cases h
   exact aX7
  replace h := itf h (by first | exact c | (have c2 := c; simp only [List.length_map] at c2; exact c2))
  try rw [c]
  refine go ?_;intros
  refine Go7 rfl rfl rfl rfl ?_
  refine go ?_;intros
  cases h
  exact aX7
 replace h := itf h c
 try rw [c]
 obtain ⟨x18, h19, h⟩ := bnd h
 refine go ?_;intros
 refine cr7 rfl rfl h19 rfl ?_
 obtain ⟨q20, h75, h⟩ := bnd h
 refine go ?_;intros
 refine d47 (fun t o => ∃ b30 b31 c32 b33 c34 b35 b36 c37 b40, Pin t (ovr [(0, .ptr 0 (bs 0).1 290 0 0), (3, .ptr 24 b30 210 0 0), (4, .ptr 32 b35 210 0 0), (6, .v (.int .i64 x5)), (9, .v (.int .i64 x18.at_)), (10, .ptr 80 b40 115 0 0)] t) ∧ eQ7 o (ovh [(0, ⟨(bs 0).1, (bs 0).2, 290, true, [[.rw g0 g1 (List.map eU8 a0.b), .v (.int .i64 q20.1)]]⟩), (24, ⟨b30, 1, 210, true, [[.rw g2 g3 (List.map (af7 false) a1.commits), .rw g4 g5 (List.map aw7 a1.heads)]]⟩), (1000512, ent b31 c32 115 (List.map (af7 true) [])), (1000513, ent b33 c34 130 (List.map aw7 [])), (32, ⟨b35, 1, 210, true, [[.al 1000512 b31 c32 0 ([] : List Commit).length 115, .al 1000513 b33 c34 0 ([] : List Head).length 130]]⟩), (1001280, ent b36 c37 17 (List.map bm7 [x18.at_])), (80, ⟨b40, 1, 115, true, [[.al 1001280 b36 c37 0 [x18.at_].length 17, .sl false 4 (List.map (ak7 false) q20.2.1), .v (.string q20.2.2)]]⟩)] o)) ?_ ?_
 ·obtain ⟨x22, h23, h75⟩ := bnd h75
  refine go ?_;intros
  refine cr7 rfl rfl h23 rfl ?_
  obtain ⟨x24, h25, h75⟩ := bnd h75
  refine go ?_;intros
  refine am7 (c := AB7) ((⟨a0.b, x3.2⟩ : Rd), x22.sheet, g0, g1) H_fa9 h25 fun ch => ?_
  obtain ⟨x26, h27, h75⟩ := bnd h75
  refine go ?_;intros
  refine am7 (c := AC7) ((⟨a0.b, x24.2⟩ : Rd), g0, g1) H_fy9 h27 fun ch => ?_
  refine go ?_;intros
  cases h75
  exact dd7 ⟨_, _, _, _, _, _, _, _, _, pin, aF7⟩
 rintro t o ⟨b30, b31, c32, b33, c34, b35, b36, c37, b40, pq1, pq2⟩
 refine bx7 pq1 pq2 ?_
 obtain ⟨x41, h42, h⟩ := bnd h
 refine go ?_;intros
 refine am7 (c := cm7) ((⟨a0.b, q20.1⟩ : Rd), (a1.heads.length : Int), g0, g1) H_dx9 h42 fun ch => ?_
 obtain ⟨x43, h44, h⟩ := bnd h
 refine go ?_;intros
 refine cr7 rfl rfl h44 rfl ?_
 obtain ⟨q48, h76, h⟩ := bnd h
 refine go ?_;intros
 refine d47 (fun t o => ∃ b52 b53 c54 b55 c56 b57 b59 c60 b61, Pin t (ovr [(3, .ptr 24 b52 210 0 0), (4, .ptr 32 b57 210 0 0), (6, .v (.int .i64 x5)), (10, .ptr 80 b61 115 0 0)] t) ∧ eQ7 o (ovh [(24, ⟨b52, 1, 210, true, [[.rw g2 g3 (List.map (af7 false) a1.commits), .rw g4 g5 (List.map aw7 a1.heads)]]⟩), (1000512, ent b53 c54 115 (List.map (af7 true) [])), (1000513, ent b55 c56 130 (List.map aw7 [])), (32, ⟨b57, 1, 210, true, [[.al 1000512 b53 c54 0 ([] : List Commit).length 115, .al 1000513 b55 c56 0 ([] : List Head).length 130]]⟩), (1001280, ent b59 c60 17 (List.map bm7 q48.1)), (80, ⟨b61, 1, 115, true, [[.al 1001280 b59 c60 0 q48.1.length 17, .sl false 4 (List.map (ak7 false) q20.2.1), .v (.string q20.2.2)]]⟩), (0, ⟨(bs 0).1, (bs 0).2, 290, true, [[.rw g0 g1 (List.map eU8 a0.b), .v (.int .i64 q48.2)]]⟩)] o)) ?_ ?_
 ·refine go ?_;intros
  refine aT7 rfl (fun c => ?_) (fun c => ?_)
  ·replace h76 := itt h76 c
   rw [c]
   obtain ⟨x49, h50, h76⟩ := bnd h76
   refine go ?_;intros
   refine am7 (c := cm7) ((⟨a0.b, x41.2⟩ : Rd), 4, g0, g1) H_dx9 h50 fun ch => ?_
   refine go ?_;intros
   refine aq7 rfl (fun c => ?_) (fun c => ?_)
   ·replace h76 := itt h76 c
    try rw [c]
    refine go ?_;intros
    cases h76
    exact dd7 ⟨_, _, _, _, _, _, _, _, _, pin, aF7⟩
   replace h76 := itf h76 c
   try rw [c]
   refine go ?_;intros
   cases h76
   exact dd7 ⟨_, _, _, _, _, _, _, _, _, pin, aF7⟩
  replace h76 := itf h76 c
  rw [c]
  refine go ?_;intros
  cases h76
  exact dd7 ⟨_, _, _, _, _, _, _, _, _, pin, aF7⟩
 rintro t o ⟨b52, b53, c54, b55, c56, b57, b59, c60, b61, pq1, pq2⟩
 refine bx7 pq1 pq2 ?_
 refine go ?_;intros
 refine aq7 rfl (fun c => ?_) (fun c => ?_)
 ·replace h := itt h (by first | exact c | (have c2 := c; simp only [List.length_map] at c2; exact c2))
  try rw [c]
  refine go ?_;intros
  refine Go7 rfl rfl rfl rfl ?_
  refine go ?_;intros
  cases h
  exact aX7
 replace h := itf h (by first | exact c | (have c2 := c; simp only [List.length_map] at c2; exact c2))
 try rw [c]
 obtain ⟨x63, h64, h⟩ := bnd h
 refine go ?_;intros
 refine av7 (c := sR7) (a1) H_fq9 h64 fun ch => ?_
 obtain ⟨x69, h70, h⟩ := bnd h
 refine go ?_;intros
 refine am7 (c := xU7) (x63, x5, (⟨q48.1, q20.2.1, q20.2.2⟩ : Commit)) H_fo9 h70 fun ch => ?_
 refine go ?_;intros
 cases h
 exact aX7
theorem PO7 : OkC [Ax7, vI7, cm7, ye7] AD7 LG7 LH7 := by
 refine ok fun G H ⟨a0, g0, g1⟩ r h => ?_
 have H_dl9 := H _ (.head _)
 have H_ex9 := H _ (.tail _ (.head _))
 have H_dx9 := H _ (.tail _ (.tail _ (.head _)))
 have H_fs9 := H _ (.tail _ (.tail _ (.tail _ (.head _))))
 refine st1 fun bs t o => ?_
 dsimp only [rz7] at h
 obtain ⟨x2, h3, h⟩ := bnd h
 refine go ?_;intros
 refine av7 (c := Ax7) ((⟨#[109, 97, 105, 110]⟩ : Str)) H_dl9 h3 fun ch => ?_
 refine go ?_;intros
 refine C87 ?_
 refine go ?_;intros
 refine Mg7 (f := (af7 true)) (g := bg7) (lm7 _) rfl rfl ?_
 refine go ?_;intros
 refine dc7 ?_
 obtain ⟨x9, h10, h⟩ := bnd h
 refine go ?_;intros
 refine am7 (c := vI7) (a0, g0, g1) H_ex9 h10 fun ch => ?_
 refine go ?_;intros
 refine jU7 ?_
 obtain ⟨x13, h14, h⟩ := bnd h
 refine go ?_;intros
 refine fm7 (xs := x2.1.commits) rfl rfl h14 rfl ?_
 refine go ?_;intros
 refine cI7 (f := bg7) x2.1.commits (⟨x13.up, x9.1, x13.note⟩ : Commit) (aL7 h14).2 ?_
 obtain ⟨x15, h16, h⟩ := bnd h
 refine go ?_;intros
 refine am7 (c := cm7) ((⟨a0.b, x9.2⟩ : Rd), 7, g0, g1) H_dx9 h16 fun ch => ?_
 obtain ⟨q56, h94, h⟩ := bnd h
 refine go ?_;intros
 refine ik7 (fun t o => ∃ b78 c79 b80 c81 b82 b84 c85 b87 c88 b89, Pin t (ovr [(0, .ptr 0 (bs 0).1 290 0 0), (2, .ptr 16 b82 210 0 0), (3, .ptr 24 b89 210 0 0)] t) ∧ eQ7 o (ovh [(0, ⟨(bs 0).1, (bs 0).2, 290, true, [[.rw g0 g1 (List.map eU8 a0.b), .v (.int .i64 q56.1)]]⟩), (1000256, ent b78 c79 115 (List.map (af7 true) [])), (1000257, ent b80 c81 130 (List.map aw7 [])), (16, ⟨b82, 1, 210, true, [[.al 1000256 b78 c79 0 ([] : List Commit).length 115, .al 1000257 b80 c81 0 ([] : List Head).length 130]]⟩), (1000384, ent b84 c85 115 (List.map bg7 q56.2.1)), (1000385, ent b87 c88 130 (List.map aw7 q56.2.2)), (24, ⟨b89, 1, 210, true, [[.al 1000384 b84 c85 0 q56.2.1.length 115, .al 1000385 b87 c88 0 q56.2.2.length 130]]⟩)] o)) ?_ ?_
 ·refine dX7 (fun n t o => ∃ n71 v57 v58 v64 v67 b59 c60 b61 c62 b63 b65 c66 b68 c69 b70, dH7 a0 n71 v57 v58 v64 v67 = some q56 ∧ n71 = n ∧ Pin t (ovr [(0, .ptr 0 (bs 0).1 290 0 0), (2, .ptr 16 b63 210 0 0), (3, .ptr 24 b70 210 0 0), (5, .v (.int .i64 v57))] t) ∧ eQ7 o (ovh [(0, ⟨(bs 0).1, (bs 0).2, 290, true, [[.rw g0 g1 (List.map eU8 a0.b), .v (.int .i64 v58)]]⟩), (1000256, ent b59 c60 115 (List.map (af7 true) [])), (1000257, ent b61 c62 130 (List.map aw7 [])), (16, ⟨b63, 1, 210, true, [[.al 1000256 b59 c60 0 ([] : List Commit).length 115, .al 1000257 b61 c62 0 ([] : List Head).length 130]]⟩), (1000384, ent b65 c66 115 (List.map bg7 v64)), (1000385, ent b68 c69 130 (List.map aw7 v67)), (24, ⟨b70, 1, 210, true, [[.al 1000384 b65 c66 0 v64.length 115, .al 1000385 b68 c69 0 v67.length 130]]⟩)] o)) _ ⟨_, _, _, _, _, _, _, _, _, _, _, _, _, _, _, h94, rfl, pin, aF7⟩ ?_
  rintro n t o ⟨n71, v57, v58, v64, v67, b59, c60, b61, c62, b63, b65, c66, b68, c69, b70, h94, rfl, pq1, pq2⟩
  refine bx7 pq1 pq2 ?_
  cases n71 with
  | zero => rw [dH7] at h94; cases h94
  | succ n71 =>
   rw [dH7] at h94
   refine go ?_;intros
   refine aq7 rfl (fun c => ?_) (fun c => ?_)
   ·replace h94 := itt h94 c
    try rw [c]
    refine go ?_;intros
    refine Gz7 ?_
    refine go ?_;intros
    refine QW7 rfl rfl ?_
    refine go ?_;intros
    refine C87 ?_
    refine go ?_;intros
    refine M97 ?_
    obtain ⟨x72, h73, h94⟩ := bnd h94
    rcases x72 with ⟨_ | y74, p75⟩
    ·dsimp only at h94
     refine go ?_;intros
     refine am7 (c := ye7) ((⟨a0.b, v58⟩ : Rd), (⟨v64, v67⟩ : ao7), g0, g1, (uT7 b65), c66, (uT7 b68), c69) H_fs9 h73 fun ch76 => ?_
     refine go ?_;intros
     refine Qr7 rfl (BU7 rfl rfl (by first | rfl | simp) (BU7 rfl rfl (by first | rfl | simp) BS7)) ?_
     refine go ?_;intros
     refine Mg7 (f := bg7) (g := bg7) (ny7 _) rfl rfl ?_
     refine go ?_;intros
     exact dY7 _ (Nat.lt_succ_self _) ⟨_, _, _, _, _, _, _, _, _, _, _, _, _, _, _, h94, rfl, pin, aF7⟩
    dsimp only at h94
    refine go ?_;intros
    refine am7 (c := ye7) ((⟨a0.b, v58⟩ : Rd), (⟨v64, v67⟩ : ao7), g0, g1, (uT7 b65), c66, (uT7 b68), c69) H_fs9 h73 fun ch76 => ?_
    refine go ?_;intros
    refine Qr7 rfl (BT7 (BT7 BS7)) ?_
    refine go ?_;intros
    refine Mg7 (f := (af7 true)) (g := bg7) (lm7 _) rfl rfl ?_
    refine go ?_;intros
    exact dY7 _ (Nat.lt_succ_self _) ⟨_, _, _, _, _, _, _, _, _, _, _, _, _, _, _, h94, rfl, pin, aF7⟩
   replace h94 := itf h94 c
   try rw [c]
   refine go ?_;intros
   cases h94
   exact dd7 ⟨_, _, _, _, _, _, _, _, _, _, pin, aF7⟩
 rintro t o ⟨b78, c79, b80, c81, b82, b84, c85, b87, c88, b89, pq1, pq2⟩
 refine fn7 pq1 pq2 ?_
 obtain ⟨x90, h91, h⟩ := bnd h
 refine go ?_;intros
 refine am7 (c := cm7) ((⟨a0.b, q56.1⟩ : Rd), 4, g0, g1) H_dx9 h91 fun ch => ?_
 refine go ?_;intros
 refine aT7 rfl (fun c => ?_) (fun c => ?_)
 ·replace h := itt h c
  rw [c]
  refine go ?_;intros
  refine aq7 rfl (fun c => ?_) (fun c => ?_)
  ·replace h := itt h (by first | exact c | (have c2 := c; simp only [List.length_map] at c2; exact c2))
   try rw [c]
   refine go ?_;intros
   refine C97 ?_
   obtain ⟨x92, h93, h⟩ := bnd h
   refine go ?_;intros
   refine GA7 (xs := q56.2.2) h93 rfl rfl rfl rfl (by first | rfl | simp) ?_
   refine go ?_;intros
   refine Qq7 (f := aw7) h93 rfl rfl rfl ?_
   refine go ?_;intros
   cases h
   exact aX7
  replace h := itf h (by first | exact c | (have c2 := c; simp only [List.length_map] at c2; exact c2))
  try rw [c]
  refine go ?_;intros
  cases h
  exact aX7
 replace h := itf h c
 rw [c]
 refine go ?_;intros
 cases h
 exact aX7
theorem PP7 : OkC [AD7, cm7, mT7, Aw7] ET7 LI7 LJ7 := by
 refine ok fun G H ⟨a0, g0, g1⟩ r h => ?_
 have H_ga9 := H _ (.head _)
 have H_dx9 := H _ (.tail _ (.head _))
 have H_dv9 := H _ (.tail _ (.tail _ (.head _)))
 have H_er9 := H _ (.tail _ (.tail _ (.tail _ (.head _))))
 refine st1 fun bs t o => ?_
 dsimp only [rA7] at h
 obtain ⟨x2, h3, h⟩ := bnd h
 refine go ?_;intros
 refine am7 (c := AD7) (a0, g0, g1) H_ga9 h3 fun ch => ?_
 obtain ⟨x9, h10, h⟩ := bnd h
 refine go ?_;intros
 refine am7 (c := cm7) ((⟨a0.b, x2.2⟩ : Rd), (x2.1.commits.length : Int), g0, g1) H_dx9 h10 fun ch => ?_
 obtain ⟨x11, h12, h⟩ := bnd h
 refine go ?_;intros
 refine am7 (c := cm7) ((⟨a0.b, x9.2⟩ : Rd), 48, g0, g1) H_dx9 h12 fun ch => ?_
 obtain ⟨q13, h53, h⟩ := bnd h
 refine go ?_;intros
 refine d47 (fun t o => ∃ b14 c15 b16 c17 b18 b19 c20 b21 c22 b23, Pin t (ovr [(0, .ptr 0 (bs 0).1 290 0 0), (2, .ptr 16 b18 210 0 0), (3, .ptr 24 b23 210 0 0), (4, .v (.int .i64 x9.1)), (13, .v (.int .i64 x11.1)), (14, .v (.bool (x11.1 == 0)))] t) ∧ eQ7 o (ovh [(0, ⟨(bs 0).1, (bs 0).2, 290, true, [[.rw g0 g1 (List.map eU8 a0.b), .v (.int .i64 x11.2)]]⟩), (1000256, ent b14 c15 115 (List.map (af7 true) [])), (1000257, ent b16 c17 130 (List.map aw7 [])), (16, ⟨b18, 1, 210, true, [[.al 1000256 b14 c15 0 ([] : List Commit).length 115, .al 1000257 b16 c17 0 ([] : List Head).length 130]]⟩), (1000384, ent b19 c20 115 (List.map bg7 x2.1.commits)), (1000385, ent b21 c22 130 (List.map aw7 x2.1.heads)), (24, ⟨b23, 1, 210, true, [[.al 1000384 b19 c20 0 x2.1.commits.length 115, .al 1000385 b21 c22 0 x2.1.heads.length 130]]⟩)] o)) ?_ ?_
 ·refine go ?_;intros
  cases h53
  exact dd7 ⟨_, _, _, _, _, _, _, _, _, _, pin, aF7⟩
 rintro t o ⟨b14, c15, b16, c17, b18, b19, c20, b21, c22, b23, pq1, pq2⟩
 refine bx7 pq1 pq2 ?_
 refine go ?_;intros
 refine aq7 rfl (fun c => ?_) (fun c => ?_)
 ·replace h := itt h c
  try rw [c]
  obtain ⟨x25, h26, h⟩ := bnd h
  refine go ?_;intros
  refine am7 (c := mT7) ((⟨a0.b, x11.2⟩ : Rd), ([(-1), (x2.1.commits.length : Int)] : (List Int)), g0, g1) H_dv9 h26 fun ch => ?_
  obtain ⟨x27, h28, h⟩ := bnd h
  refine go ?_;intros
  refine fm7 (xs := x2.1.heads) rfl rfl h28 rfl ?_
  refine go ?_;intros
  refine cI7 (f := aw7) x2.1.heads (⟨x27.name, x25.1⟩ : Head) (aL7 h28).2 ?_
  refine go ?_;intros
  cases h
  exact aX7
 replace h := itf h c
 try rw [c]
 refine go ?_;intros
 refine aq7 rfl (fun c => ?_) (fun c => ?_)
 ·replace h := itt h c
  try rw [c]
  obtain ⟨x29, h30, h⟩ := bnd h
  refine go ?_;intros
  refine fm7 (xs := x2.1.commits) rfl rfl h30 rfl ?_
  refine go ?_;intros
  refine GC7 (f := bg7) (g := bm7) (xs := x2.1.commits) (x := x29) (ys := x29.up) (aL7 h30).2 rfl rfl rfl fun b31 c32 => ?_
  obtain ⟨h36, h⟩ := gd h
  refine go ?_;intros
  refine d37 (f := bm7) (xs := x29.up) (ys := ([x9.1] : (List Int))) rfl (eX7 rfl rfl (by first | rfl | simp)) rfl rfl (by first | rfl | simp) h36 fun b34 c35 => ?_
  refine go ?_;intros
  refine fm7 (xs := x2.1.commits) rfl rfl h30 rfl ?_
  refine go ?_;intros
  refine Nf7 (f := bg7) x2.1.commits (⟨(x29.up ++ ([x9.1] : (List Int))), x29.sheet, x29.note⟩ : Commit) (aL7 h30).2 ?_
  refine go ?_;intros
  cases h
  exact aX7
 replace h := itf h c
 try rw [c]
 refine go ?_;intros
 refine aq7 rfl (fun c => ?_) (fun c => ?_)
 ·replace h := itt h c
  try rw [c]
  refine go ?_;intros
  refine dc7 ?_
  obtain ⟨x37, h38, h⟩ := bnd h
  refine go ?_;intros
  refine am7 (c := Aw7) ((⟨a0.b, x11.2⟩ : Rd), g0, g1) H_er9 h38 fun ch => ?_
  refine go ?_;intros
  refine jU7 ?_
  obtain ⟨x41, h42, h⟩ := bnd h
  refine go ?_;intros
  refine fm7 (xs := x2.1.commits) rfl rfl h42 rfl ?_
  refine go ?_;intros
  refine cI7 (f := bg7) x2.1.commits (⟨x41.up, x37.1, x41.note⟩ : Commit) (aL7 h42).2 ?_
  refine go ?_;intros
  cases h
  exact aX7
 replace h := itf h c
 try rw [c]
 refine go ?_;intros
 refine aq7 rfl (fun c => ?_) (fun c => ?_)
 ·replace h := itt h c
  try rw [c]
  obtain ⟨x43, h44, h⟩ := bnd h
  refine go ?_;intros
  refine fm7 (xs := x2.1.commits) rfl rfl h44 rfl ?_
  refine go ?_;intros
  refine cI7 (f := bg7) x2.1.commits (⟨x43.up, x43.sheet, (⟨#[]⟩ : Str)⟩ : Commit) (aL7 h44).2 ?_
  refine go ?_;intros
  cases h
  exact aX7
 replace h := itf h c
 try rw [c]
 refine go ?_;intros
 refine aq7 rfl (fun c => ?_) (fun c => ?_)
 ·replace h := itt h c
  try rw [c]
  obtain ⟨x45, h46, h⟩ := bnd h
  refine go ?_;intros
  refine fm7 (xs := x2.1.heads) rfl rfl h46 rfl ?_
  refine go ?_;intros
  refine oB7 (f := aw7) (xs := x2.1.heads) (x := x45) rfl rfl (aL7 h46).2 rfl rfl rfl ?_
  obtain ⟨h50, h⟩ := gd h
  refine go ?_;intros
  refine d37 (f := aw7) (xs := x2.1.heads) (ys := ([x45] : (List Head))) rfl (eX7 rfl rfl (by first | rfl | simp)) rfl rfl (by first | rfl | simp) h50 fun b48 c49 => ?_
  refine go ?_;intros
  cases h
  exact aX7
 replace h := itf h c
 try rw [c]
 refine go ?_;intros
 refine aq7 rfl (fun c => ?_) (fun c => ?_)
 ·replace h := itt h c
  try rw [c]
  obtain ⟨x51, h52, h⟩ := bnd h
  refine go ?_;intros
  refine fm7 (xs := x2.1.commits) rfl rfl h52 rfl ?_
  refine go ?_;intros
  refine cI7 (f := bg7) x2.1.commits (⟨[], x51.sheet, x51.note⟩ : Commit) (aL7 h52).2 ?_
  refine go ?_;intros
  cases h
  exact aX7
 replace h := itf h c
 try rw [c]
 refine go ?_;intros
 cases h
 exact aX7
theorem PQ7 : OkC [xZ7, vE7] vJ7 LK7 LL7 := by
 refine ok fun G H ⟨a0, a1⟩ r h => ?_
 refine st1 fun bs t o => ?_
 dsimp only [lV7] at h
 exact cls
theorem PR7 : OkC [] EU7 LM7 LN7 := by
 refine ok fun G H ⟨a0, a1⟩ r h => ?_
 refine st1 fun bs t o => ?_
 dsimp only [uo7] at h
 try (refine gx ?_; intros; rename_i h)
 obtain ⟨hf, h⟩ := gd h
 obtain ⟨q14, hq, h⟩ := bnd h
 refine ae7 [] [] (fun K J t o => ∃ q14_, q14 = .inr q14_ ∧ PP K J t o) ?_ ?_
 ·have ho1 := h
  refine aQ7 (xs := a0) [0, 1, 12] [] 0 hf (fun K J l18 k16 t o => fT7 a1 l18 k16  = some q14 ∧ PP ((13, .v (.int .i64 (k16 : Int))) :: K) J t o) ?_ ?_ ?_
  ·exact ⟨hq, pin, aF7⟩
  ·rintro k16 t o hlt ⟨h, pq⟩
   refine pn pq ?_
   rw [fT7] at h
   exact cls
  rintro x17 l18 k16 t o hlt hx22 hw hd ⟨h, pq⟩
  refine pn pq ?_
  rw [fT7] at h
  exact cls
 rintro t o ⟨q14, rfl, pq⟩
 refine pnq pq ?_
 exact cls
theorem PS7 : OkC [xY7] EV7 LO7 LP7 := by
 refine ok fun G H ⟨a0, a1⟩ r h => ?_
 have H_bv9 := H _ (.head _)
 replace H := mQ7 0 H
 refine st1 fun bs t o => ?_
 dsimp only [up7] at h
 try (refine gx ?_; intros; rename_i h)
 obtain ⟨hf, h⟩ := gd h
 obtain ⟨q26, hq, h⟩ := bnd h
 refine ae7 [] [] (fun K J t o => ∃ q26_, q26 = .inr q26_ ∧ PP K J t o) ?_ ?_
 ·have ho1 := h
  refine aQ7 (xs := a0) [1, 2, 15, 16] [] 0 hf (fun K J l30 k28 t o => fU7 a1 l30 k28  = some q26 ∧ PP ((17, .v (.int .i64 (k28 : Int))) :: K) J t o) ?_ ?_ ?_
  ·exact ⟨hq, pin, aF7⟩
  ·rintro k28 t o hlt ⟨h, pq⟩
   refine pn pq ?_
   rw [fU7] at h
   exact cls
  rintro x29 l30 k28 t o hlt hx34 hw hd ⟨h, pq⟩
  refine pn pq ?_
  rw [fU7] at h
  refine gx fun x38 h39 => ?_; intros; rename_i h
  obtain ⟨x41, h42, h⟩ := bnd h
  refine bD7 (c := xY7) (x29, x38) H_bv9 h42 fun ch => ?_
  exact cls
 rintro t o ⟨q26, rfl, pq⟩
 refine pnq pq ?_
 exact cls
theorem PT7 : OkC [EV7, EU7] AE7 LQ7 LR7 := by
 refine ok fun G H ⟨a0, a1⟩ r h => ?_
 refine st1 fun bs t o => ?_
 dsimp only [rB7] at h
 exact cls
theorem PU7 : OkC [vE7, x07, vF7] vK7 LS7 LT7 := by
 refine ok fun G H ⟨a0, a1, a2⟩ r h => ?_
 refine st1 fun bs t o => ?_
 dsimp only [lW7] at h
 exact cls
theorem PV7 : OkC [ES7, ET7, yd7, lR7] AF7 LU7 LV7 := by
 refine ok fun G H ⟨a0, g0, g1⟩ r h => ?_
 refine st1 fun bs t o => ?_
 dsimp only [rC7] at h
 exact cls
theorem PW7 : OkC [AF7, As7, Ar7, vJ7, vK7, AE7] LY7 LW7 LX7 := by
 refine ok fun G H ⟨a0, g0, g1⟩ r h => ?_
 have H_dc9 := H _ (.head _)
 have H_ah9 := H _ (.tail _ (.head _))
 have H_dg9 := H _ (.tail _ (.tail _ (.head _)))
 have H_ak9 := H _ (.tail _ (.tail _ (.tail _ (.head _))))
 have H_aj9 := H _ (.tail _ (.tail _ (.tail _ (.tail _ (.head _)))))
 have H_ao9 := H _ (.tail _ (.tail _ (.tail _ (.tail _ (.tail _ (.head _))))))
 refine st1 fun bs t o => ?_
 dsimp only [uq7] at h
 refine go ?_;intros
 refine aq7 rfl (fun c => ?_) (fun c => ?_)
 ·replace h := itt h (by first | exact c | (have c2 := c; simp only [List.length_map] at c2; exact c2))
  try rw [c]
  refine go ?_;intros
  cases h
  exact bs7
 replace h := itf h (by first | exact c | (have c2 := c; simp only [List.length_map] at c2; exact c2))
 try rw [c]
 refine go ?_;intros
 refine dc7 ?_
 obtain ⟨x1, h2, h⟩ := bnd h
 refine go ?_;intros
 refine av7 (c := AF7) (a0, g0, g1) H_dc9 h2 fun ch => ?_
 refine go ?_;intros
 refine jU7 ?_
 obtain ⟨q8, h93, h⟩ := bnd h
 refine go ?_;intros
 refine d47 (fun t o => ∃ b19 b22, Pin t (ovr [(3, .ptr 24 b19 210 0 0), (4, .v (.string x1.2.1)), (5, .v (.string x1.2.2.1)), (6, .v (.string x1.2.2.2)), (7, .ptr 56 b22 210 0 0), (9, .v (.int .i64 q8.1))] t) ∧ eQ7 o (ovh [(24, ⟨b19, 1, 210, true, [[.sl false 3 (List.map (af7 false) x1.1.commits), .sl false 2 (List.map aw7 x1.1.heads)]]⟩), (56, ⟨b22, 1, 210, true, [[.sl false 3 (List.map (af7 false) q8.2.1), .sl false 2 (List.map aw7 q8.2.2)]]⟩)] o)) ?_ ?_
 ·refine go ?_;intros
  refine dc7 ?_
  obtain ⟨x9, h10, h93⟩ := bnd h93
  refine go ?_;intros
  refine av7 (c := As7) (x1.1, x1.2.1, x1.2.2.1, x1.2.2.2) H_ah9 h10 fun ch => ?_
  refine go ?_;intros
  refine jU7 ?_
  refine go ?_;intros
  cases h93
  exact dd7 ⟨_, _, pin, aF7⟩
 rintro t o ⟨b19, b22, pq1, pq2⟩
 refine bx7 pq1 pq2 ?_
 obtain ⟨x23, h24, h⟩ := bnd h
 refine go ?_;intros
 refine av7 (c := Ar7) (x1.1, x1.2.1, x1.2.2.1, x1.2.2.2) H_dg9 h24 fun ch => ?_
 refine go ?_;intros
 refine aT7 rfl (fun c => ?_) (fun c => ?_)
 ·replace h := itt h c
  rw [c]
  refine go ?_;intros
  cases h
  exact bs7
 replace h := itf h c
 rw [c]
 refine go ?_;intros
 refine aq7 rfl (fun c => ?_) (fun c => ?_)
 ·replace h := itt h c
  try rw [c]
  refine go ?_;intros
  cases h
  exact bs7
 replace h := itf h c
 try rw [c]
 obtain ⟨x32, h33, h⟩ := bnd h
 refine go ?_;intros
 refine av7 (c := vJ7) (x1.1, x1.2.1) H_ak9 h33 fun ch => ?_
 obtain ⟨x34, h35, h⟩ := bnd h
 refine go ?_;intros
 refine av7 (c := vJ7) (x1.1, x1.2.2.1) H_ak9 h35 fun ch => ?_
 obtain ⟨x36, h37, h⟩ := bnd h
 refine go ?_;intros
 refine av7 (c := vJ7) ((⟨q8.2.1, q8.2.2⟩ : ao7), x1.2.1) H_ak9 h37 fun ch => ?_
 obtain ⟨hf73, h⟩ := gd h
 obtain ⟨q61, h94, h⟩ := bnd h
 refine go ?_;intros
 refine ik7 (fun t o => ∃ q61_, q61 = .inr q61_ ∧ ∃ b80 b81, Pin t (ovr [(3, .ptr 24 b80 210 0 0), (6, .v (.string x1.2.2.2)), (7, .ptr 56 b81 210 0 0), (13, .v (.int .i64 x32)), (14, .v (.int .i64 x34)), (15, .v (.int .i64 x36))] t) ∧ eQ7 o (ovh [(24, ⟨b80, 1, 210, true, [[.sl false 3 (List.map (af7 false) x1.1.commits), .sl false 2 (List.map aw7 x1.1.heads)]]⟩), (56, ⟨b81, 1, 210, true, [[.sl false 3 (List.map (af7 false) q8.2.1), .sl false 2 (List.map aw7 q8.2.2)]]⟩)] o)) ?_ ?_
 ·refine dX7 (fun n t o => ∃ l67 k65  b63 b64, dI7 x36 q8 x1 x32 x34 l67 k65  = some q61 ∧ n = l67.length ∧ (x1.1.commits).drop k65 = l67 ∧ Pin t (ovr [(3, .ptr 24 b63 210 0 0), (6, .v (.string x1.2.2.2)), (7, .ptr 56 b64 210 0 0), (13, .v (.int .i64 x32)), (14, .v (.int .i64 x34)), (15, .v (.int .i64 x36)), (16, .v (.int .i64 (k65 : Int)))] t) ∧ eQ7 o (ovh [(24, ⟨b63, 1, 210, true, [[.sl false 3 (List.map (af7 false) x1.1.commits), .sl false 2 (List.map aw7 x1.1.heads)]]⟩), (56, ⟨b64, 1, 210, true, [[.sl false 3 (List.map (af7 false) q8.2.1), .sl false 2 (List.map aw7 q8.2.2)]]⟩)] o)) _ ⟨_, _, _, _, h94, rfl, rfl, pin, aF7⟩ ?_
  rintro n t o ⟨l67, k65, b63, b64, h94, rfl, hd68, pq1, pq2⟩
  refine bx7 pq1 pq2 ?_
  cases l67 with
  | nil =>
   have hge70 := lr7 hd68
   rw [dI7] at h94
   refine go ?_;intros
   rw [hge70]
   refine go ?_;intros
   cases h94
   exact dd7 ⟨_, rfl, _, _, pin, aF7⟩
  | cons x66 l67 =>
   have hlt69 := ls7 hd68
   have hx71 := sF7 hd68
   have hw72 := sG7 hd68 hf73
   rw [dI7] at h94
   refine go ?_;intros
   rw [hlt69]
   refine go ?_;intros
   refine aT7 rfl (fun c => ?_) (fun c => ?_)
   ·replace h94 := itt h94 c
    rw [c]
    obtain ⟨x74, h75, h94⟩ := bnd h94
    refine go ?_;intros
    refine av7 (c := vK7) ((⟨q8.2.1, q8.2.2⟩ : ao7), (k65 : Int), x36) H_aj9 h75 fun ch => ?_
    obtain ⟨x76, h77, h94⟩ := bnd h94
    refine go ?_;intros
    refine av7 (c := vK7) (x1.1, (k65 : Int), x32) H_aj9 h77 fun ch => ?_
    refine go ?_;intros
    refine aT7 rfl (fun c => ?_) (fun c => ?_)
    ·replace h94 := itt h94 c
     rw [c]
     refine go ?_;intros
     refine aq7 rfl (fun c => ?_) (fun c => ?_)
     ·replace h94 := itt h94 c
      try rw [c]
      refine go ?_;intros
      cases h94
      replace h : some _ = some _ := h
      cases h
      exact bs7
     replace h94 := itf h94 c
     try rw [c]
     refine go ?_;intros
     rw [hw72]
     exact dY7 _ (Nat.lt_succ_self _) ⟨_, _, _, _, h94, rfl, cs7 hd68, pin, aF7⟩
    replace h94 := itf h94 c
    rw [c]
    obtain ⟨x78, h79, h94⟩ := bnd h94
    refine go ?_;intros
    refine av7 (c := vK7) (x1.1, (k65 : Int), x34) H_aj9 h79 fun ch => ?_
    refine go ?_;intros
    refine aq7 rfl (fun c => ?_) (fun c => ?_)
    ·replace h94 := itt h94 c
     try rw [c]
     refine go ?_;intros
     cases h94
     replace h : some _ = some _ := h
     cases h
     exact bs7
    replace h94 := itf h94 c
    try rw [c]
    refine go ?_;intros
    rw [hw72]
    exact dY7 _ (Nat.lt_succ_self _) ⟨_, _, _, _, h94, rfl, cs7 hd68, pin, aF7⟩
   replace h94 := itf h94 c
   rw [c]
   refine go ?_;intros
   rw [hw72]
   exact dY7 _ (Nat.lt_succ_self _) ⟨_, _, _, _, h94, rfl, cs7 hd68, pin, aF7⟩
 rintro t o ⟨q61, rfl, b80, b81, pq1, pq2⟩
 refine fn7 pq1 pq2 ?_
 obtain ⟨x82, h83, h⟩ := bnd h
 refine go ?_;intros
 refine ln7 (f := (af7 false)) rfl rfl rfl h83 (fun _ => rfl) ?_
 obtain ⟨x85, h86, h⟩ := bnd h
 refine go ?_;intros
 refine av7 (c := AE7) ((⟨x82, x1.1.heads⟩ : ao7), x1.1) H_ao9 h86 fun ch => ?_
 refine go ?_;intros
 refine aT7 rfl (fun c => ?_) (fun c => ?_)
 ·replace h := itt h c
  rw [c]
  obtain ⟨x87, h88, h⟩ := bnd h
  refine go ?_;intros
  refine cr7 rfl rfl h88 rfl ?_
  refine go ?_;intros
  refine aT7 rfl (fun c => ?_) (fun c => ?_)
  ·replace h := itt h c
   rw [c]
   refine go ?_;intros
   refine cr7 rfl rfl h88 rfl ?_
   refine go ?_;intros
   refine aT7 rfl (fun c => ?_) (fun c => ?_)
   ·replace h := itt h (by first | exact c | (have c2 := c; simp only [List.length_map] at c2; exact c2))
    rw [c]
    refine go ?_;intros
    refine cr7 rfl rfl h88 rfl ?_
    obtain ⟨x89, h90, h⟩ := bnd h
    refine go ?_;intros
    refine cr7 rfl rfl h90 rfl ?_
    refine go ?_;intros
    refine aT7 rfl (fun c => ?_) (fun c => ?_)
    ·replace h := itt h c
     rw [c]
     refine go ?_;intros
     refine cr7 rfl rfl h88 rfl ?_
     obtain ⟨x91, h92, h⟩ := bnd h
     refine go ?_;intros
     refine cr7 rfl rfl h92 rfl ?_
     refine go ?_;intros
     cases h
     exact bs7
    replace h := itf h c
    rw [c]
    refine go ?_;intros
    cases h
    exact bs7
   replace h := itf h (by first | exact c | (have c2 := c; simp only [List.length_map] at c2; exact c2))
   rw [c]
   refine go ?_;intros
   cases h
   exact bs7
  replace h := itf h c
  rw [c]
  refine go ?_;intros
  cases h
  exact bs7
 replace h := itf h c
 rw [c]
 refine go ?_;intros
 cases h
 exact bs7
end Go.Proofs.AM
