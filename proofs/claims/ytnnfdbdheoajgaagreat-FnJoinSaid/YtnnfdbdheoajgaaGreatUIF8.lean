/- Lemmas of the proof (UIF8), on an abstract machine. Conditions: none. -/
import Derived.Test.YtnnfdbdheoajgaaGreatUID
set_option linter.unusedVariables false
set_option linter.unusedSimpArgs false
set_option maxRecDepth 100000
set_option maxHeartbeats 4000000
namespace Go.Proofs.AM
attribute [local irreducible] vwp cY7 bI7 f97 vdo jn7 mS7 j07 fi7 mG7 kM7 bL7 e87 kt7 dY7 jO7 k37 k27
theorem PU7 : OkC [yn7, cm7, yl7, ym7, vK7] sZ7 Lv7 Lw7 := by
 refine ok fun G H ⟨a0, a1, g0, g1⟩ r h => ?_
 refine st1 fun bs t o => ?_
 dsimp only [l17] at h
 refine gx fun x2 h3 x7 h8 => ?_; intros; rename_i h
 obtain ⟨q39, hq, h⟩ := bnd h
 refine ae7 [4] [1000514, 1000515, 32] (fun K J t o => ∃ b4 c5 b56 c57 b58, PP ((5, .ptr 40 b58 100 0 0) :: K) ((1000642, ent b4 c5 66 (List.map ePt x2.1.pts)) :: (1000643, ent b56 c57 82 (List.map bg7 q39.1)) :: (40, ⟨b58, 1, 100, true, [[.v (.string a1), .v (.int .i64 x2.1.kind), .al 1000642 b4 c5 0 x2.1.pts.length 66, .al 1000643 b56 c57 0 q39.1.length 82]]⟩) :: (0, ⟨(bs 0).1, (bs 0).2, 290, true, [[.rw g0 g1 (List.map eU8 a0.b), .v (.int .i64 q39.2)]]⟩) :: J) t o) ?_ ?_
 ·refine dB7 [4] [1000514, 1000515, 32] (fun K J n46 t o => ∃ v40 v41 v42 b4 c5 b43 c44 b45, ey7 a0 n46 v40 v41 v42 = some q39 ∧ PP ((0, .ptr 0 (bs 0).1 290 0 0) :: (5, .ptr 40 b45 100 0 0) :: (6, .v (.int .i64 v40)) :: K) ((0, ⟨(bs 0).1, (bs 0).2, 290, true, [[.rw g0 g1 (List.map eU8 a0.b), .v (.int .i64 v41)]]⟩) :: (1000642, ent b4 c5 66 (List.map ePt x2.1.pts)) :: (1000643, ent b43 c44 82 (List.map bg7 v42)) :: (40, ⟨b45, 1, 100, true, [[.v (.string a1), .v (.int .i64 x2.1.kind), .al 1000642 b4 c5 0 x2.1.pts.length 66, .al 1000643 b43 c44 0 v42.length 82]]⟩) :: J) t o) ?_ ?_
  ·exact ⟨_, _, _, _, _, _, _, _, hq, pin, aJ7⟩
  rintro n46 t o ⟨v40, v41, v42, b4, c5, b43, c44, b45, h, pq⟩
  refine pn pq ?_
  cases n46 with
  | zero => rw [ey7] at h; cases h
  | succ n46 =>
   rw [ey7] at h
   exact cls
 rintro t o ⟨b4, c5, b56, c57, b58, pq⟩
 refine pnq pq ?_
 exact cls
theorem PV7 : OkC [yn7, cm7, mY7] AF7 Lx7 Ly7 := by
 refine ok fun G H ⟨a0, g0, g1⟩ r h => ?_
 have H_ei9 := H _ (.head _)
 have H_dz9 := H _ (.tail _ (.head _))
 have H_dx9 := H _ (.tail _ (.tail _ (.head _)))
 refine st1 fun bs t o => ?_
 dsimp only [rv7] at h
 obtain ⟨x2, h3, h⟩ := bnd h
 refine go ?_;intros
 refine ao7 (c := yn7) (a0, g0, g1) H_ei9 h3 fun ch => ?_
 obtain ⟨x7, h8, h⟩ := bnd h
 refine go ?_;intros
 refine ao7 (c := cm7) ((⟨a0.b, x2.2⟩ : Rd), (x2.1.pts.length : Int), g0, g1) H_dz9 h8 fun ch => ?_
 obtain ⟨x9, h10, h⟩ := bnd h
 refine go ?_;intros
 refine ao7 (c := cm7) ((⟨a0.b, x7.2⟩ : Rd), 40, g0, g1) H_dz9 h10 fun ch => ?_
 obtain ⟨q11, h34, h⟩ := bnd h
 refine go ?_;intros
 refine dA7 (fun t o => ∃ b12 c13 b14 b15 c16 b17, Pin t (ovr [(0, .ptr 0 (bs 0).1 290 0 0), (2, .ptr 16 b14 226 0 0), (3, .ptr 24 b17 226 0 0), (4, .v (.int .i64 x7.1)), (13, .v (.int .i64 x9.1)), (14, .v (.bool (x9.1 == 0)))] t) ∧ e97 o (ovh [(0, ⟨(bs 0).1, (bs 0).2, 290, true, [[.rw g0 g1 (List.map eU8 a0.b), .v (.int .i64 x9.2)]]⟩), (1000257, ent b12 c13 66 (List.map ePt [])), (16, ⟨b14, 1, 226, true, [[.v (.int .i64 0), .al 1000257 b12 c13 0 ([] : List Pt).length 66]]⟩), (1000385, ent b15 c16 66 (List.map ePt x2.1.pts)), (24, ⟨b17, 1, 226, true, [[.v (.int .i64 x2.1.kind), .al 1000385 b15 c16 0 x2.1.pts.length 66]]⟩)] o)) ?_ ?_
 ·refine go ?_;intros
  cases h34
  exact dd7 ⟨_, _, _, _, _, _, pin, aJ7⟩
 rintro t o ⟨b12, c13, b14, b15, c16, b17, pq1, pq2⟩
 refine bz7 pq1 pq2 ?_
 refine go ?_;intros
 refine as7 rfl (fun c => ?_) (fun c => ?_)
 ·replace h := itt h c
  try rw [c]
  obtain ⟨x19, h20, h⟩ := bnd h
  refine go ?_;intros
  refine ao7 (c := mY7) ((⟨a0.b, x9.2⟩ : Rd), ([0, 4, 1, 2, 3] : (List Int)), g0, g1) H_dx9 h20 fun ch => ?_
  refine go ?_;intros
  cases h
  exact aY7
 replace h := itf h c
 try rw [c]
 refine go ?_;intros
 refine as7 rfl (fun c => ?_) (fun c => ?_)
 ·replace h := itt h c
  try rw [c]
  obtain ⟨x22, h23, h⟩ := bnd h
  refine go ?_;intros
  refine ao7 (c := mY7) ((⟨a0.b, x9.2⟩ : Rd), ([1000, 1001, (-1001)] : (List Int)), g0, g1) H_dx9 h23 fun ch => ?_
  obtain ⟨x24, h25, h⟩ := bnd h
  refine go ?_;intros
  refine eK7 (xs := x2.1.pts) rfl rfl h25 rfl ?_
  refine go ?_;intros
  refine cI7 (f := ePt) x2.1.pts (⟨x22.1, x24.y⟩ : Pt) (aF7 h25).2 ?_
  refine go ?_;intros
  cases h
  exact aY7
 replace h := itf h c
 try rw [c]
 refine go ?_;intros
 refine as7 rfl (fun c => ?_) (fun c => ?_)
 ·replace h := itt h c
  try rw [c]
  obtain ⟨x26, h27, h⟩ := bnd h
  refine go ?_;intros
  refine eK7 (xs := x2.1.pts) rfl rfl h27 rfl ?_
  refine go ?_;intros
  refine oL7 (f := ePt) (xs := x2.1.pts) (x := x26) rfl rfl (aF7 h27).2 rfl rfl rfl ?_
  obtain ⟨h31, h⟩ := gd h
  refine go ?_;intros
  refine d37 (f := ePt) (xs := x2.1.pts) (ys := ([x26] : (List Pt))) rfl (eW7 rfl rfl (by first | rfl | simp)) rfl rfl (by first | rfl | simp) h31 fun b29 c30 => ?_
  refine go ?_;intros
  cases h
  exact aY7
 replace h := itf h c
 try rw [c]
 refine go ?_;intros
 refine as7 rfl (fun c => ?_) (fun c => ?_)
 ·replace h := itt h c
  try rw [c]
  refine go ?_;intros
  refine Ds7 ?_
  obtain ⟨x32, h33, h⟩ := bnd h
  refine go ?_;intros
  refine GR7 (xs := x2.1.pts) h33 rfl rfl rfl rfl (by first | rfl | simp) ?_
  refine go ?_;intros
  refine QN7 (f := ePt) h33 rfl rfl rfl ?_
  refine go ?_;intros
  cases h
  exact aY7
 replace h := itf h c
 try rw [c]
 refine go ?_;intros
 cases h
 exact aY7
theorem PW7 : OkC [sY7, sZ7, cm7, lZ7, AF7] AG7 Lz7 LA7 := by
 refine ok fun G H ⟨a0, g0, g1⟩ r h => ?_
 have H_en9 := H _ (.head _)
 have H_el9 := H _ (.tail _ (.head _))
 have H_dz9 := H _ (.tail _ (.tail _ (.head _)))
 have H_dy9 := H _ (.tail _ (.tail _ (.tail _ (.head _))))
 have H_ea9 := H _ (.tail _ (.tail _ (.tail _ (.tail _ (.head _)))))
 refine st1 fun bs t o => ?_
 dsimp only [rw7] at h
 obtain ⟨q2, h47, h⟩ := bnd h
 refine go ?_;intros
 refine dA7 (fun t o => ∃ b13 c14 b15 c16 b17 b19 c20 b22 c23 b26, Pin t (ovr [(0, .ptr 0 (bs 0).1 290 0 0), (2, .ptr 16 b17 100 0 0), (3, .ptr 24 b26 100 0 0)] t) ∧ e97 o (ovh [(0, ⟨(bs 0).1, (bs 0).2, 290, true, [[.rw g0 g1 (List.map eU8 a0.b), .v (.int .i64 q2.1)]]⟩), (1000258, ent b13 c14 66 (List.map ePt [])), (1000259, ent b15 c16 82 (List.map bg7 [])), (16, ⟨b17, 1, 100, true, [[.v (.string (⟨#[]⟩ : Str)), .v (.int .i64 0), .al 1000258 b13 c14 0 ([] : List Pt).length 66, .al 1000259 b15 c16 0 ([] : List Tag).length 82]]⟩), (1000386, ent b19 c20 66 (List.map ePt q2.2.1)), (1000387, ent b22 c23 82 (List.map bg7 q2.2.2.1)), (24, ⟨b26, 1, 100, true, [[.v (.string q2.2.2.2.1), .v (.int .i64 q2.2.2.2.2), .al 1000386 b19 c20 0 q2.2.1.length 66, .al 1000387 b22 c23 0 q2.2.2.1.length 82]]⟩)] o)) ?_ ?_
 ·obtain ⟨x3, h4, h47⟩ := bnd h47
  refine go ?_;intros
  refine ao7 (c := sY7) (a0, g0, g1) H_en9 h4 fun ch => ?_
  obtain ⟨x5, h6, h47⟩ := bnd h47
  refine go ?_;intros
  refine ao7 (c := sZ7) ((⟨a0.b, x3.2⟩ : Rd), x3.1, g0, g1) H_el9 h6 fun ch => ?_
  refine go ?_;intros
  cases h47
  exact dd7 ⟨_, _, _, _, _, _, _, _, _, _, pin, aJ7⟩
 rintro t o ⟨b13, c14, b15, c16, b17, b19, c20, b22, c23, b26, pq1, pq2⟩
 refine bz7 pq1 pq2 ?_
 obtain ⟨x27, h28, h⟩ := bnd h
 refine go ?_;intros
 refine ao7 (c := cm7) ((⟨a0.b, q2.1⟩ : Rd), 40, g0, g1) H_dz9 h28 fun ch => ?_
 refine go ?_;intros
 refine as7 rfl (fun c => ?_) (fun c => ?_)
 ·replace h := itt h c
  try rw [c]
  obtain ⟨x30, h31, h⟩ := bnd h
  refine go ?_;intros
  refine ao7 (c := lZ7) ((⟨a0.b, x27.2⟩ : Rd), ([(⟨#[]⟩ : Str), (⟨#[65]⟩ : Str), (⟨#[97, 98, 99, 100, 101, 102, 103]⟩ : Str)] : (List Str)), g0, g1) H_dy9 h31 fun ch => ?_
  refine go ?_;intros
  cases h
  exact aY7
 replace h := itf h c
 try rw [c]
 refine go ?_;intros
 refine as7 rfl (fun c => ?_) (fun c => ?_)
 ·replace h := itt h c
  try rw [c]
  obtain ⟨x32, h33, h⟩ := bnd h
  refine go ?_;intros
  refine ao7 (c := AF7) ((⟨a0.b, x27.2⟩ : Rd), g0, g1) H_ea9 h33 fun ch => ?_
  refine go ?_;intros
  cases h
  exact aY7
 replace h := itf h c
 try rw [c]
 refine go ?_;intros
 refine as7 rfl (fun c => ?_) (fun c => ?_)
 ·replace h := itt h c
  try rw [c]
  obtain ⟨h39, h⟩ := gd h
  refine go ?_;intros
  refine d37 (f := bg7) (xs := q2.2.2.1) (ys := ([(⟨(⟨#[97]⟩ : Str), (⟨#[98]⟩ : Str)⟩ : Tag)] : (List Tag))) rfl (eW7 rfl rfl (by first | rfl | simp)) rfl rfl (by first | rfl | simp) h39 fun b37 c38 => ?_
  refine go ?_;intros
  cases h
  exact aY7
 replace h := itf h c
 try rw [c]
 refine go ?_;intros
 refine as7 rfl (fun c => ?_) (fun c => ?_)
 ·replace h := itt h c
  try rw [c]
  obtain ⟨x41, h42, h⟩ := bnd h
  refine go ?_;intros
  refine ao7 (c := lZ7) ((⟨a0.b, x27.2⟩ : Rd), ([(⟨#[]⟩ : Str), (⟨#[66]⟩ : Str)] : (List Str)), g0, g1) H_dy9 h42 fun ch => ?_
  obtain ⟨h46, h⟩ := gd h
  refine go ?_;intros
  refine d37 (f := bg7) (xs := q2.2.2.1) (ys := ([(⟨(⟨#[122, 122]⟩ : Str), x41.1⟩ : Tag)] : (List Tag))) rfl (eW7 rfl rfl (by first | rfl | simp)) rfl rfl (by first | rfl | simp) h46 fun b44 c45 => ?_
  refine go ?_;intros
  cases h
  exact aY7
 replace h := itf h c
 try rw [c]
 refine go ?_;intros
 cases h
 exact aY7
theorem PX7 : OkC [] yo7 LB7 LC7 := by
 refine ok fun G H ⟨a0, a1⟩ r h => ?_
 refine st1 fun bs t o => ?_
 dsimp only [od7] at h
 try (refine gx ?_; intros; rename_i h)
 obtain ⟨hf, h⟩ := gd h
 obtain ⟨q78, hq, h⟩ := bnd h
 refine ae7 [3] [24] (fun K J t o => ∃ b112 c113, PP ((5, .ref 64 b112 c113 0 q78.2.length 100) :: (6, .v (.bool q78.1)) :: K) ((64, ent b112 c113 100 (List.map (ak7 false) q78.2)) :: J) t o) ?_ ?_
 ·refine aQ7 (xs := a0) [0, 3] [0, 24] 0 hf (fun K J l86 k84 t o => ∃ v79 v81 b82 c83, fP7 a1 l86 k84 v79 v81 = some q78 ∧ PP ((5, .ref 64 b82 c83 0 v81.length 100) :: (6, .v (.bool v79)) :: (7, .v (.int .i64 (k84 : Int))) :: K) ((64, ent b82 c83 100 (List.map (ak7 false) v81)) :: J) t o) ?_ ?_ ?_
  ·exact ⟨_, _, _, _, hq, pin, aJ7⟩
  ·rintro k84 t o hlt ⟨v79, v81, b82, c83, h, pq⟩
   refine pn pq ?_
   rw [fP7] at h
   exact cls
  rintro x85 l86 k84 t o hlt hx90 hw hd ⟨v79, v81, b82, c83, h, pq⟩
  refine pn pq ?_
  rw [fP7] at h
  try (refine gx ?_; intros; rename_i h)
  obtain ⟨q97, hq, h⟩ := bnd h
  refine a97 [0, 3, 7] [0, 24] (fun K J t o => ∃ b104 c105, PP ((5, .ref 64 b104 c105 0 q97.2.length 100) :: (6, .v (.bool q97.1)) :: K) ((64, ent b104 c105 100 (List.map (ak7 false) q97.2)) :: J) t o) ?_ ?_
  ·have h := hq
   exact cls
  rintro t o ⟨b104, c105, pq⟩
  refine pn pq ?_
  exact cls
 rintro t o ⟨b112, c113, pq⟩
 refine pnq pq ?_
 exact cls
theorem PY7 : OkC [cm7, sY7, sZ7, yo7] vQ7 LD7 LE7 := by
 refine ok fun G H ⟨a0, g0, g1⟩ r h => ?_
 refine st1 fun bs t o => ?_
 dsimp only [oe7] at h
 refine gx fun x2 h3 => ?_; intros; rename_i h
 obtain ⟨q45, hq, h⟩ := bnd h
 refine ae7 [] [] (fun K J t o => ∃ b65 c66, PP ((3, .ref 2000003 b65 c66 0 q45.1.length 100) :: K) ((2000003, ent b65 c66 100 (List.map (ak7 false) q45.1)) :: (0, ⟨(bs 0).1, (bs 0).2, 290, true, [[.rw g0 g1 (List.map eU8 a0.b), .v (.int .i64 q45.2)]]⟩) :: J) t o) ?_ ?_
 ·refine dB7 [] [] (fun K J n51 t o => ∃ v46 v47 v48 b49 c50, ez7 a0 n51 v46 v47 v48 = some q45 ∧ PP ((0, .ptr 0 (bs 0).1 290 0 0) :: (3, .ref 2000003 b49 c50 0 v48.length 100) :: (4, .v (.int .i64 v46)) :: K) ((0, ⟨(bs 0).1, (bs 0).2, 290, true, [[.rw g0 g1 (List.map eU8 a0.b), .v (.int .i64 v47)]]⟩) :: (2000003, ent b49 c50 100 (List.map (ak7 false) v48)) :: J) t o) ?_ ?_
  ·exact ⟨_, _, _, _, _, hq, pin, aJ7⟩
  rintro n51 t o ⟨v46, v47, v48, b49, c50, h, pq⟩
  refine pn pq ?_
  cases n51 with
  | zero => rw [ez7] at h; cases h
  | succ n51 =>
   rw [ez7] at h
   exact cls
 rintro t o ⟨b65, c66, pq⟩
 refine pnq pq ?_
 exact cls
theorem PZ7 : OkC [vQ7, cm7, AG7, yo7] AH7 LF7 LG7 := by
 refine ok fun G H ⟨a0, g0, g1⟩ r h => ?_
 have H_ez9 := H _ (.head _)
 have H_dz9 := H _ (.tail _ (.head _))
 have H_ej9 := H _ (.tail _ (.tail _ (.head _)))
 have H_ey9 := H _ (.tail _ (.tail _ (.tail _ (.head _))))
 refine st1 fun bs t o => ?_
 dsimp only [rx7] at h
 obtain ⟨x1, h2, h⟩ := bnd h
 refine go ?_;intros
 refine ao7 (c := vQ7) (a0, g0, g1) H_ez9 h2 fun ch => ?_
 refine go ?_;intros
 refine zR7 ?_
 refine go ?_;intros
 refine MA7 rfl rfl ?_
 obtain ⟨x5, h6, h⟩ := bnd h
 refine go ?_;intros
 refine ao7 (c := cm7) ((⟨a0.b, x1.2⟩ : Rd), 40, g0, g1) H_dz9 h6 fun ch => ?_
 refine go ?_;intros
 refine as7 rfl (fun c => ?_) (fun c => ?_)
 ·replace h := itt h c
  try rw [c]
  refine go ?_;intros
  refine du7 ?_
  obtain ⟨x7, h8, h⟩ := bnd h
  refine go ?_;intros
  refine ao7 (c := AG7) ((⟨a0.b, x5.2⟩ : Rd), g0, g1) H_ej9 h8 fun ch => ?_
  refine go ?_;intros
  refine kO7 ?_
  obtain ⟨h16, h⟩ := gd h
  refine go ?_;intros
  refine d37 (f := (ak7 false)) (xs := x1.1) (ys := ([x7.1] : (List Feat))) rfl (eW7 rfl rfl (by first | rfl | simp)) rfl rfl (by first | rfl | simp) h16 fun b14 c15 => ?_
  refine go ?_;intros
  refine zR7 ?_
  refine go ?_;intros
  refine MA7 rfl rfl ?_
  refine go ?_;intros
  cases h
  exact aY7
 replace h := itf h c
 try rw [c]
 refine go ?_;intros
 refine as7 rfl (fun c => ?_) (fun c => ?_)
 ·replace h := itt h c
  try rw [c]
  obtain ⟨h19, h⟩ := gd h
  refine go ?_;intros
  refine d37 (f := (ak7 false)) (xs := x1.1) (ys := x1.1) rfl (B57 (f := (ak7 false)) rfl (by first | rfl | simp) (fun _ => rfl)) rfl rfl (by first | rfl | simp) h19 fun b17 c18 => ?_
  refine go ?_;intros
  cases h
  exact aY7
 replace h := itf h c
 try rw [c]
 refine go ?_;intros
 refine as7 rfl (fun c => ?_) (fun c => ?_)
 ·replace h := itt h c
  try rw [c]
  obtain ⟨q47, h63, h⟩ := bnd h
  refine go ?_;intros
  refine lA7 (fun t o => ∃ b61 c62, Pin t (ovr [(3, .ref 2000003 b61 c62 0 q47.length 100)] t) ∧ e97 o (ovh [(2000003, ent b61 c62 100 (List.map (ak7 false) q47)), (0, ⟨(bs 0).1, (bs 0).2, 290, true, [[.rw g0 g1 (List.map eU8 a0.b), .v (.int .i64 x5.2)]]⟩)] o)) ?_ ?_
  ·refine fl7 (fun n t o => ∃ n52 v48 v49 b50 c51, eA7 n52 v48 v49 = some q47 ∧ n52 = n ∧ Pin t (ovr [(3, .ref 2000003 b50 c51 0 v49.length 100), (4, .v (.int .i64 v48))] t) ∧ e97 o (ovh [(2000003, ent b50 c51 100 (List.map (ak7 false) v49)), (0, ⟨(bs 0).1, (bs 0).2, 290, true, [[.rw g0 g1 (List.map eU8 a0.b), .v (.int .i64 x5.2)]]⟩)] o)) _ ⟨_, _, _, _, _, h63, rfl, pin, aJ7⟩ ?_
   rintro n t o ⟨n52, v48, v49, b50, c51, h63, rfl, pq1, pq2⟩
   refine bz7 pq1 pq2 ?_
   cases n52 with
   | zero => rw [eA7] at h63; cases h63
   | succ n52 =>
    rw [eA7] at h63
    refine go ?_;intros
    refine as7 rfl (fun c => ?_) (fun c => ?_)
    ·replace h63 := itt h63 c
     try rw [c]
     obtain ⟨x53, h54, h63⟩ := bnd h63
     refine go ?_;intros
     refine Gq7 rfl rfl rfl h54 ?_
     refine go ?_;intros
     refine du7 ?_
     refine go ?_;intros
     refine kO7 (h := (B97 (io7 Np7 (io7 Np7 (io7 (xo7 (f := ePt) (g := ePt) (xs := ([(⟨0, 0⟩ : Pt)] : (List Pt))) rfl vv7 (by first | rfl | simp)) (io7 B87 xp7)))))) ?_
     obtain ⟨x56, h57, h63⟩ := bnd h63
     refine go ?_;intros
     refine ao7 (c := yo7) (v49, (⟨x53, ⟨1, [(⟨0, 0⟩ : Pt)]⟩, []⟩ : Feat)) H_ey9 h57 fun ch => ?_
     refine go ?_;intros
     refine zR7 ?_
     refine go ?_;intros
     refine MA7 rfl rfl ?_
     refine go ?_;intros
     exact gy7 _ (Nat.lt_succ_self _) ⟨_, _, _, _, _, h63, rfl, pin, aJ7⟩
    replace h63 := itf h63 c
    try rw [c]
    refine go ?_;intros
    cases h63
    exact dd7 ⟨_, _, pin, aJ7⟩
  rintro t o ⟨b61, c62, pq1, pq2⟩
  refine hQ7 pq1 pq2 ?_
  refine go ?_;intros
  cases h
  exact aY7
 replace h := itf h c
 try rw [c]
 refine go ?_;intros
 cases h
 exact aY7
theorem P07 : OkC [o17] AI7 LH7 LI7 := by
 refine ok fun G H a0 r h => ?_
 refine st1 fun bs t o => ?_
 dsimp only [ry7] at h
 exact cls
theorem P17 : OkC [vJ7, o17, sV7, o27] AJ7 LJ7 LK7 := by
 refine ok fun G H ⟨a0, a1, a2⟩ r h => ?_
 refine st1 fun bs t o => ?_
 dsimp only [rz7] at h
 refine gx fun x3 h4 x5 h6 => ?_; intros; rename_i h
 obtain ⟨q7, hq, h⟩ := bnd h
 refine a97 [1, 2, 3, 6] [24, 1000768, 1000769, 48] (fun K J t o => ∃ b16 c17 b19 c20 b21, PP ((8, .ptr 64 b21 210 0 0) :: K) ((1001024, ent b16 c17 115 (List.map (af7 true) q7.1)) :: (1001025, ent b19 c20 130 (List.map az7 q7.2)) :: (64, ⟨b21, 1, 210, true, [[.al 1001024 b16 c17 0 q7.1.length 115, .al 1001025 b19 c20 0 q7.2.length 130]]⟩) :: J) t o) ?_ ?_
 ·have h := hq
  exact cls
 rintro t o ⟨b16, c17, b19, c20, b21, pq⟩
 refine pn pq ?_
 exact cls
theorem P27 : OkC [lZ7] yp7 LL7 LM7 := by
 refine ok fun G H ⟨a0, g0, g1⟩ r h => ?_
 refine st1 fun bs t o => ?_
 dsimp only [l27] at h
 exact cls
theorem P37 : OkC [] AK7 LN7 LO7 := by
 refine ok fun G H ⟨a0, a1⟩ r h => ?_
 refine st1 fun bs t o => ?_
 dsimp only [rA7] at h
 try (refine gx ?_; intros; rename_i h)
 obtain ⟨hf, h⟩ := gd h
 obtain ⟨q24, hq, h⟩ := bnd h
 refine ae7 [] [] (fun K J t o => ∃ b43 c44, PP ((5, .ref 56 b43 c44 0 q24.length 100) :: K) ((56, ent b43 c44 100 (List.map (ak7 false) q24)) :: J) t o) ?_ ?_
 ·refine aQ7 (xs := a0) [0, 1] [] 0 hf (fun K J l31 k29 t o => ∃ v26 b27 c28, fQ7 a1 l31 k29 v26 = some q24 ∧ PP ((5, .ref 56 b27 c28 0 v26.length 100) :: (6, .v (.int .i64 (k29 : Int))) :: K) ((56, ent b27 c28 100 (List.map (ak7 false) v26)) :: J) t o) ?_ ?_ ?_
  ·exact ⟨_, _, _, hq, pin, aJ7⟩
  ·rintro k29 t o hlt ⟨v26, b27, c28, h, pq⟩
   refine pn pq ?_
   rw [fQ7] at h
   exact cls
  rintro x30 l31 k29 t o hlt hx35 hw hd ⟨v26, b27, c28, h, pq⟩
  refine pn pq ?_
  rw [fQ7] at h
  exact cls
 rintro t o ⟨b43, c44, pq⟩
 refine pnq pq ?_
 exact cls
theorem P47 : OkC [cm7, rt7, qM7] AL7 LP7 LQ7 := by
 refine ok fun G H ⟨a0, a1, g0, g1⟩ r h => ?_
 have H_dz9 := H _ (.head _)
 have H_ef9 := H _ (.tail _ (.head _))
 have H_dq9 := H _ (.tail _ (.tail _ (.head _)))
 refine st1 fun bs t o => ?_
 dsimp only [rB7] at h
 refine go ?_;intros
 refine as7 rfl (fun c => ?_) (fun c => ?_)
 ·replace h := itt h (by first | exact c | (have c2 := c; simp only [List.length_map] at c2; exact c2))
  try rw [c]
  refine go ?_;intros
  cases h
  exact aY7
 replace h := itf h (by first | exact c | (have c2 := c; simp only [List.length_map] at c2; exact c2))
 try rw [c]
 obtain ⟨x3, h4, h⟩ := bnd h
 refine go ?_;intros
 refine ao7 (c := cm7) (a0, (a1.pts.length : Int), g0, g1) H_dz9 h4 fun ch => ?_
 obtain ⟨x6, h7, h⟩ := bnd h
 refine go ?_;intros
 refine oJ7 (f := ePt) rfl rfl rfl h7 (fun _ => rfl) ?_
 obtain ⟨h10, h⟩ := gd h
 refine go ?_;intros
 refine d37 (f := ePt) (xs := ([] : (List Pt))) (ys := x6) rfl (in7 (fun _ => rfl) (fun _ => rfl)) rfl rfl (by first | rfl | simp) h10 fun b8 c9 => ?_
 obtain ⟨q40, h81, h⟩ := bnd h
 refine go ?_;intros
 refine dA7 (fun t o => ∃ b70 b71 c72 b73 b75 c76, Pin t (ovr [(3, .ptr 24 b70 226 0 0), (4, .ptr 32 b73 226 0 0), (6, .ref 144 b75 c76 0 q40.1.length 66)] t) ∧ e97 o (ovh [(24, ⟨b70, 1, 226, true, [[.v (.int .i64 a1.kind), .sl false 2 (List.map ePt a1.pts)]]⟩), (1000513, ent b71 c72 66 (List.map ePt [])), (32, ⟨b73, 1, 226, true, [[.v (.int .i64 0), .al 1000513 b71 c72 0 ([] : List Pt).length 66]]⟩), (144, ent b75 c76 66 (List.map ePt q40.1)), (0, ⟨(bs 0).1, (bs 0).2, 290, true, [[.rw g0 g1 (List.map eU8 a0.b), .v (.int .i64 q40.2)]]⟩)] o)) ?_ ?_
 ·obtain ⟨x41, h42, h81⟩ := bnd h81
  refine go ?_;intros
  refine ao7 (c := cm7) ((⟨a0.b, x3.2⟩ : Rd), 3, g0, g1) H_dz9 h42 fun ch => ?_
  refine go ?_;intros
  refine as7 rfl (fun c => ?_) (fun c => ?_)
  ·replace h81 := itt h81 c
   try rw [c]
   obtain ⟨x43, h44, h81⟩ := bnd h81
   refine go ?_;intros
   refine ao7 (c := rt7) ((⟨a0.b, x41.2⟩ : Rd), g0, g1) H_ef9 h44 fun ch => ?_
   obtain ⟨h48, h81⟩ := gd h81
   refine go ?_;intros
   refine d37 (f := ePt) (xs := ([] ++ x6)) (ys := ([x43.1] : (List Pt))) rfl (eW7 rfl rfl (by first | rfl | simp)) rfl rfl (by first | rfl | simp) h48 fun b46 c47 => ?_
   obtain ⟨x49, h50, h81⟩ := bnd h81
   refine go ?_;intros
   refine oJ7 (f := ePt) rfl rfl rfl h50 (fun _ => rfl) ?_
   obtain ⟨h53, h81⟩ := gd h81
   refine go ?_;intros
   refine d37 (f := ePt) (xs := (([] ++ x6) ++ ([x43.1] : (List Pt)))) (ys := x49) rfl (in7 (fun _ => rfl) (fun _ => rfl)) rfl rfl (by first | rfl | simp) h53 fun b51 c52 => ?_
   refine go ?_;intros
   cases h81
   exact dd7 ⟨_, _, _, _, _, _, pin, aJ7⟩
  replace h81 := itf h81 c
  try rw [c]
  refine go ?_;intros
  refine as7 rfl (fun c => ?_) (fun c => ?_)
  ·replace h81 := itt h81 c
   try rw [c]
   obtain ⟨x54, h55, h81⟩ := bnd h81
   refine go ?_;intros
   refine oJ7 (f := ePt) rfl rfl rfl h55 (fun _ => rfl) ?_
   obtain ⟨h58, h81⟩ := gd h81
   refine go ?_;intros
   refine d37 (f := ePt) (xs := ([] ++ x6)) (ys := x54) rfl (in7 (fun _ => rfl) (fun _ => rfl)) rfl rfl (by first | rfl | simp) h58 fun b56 c57 => ?_
   refine go ?_;intros
   cases h81
   exact dd7 ⟨_, _, _, _, _, _, pin, aJ7⟩
  replace h81 := itf h81 c
  try rw [c]
  obtain ⟨x59, h60, h81⟩ := bnd h81
  refine go ?_;intros
  refine ao7 (c := rt7) ((⟨a0.b, x41.2⟩ : Rd), g0, g1) H_ef9 h60 fun ch => ?_
  obtain ⟨h64, h81⟩ := gd h81
  refine go ?_;intros
  refine d37 (f := ePt) (xs := ([] ++ x6)) (ys := ([x59.1] : (List Pt))) rfl (eW7 rfl rfl (by first | rfl | simp)) rfl rfl (by first | rfl | simp) h64 fun b62 c63 => ?_
  obtain ⟨x65, h66, h81⟩ := bnd h81
  refine go ?_;intros
  refine oJ7 (f := ePt) rfl rfl rfl h66 (fun _ => rfl) ?_
  obtain ⟨h69, h81⟩ := gd h81
  refine go ?_;intros
  refine d37 (f := ePt) (xs := (([] ++ x6) ++ ([x59.1] : (List Pt)))) (ys := x65) rfl (in7 (fun _ => rfl) (fun _ => rfl)) rfl rfl (by first | rfl | simp) h69 fun b67 c68 => ?_
  refine go ?_;intros
  cases h81
  exact dd7 ⟨_, _, _, _, _, _, pin, aJ7⟩
 rintro t o ⟨b70, b71, c72, b73, b75, c76, pq1, pq2⟩
 refine bz7 pq1 pq2 ?_
 obtain ⟨x79, h80, h⟩ := bnd h
 refine go ?_;intros
 refine an7 (c := qM7) ((⟨a1.kind, q40.1⟩ : aL7)) H_dq9 h80 fun ch => ?_
 refine go ?_;intros
 refine as7 rfl (fun c => ?_) (fun c => ?_)
 ·replace h := itt h c
  try rw [c]
  refine go ?_;intros
  cases h
  exact aY7
 replace h := itf h c
 try rw [c]
 refine go ?_;intros
 refine du7 ?_
 refine go ?_;intros
 refine kO7 ?_
 refine go ?_;intros
 cases h
 exact aY7
theorem P57 : OkC [cm7, sY7, x97, sZ7, qS7, AK7, qQ7, yl7, ym7, vK7, AL7, sU7] AM7 LR7 LS7 := by
 refine ok fun G H ⟨a0, a1, g0, g1⟩ r h => ?_
 have H_dz9 := H _ (.head _)
 have H_en9 := H _ (.tail _ (.head _))
 have H_ew9 := H _ (.tail _ (.tail _ (.head _)))
 have H_el9 := H _ (.tail _ (.tail _ (.tail _ (.head _))))
 have H_ex9 := H _ (.tail _ (.tail _ (.tail _ (.tail _ (.head _)))))
 have H_ev9 := H _ (.tail _ (.tail _ (.tail _ (.tail _ (.tail _ (.head _))))))
 have H_ek9 := H _ (.tail _ (.tail _ (.tail _ (.tail _ (.tail _ (.tail _ (.head _)))))))
 have H_eo9 := H _ (.tail _ (.tail _ (.tail _ (.tail _ (.tail _ (.tail _ (.tail _ (.head _))))))))
 have H_es9 := H _ (.tail _ (.tail _ (.tail _ (.tail _ (.tail _ (.tail _ (.tail _ (.tail _ (.head _)))))))))
 have H_ep9 := H _ (.tail _ (.tail _ (.tail _ (.tail _ (.tail _ (.tail _ (.tail _ (.tail _ (.tail _ (.head _))))))))))
 have H_fa9 := H _ (.tail _ (.tail _ (.tail _ (.tail _ (.tail _ (.tail _ (.tail _ (.tail _ (.tail _ (.tail _ (.head _)))))))))))
 have H_dt9 := H _ (.tail _ (.tail _ (.tail _ (.tail _ (.tail _ (.tail _ (.tail _ (.tail _ (.tail _ (.tail _ (.tail _ (.head _))))))))))))
 refine st1 fun bs t o => ?_
 dsimp only [rC7] at h
 obtain ⟨x1, h2, h⟩ := bnd h
 refine go ?_;intros
 refine ao7 (c := cm7) (a0, 3, g0, g1) H_dz9 h2 fun ch => ?_
 obtain ⟨q210, h287, h⟩ := bnd h
 refine go ?_;intros
 refine lA7 (fun t o => Pin t (ovr [(1, .ro (List.map (ak7 false) a1)), (5, .ro (List.map (ak7 false) q210.1))] t) ∧ e97 o (ovh [(0, ⟨(bs 0).1, (bs 0).2, 290, true, [[.rw g0 g1 (List.map eU8 a0.b), .v (.int .i64 q210.2)]]⟩)] o)) ?_ ?_
 ·refine fl7 (fun n t o => ∃ n214 v211 v212 v213 , cw7 a0 n214 v211 v212 v213 = some q210 ∧ n214 = n ∧ Pin t (ovr [(0, .ptr 0 (bs 0).1 290 0 0), (1, .ro (List.map (ak7 false) a1)), (5, .ro (List.map (ak7 false) v211)), (6, .v (.int .i64 v212))] t) ∧ e97 o (ovh [(0, ⟨(bs 0).1, (bs 0).2, 290, true, [[.rw g0 g1 (List.map eU8 a0.b), .v (.int .i64 v213)]]⟩)] o)) _ ⟨_, _, _, _, h287, rfl, pin, aJ7⟩ ?_
  rintro n t o ⟨n214, v211, v212, v213, h287, rfl, pq1, pq2⟩
  refine bz7 pq1 pq2 ?_
  cases n214 with
  | zero => rw [cw7] at h287; cases h287
  | succ n214 =>
   rw [cw7] at h287
   refine go ?_;intros
   refine as7 rfl (fun c => ?_) (fun c => ?_)
   ·replace h287 := itt h287 c
    try rw [c]
    obtain ⟨x215, h216, h287⟩ := bnd h287
    refine go ?_;intros
    refine ao7 (c := sY7) ((⟨a0.b, v213⟩ : Rd), g0, g1) H_en9 h216 fun ch => ?_
    obtain ⟨x217, h218, h287⟩ := bnd h287
    refine go ?_;intros
    refine an7 (c := x97) (v211, x215.1) H_ew9 h218 fun ch => ?_
    refine go ?_;intros
    refine as7 rfl (fun c => ?_) (fun c => ?_)
    ·replace h287 := itt h287 c
     try rw [c]
     refine go ?_;intros
     refine du7 ?_
     obtain ⟨x219, h220, h287⟩ := bnd h287
     refine go ?_;intros
     refine ao7 (c := sZ7) ((⟨a0.b, x215.2⟩ : Rd), x215.1, g0, g1) H_el9 h220 fun ch => ?_
     refine go ?_;intros
     refine kO7 ?_
     refine go ?_;intros
     refine du7 ?_
     obtain ⟨x225, h226, h287⟩ := bnd h287
     refine go ?_;intros
     refine an7 (c := qS7) (v211, x219.1) H_ex9 h226 fun ch => ?_
     refine go ?_;intros
     refine kO7 ?_
     refine go ?_;intros
     exact gy7 _ (Nat.lt_succ_self _) ⟨_, _, _, _, h287, rfl, pin, aJ7⟩
    replace h287 := itf h287 c
    try rw [c]
    obtain ⟨x229, h230, h287⟩ := bnd h287
    refine go ?_;intros
    refine ao7 (c := cm7) ((⟨a0.b, x215.2⟩ : Rd), 4, g0, g1) H_dz9 h230 fun ch => ?_
    refine go ?_;intros
    refine as7 rfl (fun c => ?_) (fun c => ?_)
    ·replace h287 := itt h287 c
     try rw [c]
     refine go ?_;intros
     refine du7 ?_
     obtain ⟨x231, h232, h287⟩ := bnd h287
     refine go ?_;intros
     refine an7 (c := AK7) (v211, x215.1) H_ev9 h232 fun ch => ?_
     refine go ?_;intros
     refine kO7 ?_
     refine go ?_;intros
     exact gy7 _ (Nat.lt_succ_self _) ⟨_, _, _, _, h287, rfl, pin, aJ7⟩
    replace h287 := itf h287 c
    try rw [c]
    obtain ⟨x235, h236, h287⟩ := bnd h287
    refine go ?_;intros
    refine ao7 (c := cm7) ((⟨a0.b, x229.2⟩ : Rd), 2, g0, g1) H_dz9 h236 fun ch => ?_
    refine go ?_;intros
    refine as7 rfl (fun c => ?_) (fun c => ?_)
    ·replace h287 := itt h287 c
     try rw [c]
     obtain ⟨x237, h238, h287⟩ := bnd h287
     refine go ?_;intros
     refine dp7 rfl rfl h238 rfl ?_
     obtain ⟨x239, h240, h287⟩ := bnd h287
     refine go ?_;intros
     refine an7 (c := qQ7) (x237) H_ek9 h240 fun ch => ?_
     obtain ⟨x246, h247, h287⟩ := bnd h287
     refine go ?_;intros
     refine ao7 (c := yl7) ((⟨a0.b, x235.2⟩ : Rd), g0, g1) H_eo9 h247 fun ch => ?_
     obtain ⟨x248, h249, h287⟩ := bnd h287
     refine go ?_;intros
     refine ao7 (c := ym7) ((⟨a0.b, x246.2⟩ : Rd), g0, g1) H_es9 h249 fun ch => ?_
     obtain ⟨x250, h251, h287⟩ := bnd h287
     refine go ?_;intros
     refine an7 (c := vK7) (x239.tags, x246.1, x248.1) H_ep9 h251 fun ch => ?_
     refine go ?_;intros
     refine du7 ?_
     refine go ?_;intros
     refine kO7 ?_
     refine go ?_;intros
     refine du7 ?_
     obtain ⟨x254, h255, h287⟩ := bnd h287
     refine go ?_;intros
     refine an7 (c := qS7) (v211, (⟨x239.id, x239.shape, x250⟩ : Feat)) H_ex9 h255 fun ch => ?_
     refine go ?_;intros
     refine kO7 ?_
     refine go ?_;intros
     exact gy7 _ (Nat.lt_succ_self _) ⟨_, _, _, _, h287, rfl, pin, aJ7⟩
    replace h287 := itf h287 c
    try rw [c]
    obtain ⟨q258, h288, h287⟩ := bnd h287
    refine go ?_;intros
    refine dA7 (fun t o => ∃ b269 c270 b272 c273 b276, Pin t (ovr [(0, .ptr 0 (bs 0).1 290 0 0), (1, .ro (List.map (ak7 false) a1)), (5, .ro (List.map (ak7 false) v211)), (6, .v (.int .i64 v212)), (10, .ptr 80 b276 100 0 0)] t) ∧ e97 o (ovh [(0, ⟨(bs 0).1, (bs 0).2, 290, true, [[.rw g0 g1 (List.map eU8 a0.b), .v (.int .i64 x235.2)]]⟩), (1001282, ent b269 c270 66 (List.map ePt q258.1)), (1001283, ent b272 c273 82 (List.map bg7 q258.2.1)), (80, ⟨b276, 1, 100, true, [[.v (.string q258.2.2.1), .v (.int .i64 q258.2.2.2), .al 1001282 b269 c270 0 q258.1.length 66, .al 1001283 b272 c273 0 q258.2.1.length 82]]⟩)] o)) ?_ ?_
    ·obtain ⟨x259, h260, h288⟩ := bnd h288
     refine go ?_;intros
     refine dp7 rfl rfl h260 rfl ?_
     obtain ⟨x261, h262, h288⟩ := bnd h288
     refine go ?_;intros
     refine an7 (c := qQ7) (x259) H_ek9 h262 fun ch => ?_
     refine go ?_;intros
     cases h288
     exact dd7 ⟨_, _, _, _, _, pin, aJ7⟩
    rintro t o ⟨b269, c270, b272, c273, b276, pq1, pq2⟩
    refine bz7 pq1 pq2 ?_
    refine go ?_;intros
    refine du7 ?_
    refine go ?_;intros
    refine kO7 ?_
    obtain ⟨x277, h278, h287⟩ := bnd h287
    refine go ?_;intros
    refine ao7 (c := AL7) ((⟨a0.b, x235.2⟩ : Rd), (⟨q258.2.2.2, q258.1⟩ : aL7), g0, g1) H_fa9 h278 fun ch => ?_
    refine go ?_;intros
    refine du7 ?_
    refine go ?_;intros
    refine kO7 ?_
    refine go ?_;intros
    refine du7 ?_
    obtain ⟨x279, h280, h287⟩ := bnd h287
    refine go ?_;intros
    refine an7 (c := qS7) (v211, (⟨q258.2.2.1, x277.1, q258.2.1⟩ : Feat)) H_ex9 h280 fun ch => ?_
    refine go ?_;intros
    refine kO7 ?_
    refine go ?_;intros
    exact gy7 _ (Nat.lt_succ_self _) ⟨_, _, _, _, h287, rfl, pin, aJ7⟩
   replace h287 := itf h287 c
   try rw [c]
   refine go ?_;intros
   cases h287
   exact dd7 ⟨pin, aJ7⟩
 rintro t o ⟨pq1, pq2⟩
 refine hQ7 pq1 pq2 ?_
 obtain ⟨x285, h286, h⟩ := bnd h
 refine go ?_;intros
 refine an7 (c := sU7) (q210.1) H_dt9 h286 fun ch => ?_
 refine go ?_;intros
 refine as7 rfl (fun c => ?_) (fun c => ?_)
 ·replace h := itt h c
  try rw [c]
  refine go ?_;intros
  cases h
  exact aY7
 replace h := itf h c
 try rw [c]
 refine go ?_;intros
 cases h
 exact aY7
end Go.Proofs.AM
