/- Lemmas of the proof (UIF2), on an abstract machine. Conditions: none. -/
import Derived.Test.YtnnfdbdheoajgaaGreatUID
set_option linter.unusedVariables false
set_option linter.unusedSimpArgs false
set_option maxRecDepth 100000
set_option maxHeartbeats 4000000
namespace Go.Proofs.AM
attribute [local irreducible] vwp cY7 bI7 f97 vdo jn7 mS7 j07 fi7 mG7 kM7 bL7 e87 kt7 dY7 jO7 k37 k27
theorem Os7 : OkC [] Et7 Iy7 Iz7 := by
 refine ok fun G H ⟨a0, a1⟩ r h => ?_
 refine st1 fun bs t o => ?_
 dsimp only [nR7] at h
 try (refine gx ?_; intros; rename_i h)
 obtain ⟨hf, h⟩ := gd h
 obtain ⟨q8, hq, h⟩ := bnd h
 refine ae7 [] [] (fun K J t o => ∃ q8_, q8 = .inr q8_ ∧ PP K J t o) ?_ ?_
 ·have ho1 := h
  refine aQ7 (xs := a0) [0, 1] [] 0 hf (fun K J l12 k10 t o => fx7 a1 l12 k10  = some q8 ∧ PP ((5, .v (.int .i64 (k10 : Int))) :: K) J t o) ?_ ?_ ?_
  ·exact ⟨hq, pin, aJ7⟩
  ·rintro k10 t o hlt ⟨h, pq⟩
   refine pn pq ?_
   rw [fx7] at h
   exact cls
  rintro x11 l12 k10 t o hlt hx16 hw hd ⟨h, pq⟩
  refine pn pq ?_
  rw [fx7] at h
  exact cls
 rintro t o ⟨q8, rfl, pq⟩
 refine pnq pq ?_
 exact cls
theorem Ot7 : OkC [Af7] Eu7 IA7 IB7 := by
 refine ok fun G H ⟨a0, a1, a2⟩ r h => ?_
 refine st1 fun bs t o => ?_
 dsimp only [nS7] at h
 exact cls
theorem Ou7 : OkC [Es7, Et7, Eu7] Ev7 IC7 ID7 := by
 refine ok fun G H ⟨a0, a1, a2⟩ r h => ?_
 refine st1 fun bs t o => ?_
 dsimp only [qW7] at h
 refine gx fun x1 h2 x5 h6 => ?_; intros; rename_i h
 obtain ⟨q266, hq, h⟩ := bnd h
 refine ae7 [] [] (fun K J t o => ∃ q266_ b359 c360, q266 = .inr q266_ ∧ PP ((10, .ref 200 b359 c360 0 q266_.length 66) :: K) ((200, ent b359 c360 66 (List.map ePt q266_)) :: J) t o) ?_ ?_
 ·have ho1 := h
  refine dB7 [0, 1, 2, 8, 9] [168, 192] (fun K J n274 t o => ∃ v267 v268 v269 v270 v271 b272 c273, ei7 a0 x1 x5 a1 a2 n274 v267 v268 v269 v270 v271 = some q266 ∧ PP ((10, .ref 200 b272 c273 0 v271.length 66) :: (11, .v (.int .i64 v267)) :: (12, .v (.int .i64 v268)) :: (13, .v (.int .i64 v269)) :: (14, .v (.int .i64 v270)) :: K) ((200, ent b272 c273 66 (List.map ePt v271)) :: J) t o) ?_ ?_
  ·exact ⟨_, _, _, _, _, _, _, hq, pin, aJ7⟩
  rintro n274 t o ⟨v267, v268, v269, v270, v271, b272, c273, h, pq⟩
  refine pn pq ?_
  cases n274 with
  | zero => rw [ei7] at h; cases h
  | succ n274 =>
   rw [ei7] at h
   try (refine gx ?_; intros; rename_i h)
   obtain ⟨q313, hq, h⟩ := bnd h
   refine a97 [0, 1, 2, 8, 9, 14] [168, 192] (fun K J t o => ∃ q313_ b356 c357, q313 = .inr q313_ ∧ PP ((10, .ref 200 b356 c357 0 q313_.2.2.2.length 66) :: (11, .v (.int .i64 q313_.1)) :: (12, .v (.int .i64 q313_.2.1)) :: (13, .v (.int .i64 q313_.2.2.1)) :: K) ((200, ent b356 c357 66 (List.map ePt q313_.2.2.2)) :: J) t o) ?_ ?_
   ·have ho2 := h
    have h := hq
    exact cls
   rintro t o ⟨q313, b356, c357, rfl, pq⟩
   refine pn pq ?_
   exact cls
 rintro t o ⟨q266, b359, c360, rfl, pq⟩
 refine pnq pq ?_
 exact cls
theorem Ov7 : OkC [] vK7 IE7 IF7 := by
 refine ok fun G H ⟨a0, a1, a2⟩ r h => ?_
 refine st1 fun bs t o => ?_
 dsimp only [iw7] at h
 try (refine gx ?_; intros; rename_i h)
 obtain ⟨hf, h⟩ := gd h
 obtain ⟨q78, hq, h⟩ := bnd h
 refine ae7 [1, 2] [] (fun K J t o => ∃ b112 c113, PP ((7, .ref 80 b112 c113 0 q78.2.length 82) :: (8, .v (.bool q78.1)) :: K) ((80, ent b112 c113 82 (List.map bg7 q78.2)) :: J) t o) ?_ ?_
 ·refine aQ7 (xs := a0) [0, 1, 2] [] 0 hf (fun K J l86 k84 t o => ∃ v79 v81 b82 c83, cv7 a1 a2 l86 k84 v79 v81 = some q78 ∧ PP ((7, .ref 80 b82 c83 0 v81.length 82) :: (8, .v (.bool v79)) :: (9, .v (.int .i64 (k84 : Int))) :: K) ((80, ent b82 c83 82 (List.map bg7 v81)) :: J) t o) ?_ ?_ ?_
  ·exact ⟨_, _, _, _, hq, pin, aJ7⟩
  ·rintro k84 t o hlt ⟨v79, v81, b82, c83, h, pq⟩
   refine pn pq ?_
   rw [cv7] at h
   exact cls
  rintro x85 l86 k84 t o hlt hx90 hw hd ⟨v79, v81, b82, c83, h, pq⟩
  refine pn pq ?_
  rw [cv7] at h
  try (refine gx ?_; intros; rename_i h)
  obtain ⟨q97, hq, h⟩ := bnd h
  refine a97 [0, 1, 2, 9] [] (fun K J t o => ∃ b104 c105, PP ((7, .ref 80 b104 c105 0 q97.2.length 82) :: (8, .v (.bool q97.1)) :: K) ((80, ent b104 c105 82 (List.map bg7 q97.2)) :: J) t o) ?_ ?_
  ·have h := hq
   exact cls
  rintro t o ⟨b104, c105, pq⟩
  refine pn pq ?_
  exact cls
 rintro t o ⟨b112, c113, pq⟩
 refine pnq pq ?_
 exact cls
theorem Ow7 : OkC [] Ew7 IG7 IH7 := by
 refine ok fun G H ⟨a0, a1⟩ r h => ?_
 refine st1 fun bs t o => ?_
 dsimp only [lQ7] at h
 try (refine gx ?_; intros; rename_i h)
 obtain ⟨hf, h⟩ := gd h
 obtain ⟨q8, hq, h⟩ := bnd h
 refine ae7 [] [] (fun K J t o => ∃ q8_, q8 = .inr q8_ ∧ PP K J t o) ?_ ?_
 ·have ho1 := h
  refine aQ7 (xs := a0) [0, 1] [] 0 hf (fun K J l12 k10 t o => fy7 a1 l12 k10  = some q8 ∧ PP ((6, .v (.int .i64 (k10 : Int))) :: K) J t o) ?_ ?_ ?_
  ·exact ⟨hq, pin, aJ7⟩
  ·rintro k10 t o hlt ⟨h, pq⟩
   refine pn pq ?_
   rw [fy7] at h
   exact cls
  rintro x11 l12 k10 t o hlt hx16 hw hd ⟨h, pq⟩
  refine pn pq ?_
  rw [fy7] at h
  exact cls
 rintro t o ⟨q8, rfl, pq⟩
 refine pnq pq ?_
 exact cls
theorem Ox7 : OkC [Ag7, Ev7, qM7] Ex7 II7 IJ7 := by
 refine ok fun G H ⟨a0, a1, a2⟩ r h => ?_
 refine st1 fun bs t o => ?_
 dsimp only [qX7] at h
 refine gx fun x5 h6 => ?_; intros; rename_i h
 obtain ⟨q7, hq, h⟩ := bnd h
 refine a97 [3, 4, 5, 6] [24, 32, 40, 1000769, 48] (fun K J t o => PP ((16, .v (.bool q7)) :: K) J t o) ?_ ?_
 ·have h := hq
  exact cls
 rintro t o pq
 refine pn pq ?_
 exact cls
theorem Oy7 : OkC [vK7] Ey7 IK7 IL7 := by
 refine ok fun G H ⟨a0, a1, a2⟩ r h => ?_
 refine st1 fun bs t o => ?_
 dsimp only [qY7] at h
 refine gx fun h4 h7 h10 => ?_; intros; rename_i h
 obtain ⟨hf, h⟩ := gd h
 obtain ⟨q34, hq, h⟩ := bnd h
 refine ae7 [] [] (fun K J t o => ∃ b53 c54, PP ((8, .ref 2000008 b53 c54 0 q34.length 82) :: K) ((2000008, ent b53 c54 82 (List.map bg7 q34)) :: J) t o) ?_ ?_
 ·refine aQ7 (xs := ((([] ++ a0) ++ a1) ++ a2)) [7] [96] 0 hf (fun K J l41 k39 t o => ∃ v36 b37 c38, fz7 l41 k39 v36 = some q34 ∧ PP ((8, .ref 2000008 b37 c38 0 v36.length 82) :: (9, .v (.int .i64 (k39 : Int))) :: K) ((2000008, ent b37 c38 82 (List.map bg7 v36)) :: J) t o) ?_ ?_ ?_
  ·exact ⟨_, _, _, hq, pin, aJ7⟩
  ·rintro k39 t o hlt ⟨v36, b37, c38, h, pq⟩
   refine pn pq ?_
   rw [fz7] at h
   exact cls
  rintro x40 l41 k39 t o hlt hx45 hw hd ⟨v36, b37, c38, h, pq⟩
  refine pn pq ?_
  rw [fz7] at h
  exact cls
 rintro t o ⟨b53, c54, pq⟩
 refine pnq pq ?_
 try (refine gx ?_; intros; rename_i h)
 obtain ⟨hf, h⟩ := gd h
 obtain ⟨q78, hq, h⟩ := bnd h
 refine ae7 [] [] (fun K J t o => ∃ b97 c98, PP ((10, .ref 264 b97 c98 0 q78.length 49) :: K) ((264, ent b97 c98 49 (List.map cK7 q78)) :: J) t o) ?_ ?_
 ·refine aQ7 (xs := q34) [8] [2000008] 0 hf (fun K J l85 k83 t o => ∃ v80 b81 c82, ej7 l85 k83 v80 = some q78 ∧ PP ((10, .ref 264 b81 c82 0 v80.length 49) :: (11, .v (.int .i64 (k83 : Int))) :: K) ((264, ent b81 c82 49 (List.map cK7 v80)) :: J) t o) ?_ ?_ ?_
  ·exact ⟨_, _, _, hq, pin, aJ7⟩
  ·rintro k83 t o hlt ⟨v80, b81, c82, h, pq⟩
   refine pn pq ?_
   rw [ej7] at h
   exact cls
  rintro x84 l85 k83 t o hlt hx89 hw hd ⟨v80, b81, c82, h, pq⟩
  refine pn pq ?_
  rw [ej7] at h
  exact cls
 rintro t o ⟨b97, c98, pq⟩
 refine pnq pq ?_
 exact cls
theorem Oz7 : OkC [Ew7] Ez7 IM7 IN7 := by
 refine ok fun G H ⟨a0, a1, a2, a3⟩ r h => ?_
 refine st1 fun bs t o => ?_
 dsimp only [qZ7] at h
 refine gx fun x1 h2 x3 h4 x5 h6 => ?_; intros; rename_i h
 obtain ⟨q7, hq, h⟩ := bnd h
 refine a97 [15] [] (fun K J t o => ∃ q7_, q7 = .inr q7_ ∧ PP K J t o) ?_ ?_
 ·have ho1 := h
  have h := hq
  exact cls
 rintro t o ⟨q7, rfl, pq⟩
 refine pn pq ?_
 exact cls
theorem OA7 : OkC [x97, qQ7] vL7 IO7 IP7 := by
 refine ok fun G H ⟨a0, a1⟩ r h => ?_
 refine st1 fun bs t o => ?_
 dsimp only [lR7] at h
 exact cls
theorem OB7 : OkC [Ex7, Ah7, Ey7, Ez7, Ae7, qQ7] Am7 IQ7 IR7 := by
 refine ok fun G H ⟨a0, a1, a2⟩ r h => ?_
 refine st1 fun bs t o => ?_
 dsimp only [q07] at h
 try (refine gx ?_; intros; rename_i h)
 obtain ⟨q6, hq, h⟩ := bnd h
 refine a97 [3, 4, 5, 6, 8] [24, 32, 40, 1000770, 1000771, 48, 136] (fun K J t o => ∃ b13, PP ((9, .ptr 72 b13 226 0 0) :: (10, .v (.bool q6.1)) :: K) ((72, ⟨b13, 1, 226, true, [[.v (.int .i64 q6.2.1), .sl false 2 (List.map ePt q6.2.2)]]⟩) :: J) t o) ?_ ?_
 ·have h := hq
  exact cls
 rintro t o ⟨b13, pq⟩
 refine pn pq ?_
 try (refine gx ?_; intros; rename_i h)
 obtain ⟨q18, hq, h⟩ := bnd h
 refine a97 [3, 4, 5, 6, 9] [24, 32, 40, 1000770, 1000771, 48, 72] (fun K J t o => ∃ b24 c25, PP ((8, .ref 136 b24 c25 0 q18.length 49) :: K) ((136, ent b24 c25 49 (List.map cK7 q18)) :: J) t o) ?_ ?_
 ·have h := hq
  exact cls
 rintro t o ⟨b24, c25, pq⟩
 refine pn pq ?_
 refine gx fun x26 h27 x31 h32 => ?_; intros; rename_i h
 obtain ⟨hf, h⟩ := gd h
 obtain ⟨q97, hq, h⟩ := bnd h
 refine ae7 [4, 6] [32, 1000770, 1000771, 48] (fun K J t o => ∃ b132 c133 b28 c29 b135 c136 b137, PP ((8, .ref 136 b132 c133 0 q97.1.length 49) :: (11, .ptr 88 b137 100 0 0) :: K) ((136, ent b132 c133 49 (List.map cK7 q97.1)) :: (1001410, ent b28 c29 66 (List.map ePt x26.pts)) :: (1001411, ent b135 c136 82 (List.map bg7 q97.2)) :: (88, ⟨b137, 1, 100, true, [[.v (.string a1.id), .v (.int .i64 x26.kind), .al 1001410 b28 c29 0 x26.pts.length 66, .al 1001411 b135 c136 0 q97.2.length 82]]⟩) :: J) t o) ?_ ?_
 ·refine aQ7 (xs := x31) [3, 4, 5, 6, 12] [24, 32, 40, 1000770, 1000771, 48, 352] 0 hf (fun K J l108 k106 t o => ∃ v99 v102 b100 c101 b28 c29 b103 c104 b105, cR7 a0 a1 a2 l108 k106 v99 v102 = some q97 ∧ PP ((8, .ref 136 b100 c101 0 v99.length 49) :: (11, .ptr 88 b105 100 0 0) :: (13, .v (.int .i64 (k106 : Int))) :: K) ((136, ent b100 c101 49 (List.map cK7 v99)) :: (1001410, ent b28 c29 66 (List.map ePt x26.pts)) :: (1001411, ent b103 c104 82 (List.map bg7 v102)) :: (88, ⟨b105, 1, 100, true, [[.v (.string a1.id), .v (.int .i64 x26.kind), .al 1001410 b28 c29 0 x26.pts.length 66, .al 1001411 b103 c104 0 v102.length 82]]⟩) :: J) t o) ?_ ?_ ?_
  ·exact ⟨_, _, _, _, _, _, _, _, _, hq, pin, aJ7⟩
  ·rintro k106 t o hlt ⟨v99, v102, b100, c101, b28, c29, b103, c104, b105, h, pq⟩
   refine pn pq ?_
   rw [cR7] at h
   exact cls
  rintro x107 l108 k106 t o hlt hx112 hw hd ⟨v99, v102, b100, c101, b28, c29, b103, c104, b105, h, pq⟩
  refine pn pq ?_
  rw [cR7] at h
  exact cls
 rintro t o ⟨b132, c133, b28, c29, b135, c136, b137, pq⟩
 refine pnq pq ?_
 exact cls
theorem OC7 : OkC [qS7, Eo7] EA7 IS7 IT7 := by
 refine ok fun G H ⟨a0, a1, a2⟩ r h => ?_
 refine st1 fun bs t o => ?_
 dsimp only [q17] at h
 try (refine gx ?_; intros; rename_i h)
 obtain ⟨hf, h⟩ := gd h
 obtain ⟨q21, hq, h⟩ := bnd h
 refine ae7 [2] [] (fun K J t o => PP ((7, .ro (List.map (ak7 false) q21)) :: K) J t o) ?_ ?_
 ·refine aQ7 (xs := a1) [1, 2] [] 0 hf (fun K J l26 k24 t o => ∃ v22, fA7 l26 k24 v22 = some q21 ∧ PP ((7, .ro (List.map (ak7 false) v22)) :: (8, .v (.int .i64 (k24 : Int))) :: K) J t o) ?_ ?_ ?_
  ·exact ⟨_, hq, pin, aJ7⟩
  ·rintro k24 t o hlt ⟨v22, h, pq⟩
   refine pn pq ?_
   rw [fA7] at h
   exact cls
  rintro x25 l26 k24 t o hlt hx30 hw hd ⟨v22, h, pq⟩
  refine pn pq ?_
  rw [fA7] at h
  exact cls
 rintro t o pq
 refine pnq pq ?_
 exact cls
theorem OD7 : OkC [vL7, lM7, Am7] EB7 IU7 IV7 := by
 refine ok fun G H ⟨a0, a1, a2, a3⟩ r h => ?_
 have H_fd9 := H _ (.head _)
 have H_dg9 := H _ (.tail _ (.head _))
 have H_fj9 := H _ (.tail _ (.tail _ (.head _)))
 refine st1 fun bs t o => ?_
 dsimp only [q27] at h
 obtain ⟨x2, h3, h⟩ := bnd h
 refine go ?_;intros
 refine an7 (c := vL7) (a0, a3) H_fd9 h3 fun ch => ?_
 obtain ⟨q9, h211, h⟩ := bnd h
 refine go ?_;intros
 refine dA7 (fun t o => ∃ b18 c19 b20 c21 b22 b23 c24 b25 c26 b27 b29 c30 b32 c33 b36, Pin t (ovr [(2, .ro (List.map (ak7 false) a2)), (3, .v (.string a3)), (8, .ptr 64 b22 100 0 0), (11, .ptr 88 b27 100 0 0), (12, .v (.bool x2.2)), (13, .ptr 104 b36 100 0 0), (14, .v (.bool q9.1))] t) ∧ e97 o (ovh [(1001026, ent b18 c19 66 (List.map ePt [])), (1001027, ent b20 c21 82 (List.map bg7 [])), (64, ⟨b22, 1, 100, true, [[.v (.string (⟨#[]⟩ : Str)), .v (.int .i64 0), .al 1001026 b18 c19 0 ([] : List Pt).length 66, .al 1001027 b20 c21 0 ([] : List Tag).length 82]]⟩), (1001410, ent b23 c24 66 (List.map ePt x2.1.shape.pts)), (1001411, ent b25 c26 82 (List.map bg7 x2.1.tags)), (88, ⟨b27, 1, 100, true, [[.v (.string x2.1.id), .v (.int .i64 x2.1.shape.kind), .al 1001410 b23 c24 0 x2.1.shape.pts.length 66, .al 1001411 b25 c26 0 x2.1.tags.length 82]]⟩), (1001666, ent b29 c30 66 (List.map ePt q9.2.1)), (1001667, ent b32 c33 82 (List.map bg7 q9.2.2.1)), (104, ⟨b36, 1, 100, true, [[.v (.string q9.2.2.2.1), .v (.int .i64 q9.2.2.2.2), .al 1001666 b29 c30 0 q9.2.1.length 66, .al 1001667 b32 c33 0 q9.2.2.1.length 82]]⟩)] o)) ?_ ?_
 ·obtain ⟨x10, h11, h211⟩ := bnd h211
  refine go ?_;intros
  refine an7 (c := vL7) (a1, a3) H_fd9 h11 fun ch => ?_
  refine go ?_;intros
  cases h211
  exact dd7 ⟨_, _, _, _, _, _, _, _, _, _, _, _, _, _, _, pin, aJ7⟩
 rintro t o ⟨b18, c19, b20, c21, b22, b23, c24, b25, c26, b27, b29, c30, b32, c33, b36, pq1, pq2⟩
 refine bz7 pq1 pq2 ?_
 obtain ⟨x37, h38, h⟩ := bnd h
 refine go ?_;intros
 refine an7 (c := vL7) (a2, a3) H_fd9 h38 fun ch => ?_
 obtain ⟨q113, h212, h⟩ := bnd h
 refine go ?_;intros
 refine dA7 (fun t o => ∃ q113_, q113 = .inr q113_ ∧ ∃ b182 c183 b184 c185 b186 b187 c188 b189 c190 b191 b192 c193 b194 c195 b196 b197 c198 b199 c200 b201, Pin t (ovr [(8, .ptr 64 b186 100 0 0), (11, .ptr 88 b191 100 0 0), (13, .ptr 104 b196 100 0 0), (15, .ptr 120 b201 100 0 0)] t) ∧ e97 o (ovh [(1001026, ent b182 c183 66 (List.map ePt [])), (1001027, ent b184 c185 82 (List.map bg7 [])), (64, ⟨b186, 1, 100, true, [[.v (.string (⟨#[]⟩ : Str)), .v (.int .i64 0), .al 1001026 b182 c183 0 ([] : List Pt).length 66, .al 1001027 b184 c185 0 ([] : List Tag).length 82]]⟩), (1001410, ent b187 c188 66 (List.map ePt x2.1.shape.pts)), (1001411, ent b189 c190 82 (List.map bg7 x2.1.tags)), (88, ⟨b191, 1, 100, true, [[.v (.string x2.1.id), .v (.int .i64 x2.1.shape.kind), .al 1001410 b187 c188 0 x2.1.shape.pts.length 66, .al 1001411 b189 c190 0 x2.1.tags.length 82]]⟩), (1001666, ent b192 c193 66 (List.map ePt q9.2.1)), (1001667, ent b194 c195 82 (List.map bg7 q9.2.2.1)), (104, ⟨b196, 1, 100, true, [[.v (.string q9.2.2.2.1), .v (.int .i64 q9.2.2.2.2), .al 1001666 b192 c193 0 q9.2.1.length 66, .al 1001667 b194 c195 0 q9.2.2.1.length 82]]⟩), (1001922, ent b197 c198 66 (List.map ePt x37.1.shape.pts)), (1001923, ent b199 c200 82 (List.map bg7 x37.1.tags)), (120, ⟨b201, 1, 100, true, [[.v (.string x37.1.id), .v (.int .i64 x37.1.shape.kind), .al 1001922 b197 c198 0 x37.1.shape.pts.length 66, .al 1001923 b199 c200 0 x37.1.tags.length 82]]⟩)] o)) ?_ ?_
 ·refine go ?_;intros
  refine aw7 rfl (fun c => ?_) (fun c => ?_)
  ·replace h212 := itt h212 c
   rw [c]
   obtain ⟨x114, h115, h212⟩ := bnd h212
   refine go ?_;intros
   refine an7 (c := lM7) ((⟨q9.2.2.2.1, ⟨q9.2.2.2.2, q9.2.1⟩, q9.2.2.1⟩ : Feat), x2.1) H_dg9 h115 fun ch => ?_
   refine go ?_;intros
   refine as7 rfl (fun c => ?_) (fun c => ?_)
   ·replace h212 := itt h212 c
    try rw [c]
    refine go ?_;intros
    cases h212
    replace h : some _ = some _ := h
    cases h
    exact aX7
   replace h212 := itf h212 c
   try rw [c]
   obtain ⟨q116, h213, h212⟩ := bnd h212
   refine go ?_;intros
   refine dA7 (fun t o => ∃ b124 c125 b126 c127 b128 b129 c130 b131 c132 b133 b134 c135 b136 c137 b138 b139 c140 b141 c142 b143 b144 c145, Pin t (ovr [(8, .ptr 64 b128 100 0 0), (11, .ptr 88 b133 100 0 0), (12, .v (.bool x2.2)), (13, .ptr 104 b138 100 0 0), (14, .v (.bool q9.1)), (15, .ptr 120 b143 100 0 0), (16, .v (.bool x37.2)), (17, .ref 304 b144 c145 0 0 49), (51, .v (.bool q116))] t) ∧ e97 o (ovh [(1001026, ent b124 c125 66 (List.map ePt [])), (1001027, ent b126 c127 82 (List.map bg7 [])), (64, ⟨b128, 1, 100, true, [[.v (.string (⟨#[]⟩ : Str)), .v (.int .i64 0), .al 1001026 b124 c125 0 ([] : List Pt).length 66, .al 1001027 b126 c127 0 ([] : List Tag).length 82]]⟩), (1001410, ent b129 c130 66 (List.map ePt x2.1.shape.pts)), (1001411, ent b131 c132 82 (List.map bg7 x2.1.tags)), (88, ⟨b133, 1, 100, true, [[.v (.string x2.1.id), .v (.int .i64 x2.1.shape.kind), .al 1001410 b129 c130 0 x2.1.shape.pts.length 66, .al 1001411 b131 c132 0 x2.1.tags.length 82]]⟩), (1001666, ent b134 c135 66 (List.map ePt q9.2.1)), (1001667, ent b136 c137 82 (List.map bg7 q9.2.2.1)), (104, ⟨b138, 1, 100, true, [[.v (.string q9.2.2.2.1), .v (.int .i64 q9.2.2.2.2), .al 1001666 b134 c135 0 q9.2.1.length 66, .al 1001667 b136 c137 0 q9.2.2.1.length 82]]⟩), (1001922, ent b139 c140 66 (List.map ePt x37.1.shape.pts)), (1001923, ent b141 c142 82 (List.map bg7 x37.1.tags)), (120, ⟨b143, 1, 100, true, [[.v (.string x37.1.id), .v (.int .i64 x37.1.shape.kind), .al 1001922 b139 c140 0 x37.1.shape.pts.length 66, .al 1001923 b141 c142 0 x37.1.tags.length 82]]⟩), (304, ent b144 c145 49 (List.map cK7 []))] o)) ?_ ?_
   ·refine go ?_;intros
    refine aw7 rfl (fun c => ?_) (fun c => ?_)
    ·replace h213 := itt h213 c
     rw [c]
     obtain ⟨x117, h118, h213⟩ := bnd h213
     refine go ?_;intros
     refine an7 (c := lM7) (x37.1, x2.1) H_dg9 h118 fun ch => ?_
     refine go ?_;intros
     refine aw7 rfl (fun c => ?_) (fun c => ?_)
     ·replace h213 := itt h213 c
      rw [c]
      refine go ?_;intros
      cases h213
      exact dd7 ⟨_, _, _, _, _, _, _, _, _, _, _, _, _, _, _, _, _, _, _, _, _, _, pin, aJ7⟩
     replace h213 := itf h213 c
     rw [c]
     refine go ?_;intros
     refine aw7 rfl (fun c => ?_) (fun c => ?_)
     ·replace h213 := itt h213 c
      rw [c]
      obtain ⟨x119, h120, h213⟩ := bnd h213
      refine go ?_;intros
      refine an7 (c := lM7) ((⟨q9.2.2.2.1, ⟨q9.2.2.2.2, q9.2.1⟩, q9.2.2.1⟩ : Feat), x37.1) H_dg9 h120 fun ch => ?_
      refine go ?_;intros
      cases h213
      exact dd7 ⟨_, _, _, _, _, _, _, _, _, _, _, _, _, _, _, _, _, _, _, _, _, _, pin, aJ7⟩
     replace h213 := itf h213 c
     rw [c]
     refine go ?_;intros
     cases h213
     exact dd7 ⟨_, _, _, _, _, _, _, _, _, _, _, _, _, _, _, _, _, _, _, _, _, _, pin, aJ7⟩
    replace h213 := itf h213 c
    rw [c]
    refine go ?_;intros
    refine aw7 rfl (fun c => ?_) (fun c => ?_)
    ·replace h213 := itt h213 c
     rw [c]
     obtain ⟨x121, h122, h213⟩ := bnd h213
     refine go ?_;intros
     refine an7 (c := lM7) ((⟨q9.2.2.2.1, ⟨q9.2.2.2.2, q9.2.1⟩, q9.2.2.1⟩ : Feat), x37.1) H_dg9 h122 fun ch => ?_
     refine go ?_;intros
     cases h213
     exact dd7 ⟨_, _, _, _, _, _, _, _, _, _, _, _, _, _, _, _, _, _, _, _, _, _, pin, aJ7⟩
    replace h213 := itf h213 c
    rw [c]
    refine go ?_;intros
    cases h213
    exact dd7 ⟨_, _, _, _, _, _, _, _, _, _, _, _, _, _, _, _, _, _, _, _, _, _, pin, aJ7⟩
   rintro t o ⟨b124, c125, b126, c127, b128, b129, c130, b131, c132, b133, b134, c135, b136, c137, b138, b139, c140, b141, c142, b143, b144, c145, pq1, pq2⟩
   refine bz7 pq1 pq2 ?_
   refine go ?_;intros
   refine as7 rfl (fun c => ?_) (fun c => ?_)
   ·replace h212 := itt h212 c
    try rw [c]
    refine go ?_;intros
    cases h212
    replace h : some _ = some _ := h
    cases h
    exact aX7
   replace h212 := itf h212 c
   try rw [c]
   refine go ?_;intros
   refine as7 rfl (fun c => ?_) (fun c => ?_)
   ·replace h212 := itt h212 c
    try rw [c]
    refine go ?_;intros
    cases h212
    replace h : some _ = some _ := h
    cases h
    exact aX7
   replace h212 := itf h212 c
   try rw [c]
   refine go ?_;intros
   refine as7 rfl (fun c => ?_) (fun c => ?_)
   ·replace h212 := itt h212 c
    try rw [c]
    refine go ?_;intros
    cases h212
    replace h : some _ = some _ := h
    cases h
    exact aX7
   replace h212 := itf h212 c
   try rw [c]
   refine go ?_;intros
   refine as7 rfl (fun c => ?_) (fun c => ?_)
   ·replace h212 := itt h212 c
    try rw [c]
    refine go ?_;intros
    cases h212
    replace h : some _ = some _ := h
    cases h
    exact aX7
   replace h212 := itf h212 c
   try rw [c]
   refine go ?_;intros
   cases h212
   exact dd7 ⟨_, rfl, _, _, _, _, _, _, _, _, _, _, _, _, _, _, _, _, _, _, _, _, pin, aJ7⟩
  replace h212 := itf h212 c
  rw [c]
  obtain ⟨q149, h214, h212⟩ := bnd h212
  refine go ?_;intros
  refine dA7 (fun t o => ∃ b157 c158 b159 c160 b161 b162 c163 b164 c165 b166 b167 c168 b169 c170 b171 b172 c173 b174 c175 b176 b177 c178, Pin t (ovr [(8, .ptr 64 b161 100 0 0), (11, .ptr 88 b166 100 0 0), (12, .v (.bool x2.2)), (13, .ptr 104 b171 100 0 0), (14, .v (.bool q9.1)), (15, .ptr 120 b176 100 0 0), (16, .v (.bool x37.2)), (17, .ref 304 b177 c178 0 0 49), (51, .v (.bool q149))] t) ∧ e97 o (ovh [(1001026, ent b157 c158 66 (List.map ePt [])), (1001027, ent b159 c160 82 (List.map bg7 [])), (64, ⟨b161, 1, 100, true, [[.v (.string (⟨#[]⟩ : Str)), .v (.int .i64 0), .al 1001026 b157 c158 0 ([] : List Pt).length 66, .al 1001027 b159 c160 0 ([] : List Tag).length 82]]⟩), (1001410, ent b162 c163 66 (List.map ePt x2.1.shape.pts)), (1001411, ent b164 c165 82 (List.map bg7 x2.1.tags)), (88, ⟨b166, 1, 100, true, [[.v (.string x2.1.id), .v (.int .i64 x2.1.shape.kind), .al 1001410 b162 c163 0 x2.1.shape.pts.length 66, .al 1001411 b164 c165 0 x2.1.tags.length 82]]⟩), (1001666, ent b167 c168 66 (List.map ePt q9.2.1)), (1001667, ent b169 c170 82 (List.map bg7 q9.2.2.1)), (104, ⟨b171, 1, 100, true, [[.v (.string q9.2.2.2.1), .v (.int .i64 q9.2.2.2.2), .al 1001666 b167 c168 0 q9.2.1.length 66, .al 1001667 b169 c170 0 q9.2.2.1.length 82]]⟩), (1001922, ent b172 c173 66 (List.map ePt x37.1.shape.pts)), (1001923, ent b174 c175 82 (List.map bg7 x37.1.tags)), (120, ⟨b176, 1, 100, true, [[.v (.string x37.1.id), .v (.int .i64 x37.1.shape.kind), .al 1001922 b172 c173 0 x37.1.shape.pts.length 66, .al 1001923 b174 c175 0 x37.1.tags.length 82]]⟩), (304, ent b177 c178 49 (List.map cK7 []))] o)) ?_ ?_
  ·refine go ?_;intros
   refine aw7 rfl (fun c => ?_) (fun c => ?_)
   ·replace h214 := itt h214 c
    rw [c]
    obtain ⟨x150, h151, h214⟩ := bnd h214
    refine go ?_;intros
    refine an7 (c := lM7) (x37.1, x2.1) H_dg9 h151 fun ch => ?_
    refine go ?_;intros
    refine aw7 rfl (fun c => ?_) (fun c => ?_)
    ·replace h214 := itt h214 c
     rw [c]
     refine go ?_;intros
     cases h214
     exact dd7 ⟨_, _, _, _, _, _, _, _, _, _, _, _, _, _, _, _, _, _, _, _, _, _, pin, aJ7⟩
    replace h214 := itf h214 c
    rw [c]
    refine go ?_;intros
    refine aw7 rfl (fun c => ?_) (fun c => ?_)
    ·replace h214 := itt h214 c
     rw [c]
     obtain ⟨x152, h153, h214⟩ := bnd h214
     refine go ?_;intros
     refine an7 (c := lM7) ((⟨q9.2.2.2.1, ⟨q9.2.2.2.2, q9.2.1⟩, q9.2.2.1⟩ : Feat), x37.1) H_dg9 h153 fun ch => ?_
     refine go ?_;intros
     cases h214
     exact dd7 ⟨_, _, _, _, _, _, _, _, _, _, _, _, _, _, _, _, _, _, _, _, _, _, pin, aJ7⟩
    replace h214 := itf h214 c
    rw [c]
    refine go ?_;intros
    cases h214
    exact dd7 ⟨_, _, _, _, _, _, _, _, _, _, _, _, _, _, _, _, _, _, _, _, _, _, pin, aJ7⟩
   replace h214 := itf h214 c
   rw [c]
   refine go ?_;intros
   refine aw7 rfl (fun c => ?_) (fun c => ?_)
   ·replace h214 := itt h214 c
    rw [c]
    obtain ⟨x154, h155, h214⟩ := bnd h214
    refine go ?_;intros
    refine an7 (c := lM7) ((⟨q9.2.2.2.1, ⟨q9.2.2.2.2, q9.2.1⟩, q9.2.2.1⟩ : Feat), x37.1) H_dg9 h155 fun ch => ?_
    refine go ?_;intros
    cases h214
    exact dd7 ⟨_, _, _, _, _, _, _, _, _, _, _, _, _, _, _, _, _, _, _, _, _, _, pin, aJ7⟩
   replace h214 := itf h214 c
   rw [c]
   refine go ?_;intros
   cases h214
   exact dd7 ⟨_, _, _, _, _, _, _, _, _, _, _, _, _, _, _, _, _, _, _, _, _, _, pin, aJ7⟩
  rintro t o ⟨b157, c158, b159, c160, b161, b162, c163, b164, c165, b166, b167, c168, b169, c170, b171, b172, c173, b174, c175, b176, b177, c178, pq1, pq2⟩
  refine bz7 pq1 pq2 ?_
  refine go ?_;intros
  refine as7 rfl (fun c => ?_) (fun c => ?_)
  ·replace h212 := itt h212 c
   try rw [c]
   refine go ?_;intros
   cases h212
   replace h : some _ = some _ := h
   cases h
   exact aX7
  replace h212 := itf h212 c
  try rw [c]
  refine go ?_;intros
  refine as7 rfl (fun c => ?_) (fun c => ?_)
  ·replace h212 := itt h212 c
   try rw [c]
   refine go ?_;intros
   cases h212
   replace h : some _ = some _ := h
   cases h
   exact aX7
  replace h212 := itf h212 c
  try rw [c]
  refine go ?_;intros
  refine as7 rfl (fun c => ?_) (fun c => ?_)
  ·replace h212 := itt h212 c
   try rw [c]
   refine go ?_;intros
   cases h212
   replace h : some _ = some _ := h
   cases h
   exact aX7
  replace h212 := itf h212 c
  try rw [c]
  refine go ?_;intros
  refine as7 rfl (fun c => ?_) (fun c => ?_)
  ·replace h212 := itt h212 c
   try rw [c]
   refine go ?_;intros
   cases h212
   replace h : some _ = some _ := h
   cases h
   exact aX7
  replace h212 := itf h212 c
  try rw [c]
  refine go ?_;intros
  cases h212
  exact dd7 ⟨_, rfl, _, _, _, _, _, _, _, _, _, _, _, _, _, _, _, _, _, _, _, _, pin, aJ7⟩
 rintro t o ⟨q113, rfl, b182, c183, b184, c185, b186, b187, c188, b189, c190, b191, b192, c193, b194, c195, b196, b197, c198, b199, c200, b201, pq1, pq2⟩
 refine bz7 pq1 pq2 ?_
 obtain ⟨x202, h203, h⟩ := bnd h
 refine go ?_;intros
 refine an7 (c := Am7) (x2.1, (⟨q9.2.2.2.1, ⟨q9.2.2.2.2, q9.2.1⟩, q9.2.2.1⟩ : Feat), x37.1) H_fj9 h203 fun ch => ?_
 refine go ?_;intros
 cases h
 exact aX7
theorem OE7 : OkC [EA7, EB7, Ai7, sU7] EC7 IW7 IX7 := by
 refine ok fun G H ⟨a0, a1, a2⟩ r h => ?_
 refine st1 fun bs t o => ?_
 dsimp only [uh7] at h
 refine gx fun x3 h4 => ?_; intros; rename_i h
 obtain ⟨hf, h⟩ := gd h
 obtain ⟨q212, hq, h⟩ := bnd h
 refine ae7 [] [] (fun K J t o => ∃ b294 c295 b297 c298, PP ((9, .ref 136 b294 c295 0 q212.1.length 100) :: (10, .ref 144 b297 c298 0 q212.2.length 178) :: K) ((136, ent b294 c295 100 (List.map (ak7 true) q212.1)) :: (144, ent b297 c298 178 (List.map bc7 q212.2)) :: J) t o) ?_ ?_
 ·refine aQ7 (xs := x3) [0, 1, 2, 11] [176] 0 hf (fun K J l222 k220 t o => ∃ v214 v217 b215 c216 b218 c219, el7 a0 a1 a2 l222 k220 v214 v217 = some q212 ∧ PP ((9, .ref 136 b215 c216 0 v214.length 100) :: (10, .ref 144 b218 c219 0 v217.length 178) :: (12, .v (.int .i64 (k220 : Int))) :: K) ((136, ent b215 c216 100 (List.map (ak7 true) v214)) :: (144, ent b218 c219 178 (List.map bc7 v217)) :: J) t o) ?_ ?_ ?_
  ·exact ⟨_, _, _, _, _, _, hq, pin, aJ7⟩
  ·rintro k220 t o hlt ⟨v214, v217, b215, c216, b218, c219, h, pq⟩
   refine pn pq ?_
   rw [el7] at h
   exact cls
  rintro x221 l222 k220 t o hlt hx226 hw hd ⟨v214, v217, b215, c216, b218, c219, h, pq⟩
  refine pn pq ?_
  rw [el7] at h
  refine gx fun x229 h230 => ?_; intros; rename_i h
  obtain ⟨q242, hq, h⟩ := bnd h
  refine a97 [0, 1, 2, 10, 11, 12, 15] [144, 176, 301] (fun K J t o => ∃ b248 c249, PP ((9, .ref 136 b248 c249 0 q242.length 100) :: K) ((136, ent b248 c249 100 (List.map (ak7 true) q242)) :: J) t o) ?_ ?_
  ·have h := hq
   exact cls
  rintro t o ⟨b248, c249, pq⟩
  refine pn pq ?_
  try (refine gx ?_; intros; rename_i h)
  obtain ⟨hf, h⟩ := gd h
  obtain ⟨q272, hq, h⟩ := bnd h
  refine ae7 [0, 1, 2, 9, 11, 12] [136, 176] (fun K J t o => ∃ b291 c292, PP ((10, .ref 144 b291 c292 0 q272.length 178) :: K) ((144, ent b291 c292 178 (List.map bc7 q272)) :: J) t o) ?_ ?_
  ·refine aQ7 (xs := x229.2.2) [0, 1, 2, 9, 11, 12, 15] [136, 176, 301] 0 hf (fun K J l279 k277 t o => ∃ v274 b275 c276, ek7 x221 l279 k277 v274 = some q272 ∧ PP ((10, .ref 144 b275 c276 0 v274.length 178) :: (16, .v (.int .i64 (k277 : Int))) :: K) ((144, ent b275 c276 178 (List.map bc7 v274)) :: J) t o) ?_ ?_ ?_
   ·exact ⟨_, _, _, hq, pin, aJ7⟩
   ·rintro k277 t o hlt ⟨v274, b275, c276, h, pq⟩
    refine pn pq ?_
    rw [ek7] at h
    exact cls
   rintro x278 l279 k277 t o hlt hx283 hw hd ⟨v274, b275, c276, h, pq⟩
   refine pn pq ?_
   rw [ek7] at h
   exact cls
  rintro t o ⟨b291, c292, pq⟩
  refine pnq pq ?_
  exact cls
 rintro t o ⟨b294, c295, b297, c298, pq⟩
 refine pnq pq ?_
 exact cls
theorem OF7 : OkC [En7] ED7 IY7 IZ7 := by
 refine ok fun G H ⟨a0, a1, a2⟩ r h => ?_
 refine st1 fun bs t o => ?_
 dsimp only [q37] at h
 exact cls
theorem OG7 : OkC [sU7, EC7] EE7 I07 I17 := by
 refine ok fun G H ⟨a0, a1, a2⟩ r h => ?_
 refine st1 fun bs t o => ?_
 dsimp only [q57] at h
 exact cls
theorem OH7 : OkC [ED7, EE7] EF7 I27 I37 := by
 refine ok fun G H ⟨a0, a1, a2⟩ r h => ?_
 refine st1 fun bs t o => ?_
 dsimp only [nT7] at h
 exact cls
theorem OI7 : OkC [x07, Aj7] ya7 I47 I57 := by
 refine ok fun G H ⟨a0, a1, a2⟩ r h => ?_
 refine st1 fun bs t o => ?_
 dsimp only [ix7] at h
 refine gx fun x4 h5 => ?_; intros; rename_i h
 refine cnd h rfl rfl (fun h c => ?_) fun h c => ?_
 ·try rw [c]
  refine gx fun x6 h7 h15 x16 h17 => ?_; intros; rename_i h
  refine cI7 (f := az7) a0.heads (⟨x16.name, (a0.commits.length : Int)⟩ : Head) (aF7 h17).2 ?_
  exact cls
 try rw [c]
 refine gx fun x18 h19 => ?_; intros; rename_i h
 refine cI7 (f := az7) a0.heads (⟨x18.name, x4⟩ : Head) (aF7 h19).2 ?_
 exact cls
theorem OJ7 : OkC [Aj7] sV7 I67 I77 := by
 refine ok fun G H a0 r h => ?_
 refine st1 fun bs t o => ?_
 dsimp only [lS7] at h
 refine gx fun h6 => ?_; intros; rename_i h
 obtain ⟨hf, h⟩ := gd h
 obtain ⟨q49, hq, h⟩ := bnd h
 refine ae7 [2] [1000256, 1000257, 16] (fun K J t o => ∃ b75 c76 b4 c5 b77, PP ((3, .ptr 24 b77 210 0 0) :: K) ((1000384, ent b75 c76 115 (List.map (af7 true) q49)) :: (1000385, ent b4 c5 130 (List.map az7 ([] ++ a0.heads))) :: (24, ⟨b77, 1, 210, true, [[.al 1000384 b75 c76 0 q49.length 115, .al 1000385 b4 c5 0 ([] ++ a0.heads).length 130]]⟩) :: J) t o) ?_ ?_
 ·refine aQ7 (xs := a0.commits) [1, 2] [8, 1000256, 1000257, 16] 0 hf (fun K J l57 k55 t o => ∃ v51 b52 c53 b4 c5 b54, gZ7 l57 k55 v51 = some q49 ∧ PP ((3, .ptr 24 b54 210 0 0) :: (4, .v (.int .i64 (k55 : Int))) :: K) ((1000384, ent b52 c53 115 (List.map (af7 true) v51)) :: (1000385, ent b4 c5 130 (List.map az7 ([] ++ a0.heads))) :: (24, ⟨b54, 1, 210, true, [[.al 1000384 b52 c53 0 v51.length 115, .al 1000385 b4 c5 0 ([] ++ a0.heads).length 130]]⟩) :: J) t o) ?_ ?_ ?_
  ·exact ⟨_, _, _, _, _, _, hq, pin, aJ7⟩
  ·rintro k55 t o hlt ⟨v51, b52, c53, b4, c5, b54, h, pq⟩
   refine pn pq ?_
   rw [gZ7] at h
   exact cls
  rintro x56 l57 k55 t o hlt hx61 hw hd ⟨v51, b52, c53, b4, c5, b54, h, pq⟩
  refine pn pq ?_
  rw [gZ7] at h
  exact cls
 rintro t o ⟨b75, c76, b4, c5, b77, pq⟩
 refine pnq pq ?_
 exact cls
theorem OK7 : OkC [Ak7, Al7] yb7 I87 I97 := by
 refine ok fun G H ⟨a0, a1, a2⟩ r h => ?_
 refine st1 fun bs t o => ?_
 dsimp only [nU7] at h
 exact cls
theorem OL7 : OkC [EF7, x07, ya7] An7 Ja7 Jb7 := by
 refine ok fun G H ⟨a0, a1, a2, a3, a4⟩ r h => ?_
 refine st1 fun bs t o => ?_
 dsimp only [ui7] at h
 refine gx fun x3 h4 => ?_; intros; rename_i h
 obtain ⟨q9, hq, h⟩ := bnd h
 refine a97 [1, 5, 10, 14, 15] [1000640, 1000641, 40, 1001280, 1001281, 80, 169] (fun K J t o => ∃ b12 c13 b14 c15 b16, PP ((16, .ptr 128 b16 115 0 0) :: K) ((1002048, ent b12 c13 17 (List.map bo7 [a2, a3])) :: (1002049, ent b14 c15 100 (List.map (ak7 true) x3.1)) :: (128, ⟨b16, 1, 115, true, [[.al 1002048 b12 c13 0 [a2, a3].length 17, .al 1002049 b14 c15 0 x3.1.length 100, .v (.string a4)]]⟩) :: J) t o) ?_ ?_
 ·have h := hq
  exact cls
 rintro t o ⟨b12, c13, b14, c15, b16, pq⟩
 refine pn pq ?_
 exact cls
theorem OM7 : OkC [] sW7 Jc7 Jd7 := by
 refine ok fun G H ⟨a0, a1, a2⟩ r h => ?_
 refine st1 fun bs t o => ?_
 dsimp only [em7] at h
 exact cls
theorem ON7 : OkC [sW7] EG7 Je7 Jf7 := by
 refine ok fun G H a0 r h => ?_
 refine st1 fun bs t o => ?_
 dsimp only [q67] at h
 exact cls
theorem OO7 : OkC [sW7] yc7 Jg7 Jh7 := by
 refine ok fun G H a0 r h => ?_
 refine st1 fun bs t o => ?_
 dsimp only [hp7] at h
 try (refine gx ?_; intros; rename_i h)
 obtain ⟨hf, h⟩ := gd h
 obtain ⟨q8, hq, h⟩ := bnd h
 refine ae7 [0] [] (fun K J t o => ∃ q8_, q8 = .inr q8_ ∧ PP K J t o) ?_ ?_
 ·have ho1 := h
  refine DW7 (xs := a0) [0, 5] [] 0 hf (fun K J l12 k10 t o => fB7 l12 k10  = some q8 ∧ PP ((6, .v (.int .i64 (k10 : Int))) :: K) J t o) ?_ ?_ ?_
  ·exact ⟨hq, pin, aJ7⟩
  ·rintro k10 t o hlt ⟨h, pq⟩
   refine pn pq ?_
   rw [fB7] at h
   exact cls
  rintro x11 l12 k10 t o hlt hx16 hw hd ⟨h, pq⟩
  refine pn pq ?_
  rw [fB7] at h
  exact cls
 rintro t o ⟨q8, rfl, pq⟩
 refine pnq pq ?_
 exact cls
theorem OP7 : OkC [EG7, sW7] Ao7 Ji7 Jj7 := by
 refine ok fun G H a0 r h => ?_
 refine st1 fun bs t o => ?_
 dsimp only [lT7] at h
 try (refine gx ?_; intros; rename_i h)
 obtain ⟨hf, h⟩ := gd h
 obtain ⟨q22, hq, h⟩ := bnd h
 refine ae7 [1] [8] (fun K J t o => ∃ q22_, q22 = .inr q22_ ∧ PP K J t o) ?_ ?_
 ·have ho1 := h
  refine aQ7 (xs := a0.pts) [1, 7, 8] [8] 0 hf (fun K J l26 k24 t o => en7 a0 l26 k24  = some q22 ∧ PP ((9, .v (.int .i64 (k24 : Int))) :: K) J t o) ?_ ?_ ?_
  ·exact ⟨hq, pin, aJ7⟩
  ·rintro k24 t o hlt ⟨h, pq⟩
   refine pn pq ?_
   rw [en7] at h
   exact cls
  rintro x25 l26 k24 t o hlt hx30 hw hd ⟨h, pq⟩
  refine pn pq ?_
  rw [en7] at h
  exact cls
 rintro t o ⟨q22, rfl, pq⟩
 refine pnq pq ?_
 exact cls
theorem OQ7 : OkC [yc7, Ao7] Ap7 Jk7 Jl7 := by
 refine ok fun G H a0 r h => ?_
 refine st1 fun bs t o => ?_
 dsimp only [hq7] at h
 try (refine gx ?_; intros; rename_i h)
 obtain ⟨hf, h⟩ := gd h
 obtain ⟨q28, hq, h⟩ := bnd h
 refine ae7 [1] [8] (fun K J t o => ∃ q28_, q28 = .inr q28_ ∧ PP K J t o) ?_ ?_
 ·have ho1 := h
  refine aQ7 (xs := a0.tags) [1, 6, 7] [8] 0 hf (fun K J l32 k30 t o => eo7 a0 l32 k30  = some q28 ∧ PP ((8, .v (.int .i64 (k30 : Int))) :: K) J t o) ?_ ?_ ?_
  ·exact ⟨hq, pin, aJ7⟩
  ·rintro k30 t o hlt ⟨h, pq⟩
   refine pn pq ?_
   rw [eo7] at h
   exact cls
  rintro x31 l32 k30 t o hlt hx36 hw hd ⟨h, pq⟩
  refine pn pq ?_
  rw [eo7] at h
  exact cls
 rintro t o ⟨q28, rfl, pq⟩
 refine pnq pq ?_
 exact cls
theorem OR7 : OkC [] Aq7 Jm7 Jn7 := by
 refine ok fun G H ⟨a0, a1⟩ r h => ?_
 refine st1 fun bs t o => ?_
 dsimp only [e37] at h
 try (refine gx ?_; intros; rename_i h)
 obtain ⟨hf, h⟩ := gd h
 obtain ⟨q14, hq, h⟩ := bnd h
 refine ae7 [] [] (fun K J t o => ∃ q14_, q14 = .inr q14_ ∧ PP K J t o) ?_ ?_
 ·have ho1 := h
  refine aQ7 (xs := a0) [0, 1, 12] [] 0 hf (fun K J l18 k16 t o => fC7 a1 l18 k16  = some q14 ∧ PP ((13, .v (.int .i64 (k16 : Int))) :: K) J t o) ?_ ?_ ?_
  ·exact ⟨hq, pin, aJ7⟩
  ·rintro k16 t o hlt ⟨h, pq⟩
   refine pn pq ?_
   rw [fC7] at h
   exact cls
  rintro x17 l18 k16 t o hlt hx22 hw hd ⟨h, pq⟩
  refine pn pq ?_
  rw [fC7] at h
  exact cls
 rintro t o ⟨q14, rfl, pq⟩
 refine pnq pq ?_
 exact cls
theorem OS7 : OkC [Aq7] sX7 Jo7 Jp7 := by
 refine ok fun G H ⟨a0, a1⟩ r h => ?_
 refine st1 fun bs t o => ?_
 dsimp only [kb7] at h
 exact cls
theorem OT7 : OkC [] EH7 Jq7 Jr7 := by
 refine ok fun G H ⟨a0, a1⟩ r h => ?_
 refine st1 fun bs t o => ?_
 dsimp only [uj7] at h
 try (refine gx ?_; intros; rename_i h)
 obtain ⟨hf, h⟩ := gd h
 obtain ⟨q14, hq, h⟩ := bnd h
 refine ae7 [] [] (fun K J t o => ∃ q14_, q14 = .inr q14_ ∧ PP K J t o) ?_ ?_
 ·have ho1 := h
  refine aQ7 (xs := a0) [0, 1, 12] [] 0 hf (fun K J l18 k16 t o => fD7 a1 l18 k16  = some q14 ∧ PP ((13, .v (.int .i64 (k16 : Int))) :: K) J t o) ?_ ?_ ?_
  ·exact ⟨hq, pin, aJ7⟩
  ·rintro k16 t o hlt ⟨h, pq⟩
   refine pn pq ?_
   rw [fD7] at h
   exact cls
  rintro x17 l18 k16 t o hlt hx22 hw hd ⟨h, pq⟩
  refine pn pq ?_
  rw [fD7] at h
  exact cls
 rintro t o ⟨q14, rfl, pq⟩
 refine pnq pq ?_
 exact cls
theorem OU7 : OkC [sX7, EH7] yd7 Js7 Jt7 := by
 refine ok fun G H ⟨a0, a1⟩ r h => ?_
 refine st1 fun bs t o => ?_
 dsimp only [nV7] at h
 exact cls
theorem OV7 : OkC [yd7] EI7 Ju7 Jv7 := by
 refine ok fun G H ⟨a0, a1⟩ r h => ?_
 have H_ae9 := H _ (.head _)
 replace H := mV7 0 H
 refine st1 fun bs t o => ?_
 dsimp only [uk7] at h
 try (refine gx ?_; intros; rename_i h)
 obtain ⟨hf, h⟩ := gd h
 obtain ⟨q26, hq, h⟩ := bnd h
 refine ae7 [] [] (fun K J t o => ∃ q26_, q26 = .inr q26_ ∧ PP K J t o) ?_ ?_
 ·have ho1 := h
  refine aQ7 (xs := a0) [1, 2, 15, 16] [] 0 hf (fun K J l30 k28 t o => fE7 a1 l30 k28  = some q26 ∧ PP ((17, .v (.int .i64 (k28 : Int))) :: K) J t o) ?_ ?_ ?_
  ·exact ⟨hq, pin, aJ7⟩
  ·rintro k28 t o hlt ⟨h, pq⟩
   refine pn pq ?_
   rw [fE7] at h
   exact cls
  rintro x29 l30 k28 t o hlt hx34 hw hd ⟨h, pq⟩
  refine pn pq ?_
  rw [fE7] at h
  refine gx fun x38 h39 => ?_; intros; rename_i h
  obtain ⟨x41, h42, h⟩ := bnd h
  refine bF7 (c := yd7) (x29, x38) H_ae9 h42 fun ch => ?_
  exact cls
 rintro t o ⟨q26, rfl, pq⟩
 refine pnq pq ?_
 exact cls
end Go.Proofs.AM
