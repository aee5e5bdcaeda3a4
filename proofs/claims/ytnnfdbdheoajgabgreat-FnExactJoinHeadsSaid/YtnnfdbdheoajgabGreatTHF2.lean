/- Lemmas of the proof (THF2), on an abstract machine. Conditions: none. -/
import Derived.Test.YtnnfdbdheoajgabGreatTHD
set_option linter.unusedVariables false
set_option linter.unusedSimpArgs false
set_option maxRecDepth 100000
set_option maxHeartbeats 4000000
namespace Go.Proofs.AM
attribute [local irreducible] vwp cM7 bF7 fN7 vdo i07 mF7 jF7 eX7 mr7 ku7 bJ7 eO7 j37 dN7 jt7 mq7 my7
theorem RC7 : OkC [] Fy7 KJ7 KK7 := by
 refine ok fun G H ⟨a0, a1⟩ r h => ?_
 refine st1 fun bs t o => ?_
 dsimp only [qT7] at h
 try (refine gx ?_; intros; rename_i h)
 obtain ⟨hf, h⟩ := gd h
 obtain ⟨q8, hq, h⟩ := bnd h
 refine ac7 [] [] (fun K J t o => ∃ q8_, q8 = .inr q8_ ∧ PP K J t o) ?_ ?_
 ·have ho1 := h
  refine ay7 (xs := a0) [0, 1] [] 0 hf (fun K J l12 k10 t o => fd7 a1 l12 k10  = some q8 ∧ PP ((5, .v (.int .i64 (k10 : Int))) :: K) J t o) ?_ ?_ ?_
  ·exact ⟨hq, pin, aH7⟩
  ·rintro k10 t o hlt ⟨h, pq⟩
   refine pn pq ?_
   rw [fd7] at h
   exact cls
  rintro x11 l12 k10 t o hlt hx16 hw hd ⟨h, pq⟩
  refine pn pq ?_
  rw [fd7] at h
  exact cls
 rintro t o ⟨q8, rfl, pq⟩
 refine pnq pq ?_
 exact cls
theorem RD7 : OkC [] Fz7 KL7 KM7 := by
 refine ok fun G H ⟨a0, a1⟩ r h => ?_
 refine st1 fun bs t o => ?_
 dsimp only [qU7] at h
 exact cls
theorem RE7 : OkC [] FA7 KN7 KO7 := by
 refine ok fun G H ⟨a0, a1⟩ r h => ?_
 refine st1 fun bs t o => ?_
 dsimp only [qV7] at h
 exact cls
theorem RF7 : OkC [Fz7] FB7 KP7 KQ7 := by
 refine ok fun G H ⟨a0, a1⟩ r h => ?_
 refine st1 fun bs t o => ?_
 dsimp only [nO7] at h
 refine gx fun h3 => ?_; intros; rename_i h
 obtain ⟨q246, hq, h⟩ := bnd h
 refine ac7 [] [] (fun K J t o => ∃ b333 c334, PP ((5, .ref 2000005 b333 c334 0 q246.length 17) :: K) ((2000005, ent b333 c334 17 (List.map be7 q246)) :: J) t o) ?_ ?_
 ·refine ce7 [0, 1] [] (fun K J n251 t o => ∃ v247 v248 b249 c250, d17 a1 a0 n251 v247 v248 = some q246 ∧ PP ((5, .ref 2000005 b249 c250 0 v248.length 17) :: (6, .v (.int .i64 v247)) :: K) ((2000005, ent b249 c250 17 (List.map be7 v248)) :: J) t o) ?_ ?_
  ·exact ⟨_, _, _, _, hq, pin, aH7⟩
  rintro n251 t o ⟨v247, v248, b249, c250, h, pq⟩
  refine pn pq ?_
  cases n251 with
  | zero => rw [d17] at h; cases h
  | succ n251 =>
   rw [d17] at h
   refine gx fun h254 => ?_; intros; rename_i h
   obtain ⟨q307, hq, h⟩ := bnd h
   refine ac7 [0, 1, 6] [] (fun K J t o => ∃ b330 c331, PP ((7, .ref 184 b330 c331 0 q307.length 17) :: K) ((184, ent b330 c331 17 (List.map be7 q307)) :: J) t o) ?_ ?_
   ·refine ce7 [0, 1, 5, 6] [2000005] (fun K J n312 t o => ∃ v308 v309 b310 c311, dq7 a0 v247 a1 v248 n312 v308 v309 = some q307 ∧ PP ((7, .ref 184 b310 c311 0 v309.length 17) :: (8, .v (.int .i64 v308)) :: K) ((184, ent b310 c311 17 (List.map be7 v309)) :: J) t o) ?_ ?_
    ·exact ⟨_, _, _, _, hq, pin, aH7⟩
    rintro n312 t o ⟨v308, v309, b310, c311, h, pq⟩
    refine pn pq ?_
    cases n312 with
    | zero => rw [dq7] at h; cases h
    | succ n312 =>
     rw [dq7] at h
     refine gx fun x313 h314 x315 h316 => ?_; intros; rename_i h
     refine cnd h rfl rfl (fun h c => ?_) fun h c => ?_
     ·try rw [c]
      refine gx fun x317 h318 x319 h320 => ?_; intros; rename_i h
      refine bu7 (f := be7) v309 (IntKind.i64.wrap (x317 + 1)) (aq7 h320).2 ?_
      exact cls
     try rw [c]
     refine gx fun x321 h322 x323 h324 x325 h326 x327 h328 => ?_; intros; rename_i h
     refine bu7 (f := be7) v309 x325 (aq7 h328).2 ?_
     exact cls
   rintro t o ⟨b330, c331, pq⟩
   refine pnq pq ?_
   exact cls
 rintro t o ⟨b333, c334, pq⟩
 refine pnq pq ?_
 exact cls
theorem RG7 : OkC [FA7, FB7] FC7 KR7 KS7 := by
 refine ok fun G H ⟨a0, a1⟩ r h => ?_
 refine st1 fun bs t o => ?_
 dsimp only [nP7] at h
 try (refine gx ?_; intros; rename_i h)
 obtain ⟨q51, hq, h⟩ := bnd h
 refine a87 [] [] (fun K J t o => ∃ b81 c82, PP ((5, .ref 64 b81 c82 0 q51.length 194) :: K) ((64, ent b81 c82 194 (List.map gd7 q51)) :: J) t o) ?_ ?_
 ·refine lf7 ?_
  refine ce7 [0, 1] [] (fun K J n57 t o => ∃ v52 v53 v54 b55 c56, dr7 a0 a1 n57 v52 v53 v54 = some q51 ∧ PP ((5, .ref 64 b55 c56 0 v54.length 194) :: (6, .v (.int .i64 v52)) :: (7, .v (.int .i64 v53)) :: K) ((64, ent b55 c56 194 (List.map gd7 v54)) :: J) t o) ?_ ?_
  ·exact ⟨_, _, _, _, _, hq, pin, aH7⟩
  rintro n57 t o ⟨v52, v53, v54, b55, c56, h, pq⟩
  refine pn pq ?_
  cases n57 with
  | zero => rw [dr7] at h; cases h
  | succ n57 =>
   rw [dr7] at h
   exact cls
 rintro t o ⟨b81, c82, pq⟩
 refine pn pq ?_
 exact cls
theorem RH7 : OkC [] FD7 KT7 KU7 := by
 refine ok fun G H ⟨a0, a1⟩ r h => ?_
 refine st1 fun bs t o => ?_
 dsimp only [nQ7] at h
 try (refine gx ?_; intros; rename_i h)
 obtain ⟨hf, h⟩ := gd h
 obtain ⟨q8, hq, h⟩ := bnd h
 refine ac7 [] [] (fun K J t o => ∃ q8_, q8 = .inr q8_ ∧ PP K J t o) ?_ ?_
 ·have ho1 := h
  refine ay7 (xs := a0) [0, 1] [] 0 hf (fun K J l12 k10 t o => fe7 a1 l12 k10  = some q8 ∧ PP ((5, .v (.int .i64 (k10 : Int))) :: K) J t o) ?_ ?_ ?_
  ·exact ⟨hq, pin, aH7⟩
  ·rintro k10 t o hlt ⟨h, pq⟩
   refine pn pq ?_
   rw [fe7] at h
   exact cls
  rintro x11 l12 k10 t o hlt hx16 hw hd ⟨h, pq⟩
  refine pn pq ?_
  rw [fe7] at h
  exact cls
 rintro t o ⟨q8, rfl, pq⟩
 refine pnq pq ?_
 exact cls
theorem RI7 : OkC [A57] FE7 KV7 KW7 := by
 refine ok fun G H ⟨a0, a1, a2⟩ r h => ?_
 refine st1 fun bs t o => ?_
 dsimp only [nR7] at h
 exact cls
theorem RJ7 : OkC [FC7, FD7, FE7] FF7 KX7 KY7 := by
 refine ok fun G H ⟨a0, a1, a2⟩ r h => ?_
 refine st1 fun bs t o => ?_
 dsimp only [qW7] at h
 refine gx fun x1 h2 x5 h6 => ?_; intros; rename_i h
 obtain ⟨q266, hq, h⟩ := bnd h
 refine ac7 [] [] (fun K J t o => ∃ q266_ b359 c360, q266 = .inr q266_ ∧ PP ((10, .ref 200 b359 c360 0 q266_.length 66) :: K) ((200, ent b359 c360 66 (List.map ePt q266_)) :: J) t o) ?_ ?_
 ·have ho1 := h
  refine ce7 [0, 1, 2, 8, 9] [168, 192] (fun K J n274 t o => ∃ v267 v268 v269 v270 v271 b272 c273, d27 a0 x1 x5 a1 a2 n274 v267 v268 v269 v270 v271 = some q266 ∧ PP ((10, .ref 200 b272 c273 0 v271.length 66) :: (11, .v (.int .i64 v267)) :: (12, .v (.int .i64 v268)) :: (13, .v (.int .i64 v269)) :: (14, .v (.int .i64 v270)) :: K) ((200, ent b272 c273 66 (List.map ePt v271)) :: J) t o) ?_ ?_
  ·exact ⟨_, _, _, _, _, _, _, hq, pin, aH7⟩
  rintro n274 t o ⟨v267, v268, v269, v270, v271, b272, c273, h, pq⟩
  refine pn pq ?_
  cases n274 with
  | zero => rw [d27] at h; cases h
  | succ n274 =>
   rw [d27] at h
   try (refine gx ?_; intros; rename_i h)
   obtain ⟨q313, hq, h⟩ := bnd h
   refine a87 [0, 1, 2, 8, 9, 14] [168, 192] (fun K J t o => ∃ q313_ b356 c357, q313 = .inr q313_ ∧ PP ((10, .ref 200 b356 c357 0 q313_.2.2.2.length 66) :: (11, .v (.int .i64 q313_.1)) :: (12, .v (.int .i64 q313_.2.1)) :: (13, .v (.int .i64 q313_.2.2.1)) :: K) ((200, ent b356 c357 66 (List.map ePt q313_.2.2.2)) :: J) t o) ?_ ?_
   ·have ho2 := h
    have h := hq
    exact cls
   rintro t o ⟨q313, b356, c357, rfl, pq⟩
   refine pn pq ?_
   exact cls
 rintro t o ⟨q266, b359, c360, rfl, pq⟩
 refine pnq pq ?_
 exact cls
theorem RK7 : OkC [] FG7 KZ7 K07 := by
 refine ok fun G H ⟨a0, a1, a2⟩ r h => ?_
 refine st1 fun bs t o => ?_
 dsimp only [qX7] at h
 try (refine gx ?_; intros; rename_i h)
 obtain ⟨hf, h⟩ := gd h
 obtain ⟨q78, hq, h⟩ := bnd h
 refine ac7 [1, 2] [] (fun K J t o => ∃ b112 c113, PP ((7, .ref 80 b112 c113 0 q78.2.length 82) :: (8, .v (.bool q78.1)) :: K) ((80, ent b112 c113 82 (List.map aX7 q78.2)) :: J) t o) ?_ ?_
 ·refine ay7 (xs := a0) [0, 1, 2] [] 0 hf (fun K J l86 k84 t o => ∃ v79 v81 b82 c83, cz7 a1 a2 l86 k84 v79 v81 = some q78 ∧ PP ((7, .ref 80 b82 c83 0 v81.length 82) :: (8, .v (.bool v79)) :: (9, .v (.int .i64 (k84 : Int))) :: K) ((80, ent b82 c83 82 (List.map aX7 v81)) :: J) t o) ?_ ?_ ?_
  ·exact ⟨_, _, _, _, hq, pin, aH7⟩
  ·rintro k84 t o hlt ⟨v79, v81, b82, c83, h, pq⟩
   refine pn pq ?_
   rw [cz7] at h
   exact cls
  rintro x85 l86 k84 t o hlt hx90 hw hd ⟨v79, v81, b82, c83, h, pq⟩
  refine pn pq ?_
  rw [cz7] at h
  try (refine gx ?_; intros; rename_i h)
  obtain ⟨q97, hq, h⟩ := bnd h
  refine a87 [0, 1, 2, 9] [] (fun K J t o => ∃ b104 c105, PP ((7, .ref 80 b104 c105 0 q97.2.length 82) :: (8, .v (.bool q97.1)) :: K) ((80, ent b104 c105 82 (List.map aX7 q97.2)) :: J) t o) ?_ ?_
  ·have h := hq
   exact cls
  rintro t o ⟨b104, c105, pq⟩
  refine pn pq ?_
  exact cls
 rintro t o ⟨b112, c113, pq⟩
 refine pnq pq ?_
 exact cls
theorem RL7 : OkC [] FH7 K17 K27 := by
 refine ok fun G H ⟨a0, a1⟩ r h => ?_
 refine st1 fun bs t o => ?_
 dsimp only [lA7] at h
 try (refine gx ?_; intros; rename_i h)
 obtain ⟨hf, h⟩ := gd h
 obtain ⟨q8, hq, h⟩ := bnd h
 refine ac7 [] [] (fun K J t o => ∃ q8_, q8 = .inr q8_ ∧ PP K J t o) ?_ ?_
 ·have ho1 := h
  refine ay7 (xs := a0) [0, 1] [] 0 hf (fun K J l12 k10 t o => ff7 a1 l12 k10  = some q8 ∧ PP ((6, .v (.int .i64 (k10 : Int))) :: K) J t o) ?_ ?_ ?_
  ·exact ⟨hq, pin, aH7⟩
  ·rintro k10 t o hlt ⟨h, pq⟩
   refine pn pq ?_
   rw [ff7] at h
   exact cls
  rintro x11 l12 k10 t o hlt hx16 hw hd ⟨h, pq⟩
  refine pn pq ?_
  rw [ff7] at h
  exact cls
 rintro t o ⟨q8, rfl, pq⟩
 refine pnq pq ?_
 exact cls
theorem RM7 : OkC [A67, FF7, A37] FI7 K37 K47 := by
 refine ok fun G H ⟨a0, a1, a2⟩ r h => ?_
 refine st1 fun bs t o => ?_
 dsimp only [qY7] at h
 refine gx fun x5 h6 => ?_; intros; rename_i h
 obtain ⟨q7, hq, h⟩ := bnd h
 refine a87 [3, 4, 5, 6] [24, 32, 40, 1000769, 48] (fun K J t o => PP ((16, .v (.bool q7)) :: K) J t o) ?_ ?_
 ·have h := hq
  exact cls
 rintro t o pq
 refine pn pq ?_
 exact cls
theorem RN7 : OkC [FG7] FJ7 K57 K67 := by
 refine ok fun G H ⟨a0, a1, a2⟩ r h => ?_
 refine st1 fun bs t o => ?_
 dsimp only [qZ7] at h
 refine gx fun h4 h7 h10 => ?_; intros; rename_i h
 obtain ⟨hf, h⟩ := gd h
 obtain ⟨q34, hq, h⟩ := bnd h
 refine ac7 [] [] (fun K J t o => ∃ b53 c54, PP ((8, .ref 2000008 b53 c54 0 q34.length 82) :: K) ((2000008, ent b53 c54 82 (List.map aX7 q34)) :: J) t o) ?_ ?_
 ·refine ay7 (xs := ((([] ++ a0) ++ a1) ++ a2)) [7] [96] 0 hf (fun K J l41 k39 t o => ∃ v36 b37 c38, fg7 l41 k39 v36 = some q34 ∧ PP ((8, .ref 2000008 b37 c38 0 v36.length 82) :: (9, .v (.int .i64 (k39 : Int))) :: K) ((2000008, ent b37 c38 82 (List.map aX7 v36)) :: J) t o) ?_ ?_ ?_
  ·exact ⟨_, _, _, hq, pin, aH7⟩
  ·rintro k39 t o hlt ⟨v36, b37, c38, h, pq⟩
   refine pn pq ?_
   rw [fg7] at h
   exact cls
  rintro x40 l41 k39 t o hlt hx45 hw hd ⟨v36, b37, c38, h, pq⟩
  refine pn pq ?_
  rw [fg7] at h
  exact cls
 rintro t o ⟨b53, c54, pq⟩
 refine pnq pq ?_
 try (refine gx ?_; intros; rename_i h)
 obtain ⟨hf, h⟩ := gd h
 obtain ⟨q78, hq, h⟩ := bnd h
 refine ac7 [] [] (fun K J t o => ∃ b97 c98, PP ((10, .ref 264 b97 c98 0 q78.length 49) :: K) ((264, ent b97 c98 49 (List.map ca7 q78)) :: J) t o) ?_ ?_
 ·refine ay7 (xs := q34) [8] [2000008] 0 hf (fun K J l85 k83 t o => ∃ v80 b81 c82, d37 l85 k83 v80 = some q78 ∧ PP ((10, .ref 264 b81 c82 0 v80.length 49) :: (11, .v (.int .i64 (k83 : Int))) :: K) ((264, ent b81 c82 49 (List.map ca7 v80)) :: J) t o) ?_ ?_ ?_
  ·exact ⟨_, _, _, hq, pin, aH7⟩
  ·rintro k83 t o hlt ⟨v80, b81, c82, h, pq⟩
   refine pn pq ?_
   rw [d37] at h
   exact cls
  rintro x84 l85 k83 t o hlt hx89 hw hd ⟨v80, b81, c82, h, pq⟩
  refine pn pq ?_
  rw [d37] at h
  exact cls
 rintro t o ⟨b97, c98, pq⟩
 refine pnq pq ?_
 exact cls
theorem RO7 : OkC [FH7] FK7 K77 K87 := by
 refine ok fun G H ⟨a0, a1, a2, a3⟩ r h => ?_
 refine st1 fun bs t o => ?_
 dsimp only [q07] at h
 refine gx fun x1 h2 x3 h4 x5 h6 => ?_; intros; rename_i h
 obtain ⟨q7, hq, h⟩ := bnd h
 refine a87 [15] [] (fun K J t o => ∃ q7_, q7 = .inr q7_ ∧ PP K J t o) ?_ ?_
 ·have ho1 := h
  have h := hq
  exact cls
 rintro t o ⟨q7, rfl, pq⟩
 refine pn pq ?_
 exact cls
theorem RP7 : OkC [Fy7, yU7] wo7 K97 La7 := by
 refine ok fun G H ⟨a0, a1⟩ r h => ?_
 refine st1 fun bs t o => ?_
 dsimp only [lB7] at h
 exact cls
theorem RQ7 : OkC [FI7, A77, FJ7, FK7, A47, yU7] Bd7 Lb7 Lc7 := by
 refine ok fun G H ⟨a0, a1, a2⟩ r h => ?_
 refine st1 fun bs t o => ?_
 dsimp only [q17] at h
 try (refine gx ?_; intros; rename_i h)
 obtain ⟨q6, hq, h⟩ := bnd h
 refine a87 [3, 4, 5, 6, 8] [24, 32, 40, 1000770, 1000771, 48, 136] (fun K J t o => ∃ b13, PP ((9, .ptr 72 b13 226 0 0) :: (10, .v (.bool q6.1)) :: K) ((72, ⟨b13, 1, 226, true, [[.v (.int .i64 q6.2.1), .sl false 2 (List.map ePt q6.2.2)]]⟩) :: J) t o) ?_ ?_
 ·have h := hq
  exact cls
 rintro t o ⟨b13, pq⟩
 refine pn pq ?_
 try (refine gx ?_; intros; rename_i h)
 obtain ⟨q18, hq, h⟩ := bnd h
 refine a87 [3, 4, 5, 6, 9] [24, 32, 40, 1000770, 1000771, 48, 72] (fun K J t o => ∃ b24 c25, PP ((8, .ref 136 b24 c25 0 q18.length 49) :: K) ((136, ent b24 c25 49 (List.map ca7 q18)) :: J) t o) ?_ ?_
 ·have h := hq
  exact cls
 rintro t o ⟨b24, c25, pq⟩
 refine pn pq ?_
 refine gx fun x26 h27 x31 h32 => ?_; intros; rename_i h
 obtain ⟨hf, h⟩ := gd h
 obtain ⟨q97, hq, h⟩ := bnd h
 refine ac7 [4, 6] [32, 1000770, 1000771, 48] (fun K J t o => ∃ b132 c133 b28 c29 b135 c136 b137, PP ((8, .ref 136 b132 c133 0 q97.1.length 49) :: (11, .ptr 88 b137 100 0 0) :: K) ((136, ent b132 c133 49 (List.map ca7 q97.1)) :: (1001410, ent b28 c29 66 (List.map ePt x26.pts)) :: (1001411, ent b135 c136 82 (List.map aX7 q97.2)) :: (88, ⟨b137, 1, 100, true, [[.v (.string a1.id), .v (.int .i64 x26.kind), .al 1001410 b28 c29 0 x26.pts.length 66, .al 1001411 b135 c136 0 q97.2.length 82]]⟩) :: J) t o) ?_ ?_
 ·refine ay7 (xs := x31) [3, 4, 5, 6, 12] [24, 32, 40, 1000770, 1000771, 48, 352] 0 hf (fun K J l108 k106 t o => ∃ v99 v102 b100 c101 b28 c29 b103 c104 b105, cA7 a0 a1 a2 l108 k106 v99 v102 = some q97 ∧ PP ((8, .ref 136 b100 c101 0 v99.length 49) :: (11, .ptr 88 b105 100 0 0) :: (13, .v (.int .i64 (k106 : Int))) :: K) ((136, ent b100 c101 49 (List.map ca7 v99)) :: (1001410, ent b28 c29 66 (List.map ePt x26.pts)) :: (1001411, ent b103 c104 82 (List.map aX7 v102)) :: (88, ⟨b105, 1, 100, true, [[.v (.string a1.id), .v (.int .i64 x26.kind), .al 1001410 b28 c29 0 x26.pts.length 66, .al 1001411 b103 c104 0 v102.length 82]]⟩) :: J) t o) ?_ ?_ ?_
  ·exact ⟨_, _, _, _, _, _, _, _, _, hq, pin, aH7⟩
  ·rintro k106 t o hlt ⟨v99, v102, b100, c101, b28, c29, b103, c104, b105, h, pq⟩
   refine pn pq ?_
   rw [cA7] at h
   exact cls
  rintro x107 l108 k106 t o hlt hx112 hw hd ⟨v99, v102, b100, c101, b28, c29, b103, c104, b105, h, pq⟩
  refine pn pq ?_
  rw [cA7] at h
  exact cls
 rintro t o ⟨b132, c133, b28, c29, b135, c136, b137, pq⟩
 refine pnq pq ?_
 exact cls
theorem RR7 : OkC [Bc7, Fx7] FL7 Ld7 Le7 := by
 refine ok fun G H ⟨a0, a1, a2⟩ r h => ?_
 refine st1 fun bs t o => ?_
 dsimp only [q37] at h
 try (refine gx ?_; intros; rename_i h)
 obtain ⟨hf, h⟩ := gd h
 obtain ⟨q21, hq, h⟩ := bnd h
 refine ac7 [2] [] (fun K J t o => PP ((7, .ro (List.map (am7 false) q21)) :: K) J t o) ?_ ?_
 ·refine ay7 (xs := a1) [1, 2] [] 0 hf (fun K J l26 k24 t o => ∃ v22, fh7 l26 k24 v22 = some q21 ∧ PP ((7, .ro (List.map (am7 false) v22)) :: (8, .v (.int .i64 (k24 : Int))) :: K) J t o) ?_ ?_ ?_
  ·exact ⟨_, hq, pin, aH7⟩
  ·rintro k24 t o hlt ⟨v22, h, pq⟩
   refine pn pq ?_
   rw [fh7] at h
   exact cls
  rintro x25 l26 k24 t o hlt hx30 hw hd ⟨v22, h, pq⟩
  refine pn pq ?_
  rw [fh7] at h
  exact cls
 rintro t o pq
 refine pnq pq ?_
 exact cls
theorem RS7 : OkC [wo7, lv7, Bd7] FM7 Lf7 Lg7 := by
 refine ok fun G H ⟨a0, a1, a2, a3⟩ r h => ?_
 have H_ge9 := H _ (.head _)
 have H_fc9 := H _ (.tail _ (.head _))
 have H_gk9 := H _ (.tail _ (.tail _ (.head _)))
 refine st1 fun bs t o => ?_
 dsimp only [q57] at h
 obtain ⟨x2, h3, h⟩ := bnd h
 refine go ?_;intros
 refine aC7 (c := wo7) (a0, a3) H_ge9 h3 fun ch => ?_
 obtain ⟨q9, h211, h⟩ := bnd h
 refine go ?_;intros
 refine fX7 (fun t o => ∃ b18 c19 b20 c21 b22 b23 c24 b25 c26 b27 b29 c30 b32 c33 b36, Pin t (ovr [(2, .ro (List.map (am7 false) a2)), (3, .v (.string a3)), (8, .ptr 64 b22 100 0 0), (11, .ptr 88 b27 100 0 0), (12, .v (.bool x2.2)), (13, .ptr 104 b36 100 0 0), (14, .v (.bool q9.1))] t) ∧ ms7 o (ovh [(1001026, ent b18 c19 66 (List.map ePt [])), (1001027, ent b20 c21 82 (List.map aX7 [])), (64, ⟨b22, 1, 100, true, [[.v (.string (⟨#[]⟩ : Str)), .v (.int .i64 0), .al 1001026 b18 c19 0 ([] : List Pt).length 66, .al 1001027 b20 c21 0 ([] : List Tag).length 82]]⟩), (1001410, ent b23 c24 66 (List.map ePt x2.1.shape.pts)), (1001411, ent b25 c26 82 (List.map aX7 x2.1.tags)), (88, ⟨b27, 1, 100, true, [[.v (.string x2.1.id), .v (.int .i64 x2.1.shape.kind), .al 1001410 b23 c24 0 x2.1.shape.pts.length 66, .al 1001411 b25 c26 0 x2.1.tags.length 82]]⟩), (1001666, ent b29 c30 66 (List.map ePt q9.2.1)), (1001667, ent b32 c33 82 (List.map aX7 q9.2.2.1)), (104, ⟨b36, 1, 100, true, [[.v (.string q9.2.2.2.1), .v (.int .i64 q9.2.2.2.2), .al 1001666 b29 c30 0 q9.2.1.length 66, .al 1001667 b32 c33 0 q9.2.2.1.length 82]]⟩)] o)) ?_ ?_
 ·obtain ⟨x10, h11, h211⟩ := bnd h211
  refine go ?_;intros
  refine aC7 (c := wo7) (a1, a3) H_ge9 h11 fun ch => ?_
  refine go ?_;intros
  cases h211
  exact f37 ⟨_, _, _, _, _, _, _, _, _, _, _, _, _, _, _, pin, aH7⟩
 rintro t o ⟨b18, c19, b20, c21, b22, b23, c24, b25, c26, b27, b29, c30, b32, c33, b36, pq1, pq2⟩
 refine cS7 pq1 pq2 ?_
 obtain ⟨x37, h38, h⟩ := bnd h
 refine go ?_;intros
 refine aC7 (c := wo7) (a2, a3) H_ge9 h38 fun ch => ?_
 obtain ⟨q113, h212, h⟩ := bnd h
 refine go ?_;intros
 refine fX7 (fun t o => ∃ q113_, q113 = .inr q113_ ∧ ∃ b182 c183 b184 c185 b186 b187 c188 b189 c190 b191 b192 c193 b194 c195 b196 b197 c198 b199 c200 b201, Pin t (ovr [(8, .ptr 64 b186 100 0 0), (11, .ptr 88 b191 100 0 0), (13, .ptr 104 b196 100 0 0), (15, .ptr 120 b201 100 0 0)] t) ∧ ms7 o (ovh [(1001026, ent b182 c183 66 (List.map ePt [])), (1001027, ent b184 c185 82 (List.map aX7 [])), (64, ⟨b186, 1, 100, true, [[.v (.string (⟨#[]⟩ : Str)), .v (.int .i64 0), .al 1001026 b182 c183 0 ([] : List Pt).length 66, .al 1001027 b184 c185 0 ([] : List Tag).length 82]]⟩), (1001410, ent b187 c188 66 (List.map ePt x2.1.shape.pts)), (1001411, ent b189 c190 82 (List.map aX7 x2.1.tags)), (88, ⟨b191, 1, 100, true, [[.v (.string x2.1.id), .v (.int .i64 x2.1.shape.kind), .al 1001410 b187 c188 0 x2.1.shape.pts.length 66, .al 1001411 b189 c190 0 x2.1.tags.length 82]]⟩), (1001666, ent b192 c193 66 (List.map ePt q9.2.1)), (1001667, ent b194 c195 82 (List.map aX7 q9.2.2.1)), (104, ⟨b196, 1, 100, true, [[.v (.string q9.2.2.2.1), .v (.int .i64 q9.2.2.2.2), .al 1001666 b192 c193 0 q9.2.1.length 66, .al 1001667 b194 c195 0 q9.2.2.1.length 82]]⟩), (1001922, ent b197 c198 66 (List.map ePt x37.1.shape.pts)), (1001923, ent b199 c200 82 (List.map aX7 x37.1.tags)), (120, ⟨b201, 1, 100, true, [[.v (.string x37.1.id), .v (.int .i64 x37.1.shape.kind), .al 1001922 b197 c198 0 x37.1.shape.pts.length 66, .al 1001923 b199 c200 0 x37.1.tags.length 82]]⟩)] o)) ?_ ?_
 ·refine go ?_;intros
  refine aY7 rfl (fun c => ?_) (fun c => ?_)
  ·replace h212 := itt h212 c
   rw [c]
   obtain ⟨x114, h115, h212⟩ := bnd h212
   refine go ?_;intros
   refine aC7 (c := lv7) ((⟨q9.2.2.2.1, ⟨q9.2.2.2.2, q9.2.1⟩, q9.2.2.1⟩ : Feat), x2.1) H_fc9 h115 fun ch => ?_
   refine go ?_;intros
   refine aO7 rfl (fun c => ?_) (fun c => ?_)
   ·replace h212 := itt h212 c
    try rw [c]
    refine go ?_;intros
    cases h212
    replace h : some _ = some _ := h
    cases h
    exact aU7
   replace h212 := itf h212 c
   try rw [c]
   obtain ⟨q116, h213, h212⟩ := bnd h212
   refine go ?_;intros
   refine fX7 (fun t o => ∃ b124 c125 b126 c127 b128 b129 c130 b131 c132 b133 b134 c135 b136 c137 b138 b139 c140 b141 c142 b143 b144 c145, Pin t (ovr [(8, .ptr 64 b128 100 0 0), (11, .ptr 88 b133 100 0 0), (12, .v (.bool x2.2)), (13, .ptr 104 b138 100 0 0), (14, .v (.bool q9.1)), (15, .ptr 120 b143 100 0 0), (16, .v (.bool x37.2)), (17, .ref 304 b144 c145 0 0 49), (51, .v (.bool q116))] t) ∧ ms7 o (ovh [(1001026, ent b124 c125 66 (List.map ePt [])), (1001027, ent b126 c127 82 (List.map aX7 [])), (64, ⟨b128, 1, 100, true, [[.v (.string (⟨#[]⟩ : Str)), .v (.int .i64 0), .al 1001026 b124 c125 0 ([] : List Pt).length 66, .al 1001027 b126 c127 0 ([] : List Tag).length 82]]⟩), (1001410, ent b129 c130 66 (List.map ePt x2.1.shape.pts)), (1001411, ent b131 c132 82 (List.map aX7 x2.1.tags)), (88, ⟨b133, 1, 100, true, [[.v (.string x2.1.id), .v (.int .i64 x2.1.shape.kind), .al 1001410 b129 c130 0 x2.1.shape.pts.length 66, .al 1001411 b131 c132 0 x2.1.tags.length 82]]⟩), (1001666, ent b134 c135 66 (List.map ePt q9.2.1)), (1001667, ent b136 c137 82 (List.map aX7 q9.2.2.1)), (104, ⟨b138, 1, 100, true, [[.v (.string q9.2.2.2.1), .v (.int .i64 q9.2.2.2.2), .al 1001666 b134 c135 0 q9.2.1.length 66, .al 1001667 b136 c137 0 q9.2.2.1.length 82]]⟩), (1001922, ent b139 c140 66 (List.map ePt x37.1.shape.pts)), (1001923, ent b141 c142 82 (List.map aX7 x37.1.tags)), (120, ⟨b143, 1, 100, true, [[.v (.string x37.1.id), .v (.int .i64 x37.1.shape.kind), .al 1001922 b139 c140 0 x37.1.shape.pts.length 66, .al 1001923 b141 c142 0 x37.1.tags.length 82]]⟩), (304, ent b144 c145 49 (List.map ca7 []))] o)) ?_ ?_
   ·refine go ?_;intros
    refine aY7 rfl (fun c => ?_) (fun c => ?_)
    ·replace h213 := itt h213 c
     rw [c]
     obtain ⟨x117, h118, h213⟩ := bnd h213
     refine go ?_;intros
     refine aC7 (c := lv7) (x37.1, x2.1) H_fc9 h118 fun ch => ?_
     refine go ?_;intros
     refine aY7 rfl (fun c => ?_) (fun c => ?_)
     ·replace h213 := itt h213 c
      rw [c]
      refine go ?_;intros
      cases h213
      exact f37 ⟨_, _, _, _, _, _, _, _, _, _, _, _, _, _, _, _, _, _, _, _, _, _, pin, aH7⟩
     replace h213 := itf h213 c
     rw [c]
     refine go ?_;intros
     refine aY7 rfl (fun c => ?_) (fun c => ?_)
     ·replace h213 := itt h213 c
      rw [c]
      obtain ⟨x119, h120, h213⟩ := bnd h213
      refine go ?_;intros
      refine aC7 (c := lv7) ((⟨q9.2.2.2.1, ⟨q9.2.2.2.2, q9.2.1⟩, q9.2.2.1⟩ : Feat), x37.1) H_fc9 h120 fun ch => ?_
      refine go ?_;intros
      cases h213
      exact f37 ⟨_, _, _, _, _, _, _, _, _, _, _, _, _, _, _, _, _, _, _, _, _, _, pin, aH7⟩
     replace h213 := itf h213 c
     rw [c]
     refine go ?_;intros
     cases h213
     exact f37 ⟨_, _, _, _, _, _, _, _, _, _, _, _, _, _, _, _, _, _, _, _, _, _, pin, aH7⟩
    replace h213 := itf h213 c
    rw [c]
    refine go ?_;intros
    refine aY7 rfl (fun c => ?_) (fun c => ?_)
    ·replace h213 := itt h213 c
     rw [c]
     obtain ⟨x121, h122, h213⟩ := bnd h213
     refine go ?_;intros
     refine aC7 (c := lv7) ((⟨q9.2.2.2.1, ⟨q9.2.2.2.2, q9.2.1⟩, q9.2.2.1⟩ : Feat), x37.1) H_fc9 h122 fun ch => ?_
     refine go ?_;intros
     cases h213
     exact f37 ⟨_, _, _, _, _, _, _, _, _, _, _, _, _, _, _, _, _, _, _, _, _, _, pin, aH7⟩
    replace h213 := itf h213 c
    rw [c]
    refine go ?_;intros
    cases h213
    exact f37 ⟨_, _, _, _, _, _, _, _, _, _, _, _, _, _, _, _, _, _, _, _, _, _, pin, aH7⟩
   rintro t o ⟨b124, c125, b126, c127, b128, b129, c130, b131, c132, b133, b134, c135, b136, c137, b138, b139, c140, b141, c142, b143, b144, c145, pq1, pq2⟩
   refine cS7 pq1 pq2 ?_
   refine go ?_;intros
   refine aO7 rfl (fun c => ?_) (fun c => ?_)
   ·replace h212 := itt h212 c
    try rw [c]
    refine go ?_;intros
    cases h212
    replace h : some _ = some _ := h
    cases h
    exact aU7
   replace h212 := itf h212 c
   try rw [c]
   refine go ?_;intros
   refine aO7 rfl (fun c => ?_) (fun c => ?_)
   ·replace h212 := itt h212 c
    try rw [c]
    refine go ?_;intros
    cases h212
    replace h : some _ = some _ := h
    cases h
    exact aU7
   replace h212 := itf h212 c
   try rw [c]
   refine go ?_;intros
   refine aO7 rfl (fun c => ?_) (fun c => ?_)
   ·replace h212 := itt h212 c
    try rw [c]
    refine go ?_;intros
    cases h212
    replace h : some _ = some _ := h
    cases h
    exact aU7
   replace h212 := itf h212 c
   try rw [c]
   refine go ?_;intros
   refine aO7 rfl (fun c => ?_) (fun c => ?_)
   ·replace h212 := itt h212 c
    try rw [c]
    refine go ?_;intros
    cases h212
    replace h : some _ = some _ := h
    cases h
    exact aU7
   replace h212 := itf h212 c
   try rw [c]
   refine go ?_;intros
   cases h212
   exact f37 ⟨_, rfl, _, _, _, _, _, _, _, _, _, _, _, _, _, _, _, _, _, _, _, _, pin, aH7⟩
  replace h212 := itf h212 c
  rw [c]
  obtain ⟨q149, h214, h212⟩ := bnd h212
  refine go ?_;intros
  refine fX7 (fun t o => ∃ b157 c158 b159 c160 b161 b162 c163 b164 c165 b166 b167 c168 b169 c170 b171 b172 c173 b174 c175 b176 b177 c178, Pin t (ovr [(8, .ptr 64 b161 100 0 0), (11, .ptr 88 b166 100 0 0), (12, .v (.bool x2.2)), (13, .ptr 104 b171 100 0 0), (14, .v (.bool q9.1)), (15, .ptr 120 b176 100 0 0), (16, .v (.bool x37.2)), (17, .ref 304 b177 c178 0 0 49), (51, .v (.bool q149))] t) ∧ ms7 o (ovh [(1001026, ent b157 c158 66 (List.map ePt [])), (1001027, ent b159 c160 82 (List.map aX7 [])), (64, ⟨b161, 1, 100, true, [[.v (.string (⟨#[]⟩ : Str)), .v (.int .i64 0), .al 1001026 b157 c158 0 ([] : List Pt).length 66, .al 1001027 b159 c160 0 ([] : List Tag).length 82]]⟩), (1001410, ent b162 c163 66 (List.map ePt x2.1.shape.pts)), (1001411, ent b164 c165 82 (List.map aX7 x2.1.tags)), (88, ⟨b166, 1, 100, true, [[.v (.string x2.1.id), .v (.int .i64 x2.1.shape.kind), .al 1001410 b162 c163 0 x2.1.shape.pts.length 66, .al 1001411 b164 c165 0 x2.1.tags.length 82]]⟩), (1001666, ent b167 c168 66 (List.map ePt q9.2.1)), (1001667, ent b169 c170 82 (List.map aX7 q9.2.2.1)), (104, ⟨b171, 1, 100, true, [[.v (.string q9.2.2.2.1), .v (.int .i64 q9.2.2.2.2), .al 1001666 b167 c168 0 q9.2.1.length 66, .al 1001667 b169 c170 0 q9.2.2.1.length 82]]⟩), (1001922, ent b172 c173 66 (List.map ePt x37.1.shape.pts)), (1001923, ent b174 c175 82 (List.map aX7 x37.1.tags)), (120, ⟨b176, 1, 100, true, [[.v (.string x37.1.id), .v (.int .i64 x37.1.shape.kind), .al 1001922 b172 c173 0 x37.1.shape.pts.length 66, .al 1001923 b174 c175 0 x37.1.tags.length 82]]⟩), (304, ent b177 c178 49 (List.map ca7 []))] o)) ?_ ?_
  ·refine go ?_;intros
   refine aY7 rfl (fun c => ?_) (fun c => ?_)
   ·replace h214 := itt h214 c
    rw [c]
    obtain ⟨x150, h151, h214⟩ := bnd h214
    refine go ?_;intros
    refine aC7 (c := lv7) (x37.1, x2.1) H_fc9 h151 fun ch => ?_
    refine go ?_;intros
    refine aY7 rfl (fun c => ?_) (fun c => ?_)
    ·replace h214 := itt h214 c
     rw [c]
     refine go ?_;intros
     cases h214
     exact f37 ⟨_, _, _, _, _, _, _, _, _, _, _, _, _, _, _, _, _, _, _, _, _, _, pin, aH7⟩
    replace h214 := itf h214 c
    rw [c]
    refine go ?_;intros
    refine aY7 rfl (fun c => ?_) (fun c => ?_)
    ·replace h214 := itt h214 c
     rw [c]
     obtain ⟨x152, h153, h214⟩ := bnd h214
     refine go ?_;intros
     refine aC7 (c := lv7) ((⟨q9.2.2.2.1, ⟨q9.2.2.2.2, q9.2.1⟩, q9.2.2.1⟩ : Feat), x37.1) H_fc9 h153 fun ch => ?_
     refine go ?_;intros
     cases h214
     exact f37 ⟨_, _, _, _, _, _, _, _, _, _, _, _, _, _, _, _, _, _, _, _, _, _, pin, aH7⟩
    replace h214 := itf h214 c
    rw [c]
    refine go ?_;intros
    cases h214
    exact f37 ⟨_, _, _, _, _, _, _, _, _, _, _, _, _, _, _, _, _, _, _, _, _, _, pin, aH7⟩
   replace h214 := itf h214 c
   rw [c]
   refine go ?_;intros
   refine aY7 rfl (fun c => ?_) (fun c => ?_)
   ·replace h214 := itt h214 c
    rw [c]
    obtain ⟨x154, h155, h214⟩ := bnd h214
    refine go ?_;intros
    refine aC7 (c := lv7) ((⟨q9.2.2.2.1, ⟨q9.2.2.2.2, q9.2.1⟩, q9.2.2.1⟩ : Feat), x37.1) H_fc9 h155 fun ch => ?_
    refine go ?_;intros
    cases h214
    exact f37 ⟨_, _, _, _, _, _, _, _, _, _, _, _, _, _, _, _, _, _, _, _, _, _, pin, aH7⟩
   replace h214 := itf h214 c
   rw [c]
   refine go ?_;intros
   cases h214
   exact f37 ⟨_, _, _, _, _, _, _, _, _, _, _, _, _, _, _, _, _, _, _, _, _, _, pin, aH7⟩
  rintro t o ⟨b157, c158, b159, c160, b161, b162, c163, b164, c165, b166, b167, c168, b169, c170, b171, b172, c173, b174, c175, b176, b177, c178, pq1, pq2⟩
  refine cS7 pq1 pq2 ?_
  refine go ?_;intros
  refine aO7 rfl (fun c => ?_) (fun c => ?_)
  ·replace h212 := itt h212 c
   try rw [c]
   refine go ?_;intros
   cases h212
   replace h : some _ = some _ := h
   cases h
   exact aU7
  replace h212 := itf h212 c
  try rw [c]
  refine go ?_;intros
  refine aO7 rfl (fun c => ?_) (fun c => ?_)
  ·replace h212 := itt h212 c
   try rw [c]
   refine go ?_;intros
   cases h212
   replace h : some _ = some _ := h
   cases h
   exact aU7
  replace h212 := itf h212 c
  try rw [c]
  refine go ?_;intros
  refine aO7 rfl (fun c => ?_) (fun c => ?_)
  ·replace h212 := itt h212 c
   try rw [c]
   refine go ?_;intros
   cases h212
   replace h : some _ = some _ := h
   cases h
   exact aU7
  replace h212 := itf h212 c
  try rw [c]
  refine go ?_;intros
  refine aO7 rfl (fun c => ?_) (fun c => ?_)
  ·replace h212 := itt h212 c
   try rw [c]
   refine go ?_;intros
   cases h212
   replace h : some _ = some _ := h
   cases h
   exact aU7
  replace h212 := itf h212 c
  try rw [c]
  refine go ?_;intros
  cases h212
  exact f37 ⟨_, rfl, _, _, _, _, _, _, _, _, _, _, _, _, _, _, _, _, _, _, _, _, pin, aH7⟩
 rintro t o ⟨q113, rfl, b182, c183, b184, c185, b186, b187, c188, b189, c190, b191, b192, c193, b194, c195, b196, b197, c198, b199, c200, b201, pq1, pq2⟩
 refine cS7 pq1 pq2 ?_
 obtain ⟨x202, h203, h⟩ := bnd h
 refine go ?_;intros
 refine aC7 (c := Bd7) (x2.1, (⟨q9.2.2.2.1, ⟨q9.2.2.2.2, q9.2.1⟩, q9.2.2.1⟩ : Feat), x37.1) H_gk9 h203 fun ch => ?_
 refine go ?_;intros
 cases h
 exact aU7
end Go.Proofs.AM
