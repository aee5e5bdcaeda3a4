/- Lemmas of the proof (THF4), on an abstract machine. Conditions: none. -/
import Derived.Test.YtnnfdbdheoajgabGreatTHD
set_option linter.unusedVariables false
set_option linter.unusedSimpArgs false
set_option maxRecDepth 100000
set_option maxHeartbeats 4000000
namespace Go.Proofs.AM
attribute [local irreducible] vwp cM7 bF7 fN7 vdo i07 mF7 jF7 eX7 mr7 ku7 bJ7 eO7 j37 dN7 jt7 mq7 my7
theorem RT7 : OkC [FL7, FM7, A87, yS7] FN7 Lh7 Li7 := by
 refine ok fun G H ⟨a0, a1, a2⟩ r h => ?_
 refine st1 fun bs t o => ?_
 dsimp only [uG7] at h
 refine gx fun x3 h4 => ?_; intros; rename_i h
 obtain ⟨hf, h⟩ := gd h
 obtain ⟨q212, hq, h⟩ := bnd h
 refine ac7 [] [] (fun K J t o => ∃ b294 c295 b297 c298, PP ((9, .ref 136 b294 c295 0 q212.1.length 100) :: (10, .ref 144 b297 c298 0 q212.2.length 178) :: K) ((136, ent b294 c295 100 (List.map (am7 true) q212.1)) :: (144, ent b297 c298 178 (List.map aM7 q212.2)) :: J) t o) ?_ ?_
 ·refine ay7 (xs := x3) [0, 1, 2, 11] [176] 0 hf (fun K J l222 k220 t o => ∃ v214 v217 b215 c216 b218 c219, d57 a0 a1 a2 l222 k220 v214 v217 = some q212 ∧ PP ((9, .ref 136 b215 c216 0 v214.length 100) :: (10, .ref 144 b218 c219 0 v217.length 178) :: (12, .v (.int .i64 (k220 : Int))) :: K) ((136, ent b215 c216 100 (List.map (am7 true) v214)) :: (144, ent b218 c219 178 (List.map aM7 v217)) :: J) t o) ?_ ?_ ?_
  ·exact ⟨_, _, _, _, _, _, hq, pin, aH7⟩
  ·rintro k220 t o hlt ⟨v214, v217, b215, c216, b218, c219, h, pq⟩
   refine pn pq ?_
   rw [d57] at h
   exact cls
  rintro x221 l222 k220 t o hlt hx226 hw hd ⟨v214, v217, b215, c216, b218, c219, h, pq⟩
  refine pn pq ?_
  rw [d57] at h
  refine gx fun x229 h230 => ?_; intros; rename_i h
  obtain ⟨q242, hq, h⟩ := bnd h
  refine a87 [0, 1, 2, 10, 11, 12, 15] [144, 176, 301] (fun K J t o => ∃ b248 c249, PP ((9, .ref 136 b248 c249 0 q242.length 100) :: K) ((136, ent b248 c249 100 (List.map (am7 true) q242)) :: J) t o) ?_ ?_
  ·have h := hq
   exact cls
  rintro t o ⟨b248, c249, pq⟩
  refine pn pq ?_
  try (refine gx ?_; intros; rename_i h)
  obtain ⟨hf, h⟩ := gd h
  obtain ⟨q272, hq, h⟩ := bnd h
  refine ac7 [0, 1, 2, 9, 11, 12] [136, 176] (fun K J t o => ∃ b291 c292, PP ((10, .ref 144 b291 c292 0 q272.length 178) :: K) ((144, ent b291 c292 178 (List.map aM7 q272)) :: J) t o) ?_ ?_
  ·refine ay7 (xs := x229.2.2) [0, 1, 2, 9, 11, 12, 15] [136, 176, 301] 0 hf (fun K J l279 k277 t o => ∃ v274 b275 c276, d47 x221 l279 k277 v274 = some q272 ∧ PP ((10, .ref 144 b275 c276 0 v274.length 178) :: (16, .v (.int .i64 (k277 : Int))) :: K) ((144, ent b275 c276 178 (List.map aM7 v274)) :: J) t o) ?_ ?_ ?_
   ·exact ⟨_, _, _, hq, pin, aH7⟩
   ·rintro k277 t o hlt ⟨v274, b275, c276, h, pq⟩
    refine pn pq ?_
    rw [d47] at h
    exact cls
   rintro x278 l279 k277 t o hlt hx283 hw hd ⟨v274, b275, c276, h, pq⟩
   refine pn pq ?_
   rw [d47] at h
   exact cls
  rintro t o ⟨b291, c292, pq⟩
  refine pnq pq ?_
  exact cls
 rintro t o ⟨b294, c295, b297, c298, pq⟩
 refine pnq pq ?_
 exact cls
theorem RU7 : OkC [Fw7] FO7 Lj7 Lk7 := by
 refine ok fun G H ⟨a0, a1, a2⟩ r h => ?_
 refine st1 fun bs t o => ?_
 dsimp only [q67] at h
 exact cls
theorem RV7 : OkC [yS7, FN7] FP7 Ll7 Lm7 := by
 refine ok fun G H ⟨a0, a1, a2⟩ r h => ?_
 refine st1 fun bs t o => ?_
 dsimp only [q77] at h
 exact cls
theorem RW7 : OkC [FO7, FP7] FQ7 Ln7 Lo7 := by
 refine ok fun G H ⟨a0, a1, a2⟩ r h => ?_
 refine st1 fun bs t o => ?_
 dsimp only [nS7] at h
 exact cls
theorem RX7 : OkC [yT7, A97] FR7 Lp7 Lq7 := by
 refine ok fun G H ⟨a0, a1, a2⟩ r h => ?_
 refine st1 fun bs t o => ?_
 dsimp only [nT7] at h
 refine gx fun x4 h5 => ?_; intros; rename_i h
 refine cnd h rfl rfl (fun h c => ?_) fun h c => ?_
 ·try rw [c]
  refine gx fun x6 h7 h15 x16 h17 => ?_; intros; rename_i h
  refine bu7 (f := aw7) a0.heads (⟨x16.name, (a0.commits.length : Int)⟩ : bg7) (aq7 h17).2 ?_
  exact cls
 try rw [c]
 refine gx fun x18 h19 => ?_; intros; rename_i h
 refine bu7 (f := aw7) a0.heads (⟨x18.name, x4⟩ : bg7) (aq7 h19).2 ?_
 exact cls
theorem RY7 : OkC [A97] Be7 Lr7 Ls7 := by
 refine ok fun G H a0 r h => ?_
 refine st1 fun bs t o => ?_
 dsimp only [q87] at h
 refine gx fun h6 => ?_; intros; rename_i h
 obtain ⟨hf, h⟩ := gd h
 obtain ⟨q49, hq, h⟩ := bnd h
 refine ac7 [2] [1000256, 1000257, 16] (fun K J t o => ∃ b75 c76 b4 c5 b77, PP ((3, .ptr 24 b77 210 0 0) :: K) ((1000384, ent b75 c76 115 (List.map (af7 true) q49)) :: (1000385, ent b4 c5 130 (List.map aw7 ([] ++ a0.heads))) :: (24, ⟨b77, 1, 210, true, [[.al 1000384 b75 c76 0 q49.length 115, .al 1000385 b4 c5 0 ([] ++ a0.heads).length 130]]⟩) :: J) t o) ?_ ?_
 ·refine ay7 (xs := a0.commits) [1, 2] [8, 1000256, 1000257, 16] 0 hf (fun K J l57 k55 t o => ∃ v51 b52 c53 b4 c5 b54, gF7 l57 k55 v51 = some q49 ∧ PP ((3, .ptr 24 b54 210 0 0) :: (4, .v (.int .i64 (k55 : Int))) :: K) ((1000384, ent b52 c53 115 (List.map (af7 true) v51)) :: (1000385, ent b4 c5 130 (List.map aw7 ([] ++ a0.heads))) :: (24, ⟨b54, 1, 210, true, [[.al 1000384 b52 c53 0 v51.length 115, .al 1000385 b4 c5 0 ([] ++ a0.heads).length 130]]⟩) :: J) t o) ?_ ?_ ?_
  ·exact ⟨_, _, _, _, _, _, hq, pin, aH7⟩
  ·rintro k55 t o hlt ⟨v51, b52, c53, b4, c5, b54, h, pq⟩
   refine pn pq ?_
   rw [gF7] at h
   exact cls
  rintro x56 l57 k55 t o hlt hx61 hw hd ⟨v51, b52, c53, b4, c5, b54, h, pq⟩
  refine pn pq ?_
  rw [gF7] at h
  exact cls
 rintro t o ⟨b75, c76, b4, c5, b77, pq⟩
 refine pnq pq ?_
 exact cls
theorem RZ7 : OkC [Ba7, Bb7] yW7 Lt7 Lu7 := by
 refine ok fun G H ⟨a0, a1, a2⟩ r h => ?_
 refine st1 fun bs t o => ?_
 dsimp only [nU7] at h
 exact cls
theorem R07 : OkC [FQ7, yT7, FR7] Bf7 Lv7 Lw7 := by
 refine ok fun G H ⟨a0, a1, a2, a3, a4⟩ r h => ?_
 refine st1 fun bs t o => ?_
 dsimp only [uH7] at h
 refine gx fun x3 h4 => ?_; intros; rename_i h
 obtain ⟨q9, hq, h⟩ := bnd h
 refine a87 [1, 5, 10, 14, 15] [1000640, 1000641, 40, 1001280, 1001281, 80, 169] (fun K J t o => ∃ b12 c13 b14 c15 b16, PP ((16, .ptr 128 b16 115 0 0) :: K) ((1002048, ent b12 c13 17 (List.map be7 [a2, a3])) :: (1002049, ent b14 c15 100 (List.map (am7 true) x3.1)) :: (128, ⟨b16, 1, 115, true, [[.al 1002048 b12 c13 0 [a2, a3].length 17, .al 1002049 b14 c15 0 x3.1.length 100, .v (.string a4)]]⟩) :: J) t o) ?_ ?_
 ·have h := hq
  exact cls
 rintro t o ⟨b12, c13, b14, c15, b16, pq⟩
 refine pn pq ?_
 exact cls
theorem R17 : OkC [] FS7 Lx7 Ly7 := by
 refine ok fun G H a0 r h => ?_
 refine st1 fun bs t o => ?_
 dsimp only [uI7] at h
 exact cls
theorem R27 : OkC [FS7] FT7 Lz7 LA7 := by
 refine ok fun G H a0 r h => ?_
 refine st1 fun bs t o => ?_
 dsimp only [uJ7] at h
 refine gx fun h3 => ?_; intros; rename_i h
 obtain ⟨hf, h⟩ := gd h
 obtain ⟨q26, hq, h⟩ := bnd h
 refine ac7 [] [] (fun K J t o => ∃ b45 c46, PP ((3, .ref 56 b45 c46 0 q26.length 66) :: K) ((56, ent b45 c46 66 (List.map ePt q26)) :: J) t o) ?_ ?_
 ·refine ay7 (xs := a0) [0] [] 0 hf (fun K J l33 k31 t o => ∃ v28 b29 c30, gG7 l33 k31 v28 = some q26 ∧ PP ((3, .ref 56 b29 c30 0 v28.length 66) :: (4, .v (.int .i64 (k31 : Int))) :: K) ((56, ent b29 c30 66 (List.map ePt v28)) :: J) t o) ?_ ?_ ?_
  ·exact ⟨_, _, _, hq, pin, aH7⟩
  ·rintro k31 t o hlt ⟨v28, b29, c30, h, pq⟩
   refine pn pq ?_
   rw [gG7] at h
   exact cls
  rintro x32 l33 k31 t o hlt hx37 hw hd ⟨v28, b29, c30, h, pq⟩
  refine pn pq ?_
  rw [gG7] at h
  refine gx fun x40 h41 x42 h43 => ?_; intros; rename_i h
  refine bu7 (f := ePt) v28 x40 (aq7 h43).2 ?_
  exact cls
 rintro t o ⟨b45, c46, pq⟩
 refine pnq pq ?_
 exact cls
theorem R37 : OkC [] FU7 LB7 LC7 := by
 refine ok fun G H a0 r h => ?_
 refine st1 fun bs t o => ?_
 dsimp only [uK7] at h
 exact cls
theorem R47 : OkC [FT7] FV7 LD7 LE7 := by
 refine ok fun G H a0 r h => ?_
 refine st1 fun bs t o => ?_
 dsimp only [ra7] at h
 exact cls
theorem R57 : OkC [FU7] FW7 LF7 LG7 := by
 refine ok fun G H a0 r h => ?_
 refine st1 fun bs t o => ?_
 dsimp only [uL7] at h
 refine gx fun h3 => ?_; intros; rename_i h
 obtain ⟨hf, h⟩ := gd h
 obtain ⟨q26, hq, h⟩ := bnd h
 refine ac7 [] [] (fun K J t o => ∃ b45 c46, PP ((3, .ref 56 b45 c46 0 q26.length 82) :: K) ((56, ent b45 c46 82 (List.map aX7 q26)) :: J) t o) ?_ ?_
 ·refine ay7 (xs := a0) [0] [] 0 hf (fun K J l33 k31 t o => ∃ v28 b29 c30, gH7 l33 k31 v28 = some q26 ∧ PP ((3, .ref 56 b29 c30 0 v28.length 82) :: (4, .v (.int .i64 (k31 : Int))) :: K) ((56, ent b29 c30 82 (List.map aX7 v28)) :: J) t o) ?_ ?_ ?_
  ·exact ⟨_, _, _, hq, pin, aH7⟩
  ·rintro k31 t o hlt ⟨v28, b29, c30, h, pq⟩
   refine pn pq ?_
   rw [gH7] at h
   exact cls
  rintro x32 l33 k31 t o hlt hx37 hw hd ⟨v28, b29, c30, h, pq⟩
  refine pn pq ?_
  rw [gH7] at h
  refine gx fun x40 h41 x42 h43 => ?_; intros; rename_i h
  refine bu7 (f := aX7) v28 x40 (aq7 h43).2 ?_
  exact cls
 rintro t o ⟨b45, c46, pq⟩
 refine pnq pq ?_
 exact cls
theorem R67 : OkC [FV7, FW7] FX7 LH7 LI7 := by
 refine ok fun G H a0 r h => ?_
 refine st1 fun bs t o => ?_
 dsimp only [rb7] at h
 try (refine gx ?_; intros; rename_i h)
 obtain ⟨q4, hq, h⟩ := bnd h
 refine a87 [1, 2] [8, 1000258, 1000259, 16] (fun K J t o => ∃ b10 c11 b13, PP ((3, .ptr 24 b13 100 0 0) :: K) ((1000386, ent b10 c11 66 (List.map ePt q4.1)) :: (1000387, ent none 0 82 (List.map aX7 [])) :: (24, ⟨b13, 1, 100, true, [[.v (.string a0.id), .v (.int .i64 q4.2), .al 1000386 b10 c11 0 q4.1.length 66, .al 1000387 none 0 0 ([] : List Tag).length 82]]⟩) :: J) t o) ?_ ?_
 ·have h := hq
  exact cls
 rintro t o ⟨b10, c11, b13, pq⟩
 refine pn pq ?_
 exact cls
theorem R77 : OkC [] FY7 LJ7 LK7 := by
 refine ok fun G H a0 r h => ?_
 refine st1 fun bs t o => ?_
 dsimp only [uM7] at h
 refine gx fun h3 => ?_; intros; rename_i h
 obtain ⟨hf, h⟩ := gd h
 obtain ⟨q20, hq, h⟩ := bnd h
 refine ac7 [] [] (fun K J t o => ∃ b37 c38, PP ((3, .ref 56 b37 c38 0 q20.length 17) :: K) ((56, ent b37 c38 17 (List.map be7 q20)) :: J) t o) ?_ ?_
 ·refine ay7 (xs := a0) [0] [] 0 hf (fun K J l27 k25 t o => ∃ v22 b23 c24, gI7 l27 k25 v22 = some q20 ∧ PP ((3, .ref 56 b23 c24 0 v22.length 17) :: (4, .v (.int .i64 (k25 : Int))) :: K) ((56, ent b23 c24 17 (List.map be7 v22)) :: J) t o) ?_ ?_ ?_
  ·exact ⟨_, _, _, hq, pin, aH7⟩
  ·rintro k25 t o hlt ⟨v22, b23, c24, h, pq⟩
   refine pn pq ?_
   rw [gI7] at h
   exact cls
  rintro x26 l27 k25 t o hlt hx31 hw hd ⟨v22, b23, c24, h, pq⟩
  refine pn pq ?_
  rw [gI7] at h
  refine gx fun x34 h35 => ?_; intros; rename_i h
  refine bu7 (f := be7) v22 x26 (aq7 h35).2 ?_
  exact cls
 rintro t o ⟨b37, c38, pq⟩
 refine pnq pq ?_
 exact cls
theorem R87 : OkC [FX7] FZ7 LL7 LM7 := by
 refine ok fun G H a0 r h => ?_
 refine st1 fun bs t o => ?_
 dsimp only [uN7] at h
 refine gx fun h3 => ?_; intros; rename_i h
 obtain ⟨hf, h⟩ := gd h
 obtain ⟨q38, hq, h⟩ := bnd h
 refine ac7 [] [] (fun K J t o => ∃ b61 c62, PP ((3, .ref 56 b61 c62 0 q38.length 100) :: K) ((56, ent b61 c62 100 (List.map (am7 true) q38)) :: J) t o) ?_ ?_
 ·refine ay7 (xs := a0) [0] [] 0 hf (fun K J l45 k43 t o => ∃ v40 b41 c42, gJ7 l45 k43 v40 = some q38 ∧ PP ((3, .ref 56 b41 c42 0 v40.length 100) :: (4, .v (.int .i64 (k43 : Int))) :: K) ((56, ent b41 c42 100 (List.map (am7 true) v40)) :: J) t o) ?_ ?_ ?_
  ·exact ⟨_, _, _, hq, pin, aH7⟩
  ·rintro k43 t o hlt ⟨v40, b41, c42, h, pq⟩
   refine pn pq ?_
   rw [gJ7] at h
   exact cls
  rintro x44 l45 k43 t o hlt hx49 hw hd ⟨v40, b41, c42, h, pq⟩
  refine pn pq ?_
  rw [gJ7] at h
  refine gx fun x52 h53 x58 h59 => ?_; intros; rename_i h
  refine bu7 (f := (am7 true)) v40 x52 (aq7 h59).2 ?_
  exact cls
 rintro t o ⟨b61, c62, pq⟩
 refine pnq pq ?_
 exact cls
theorem R97 : OkC [FY7, FZ7] F07 LN7 LO7 := by
 refine ok fun G H a0 r h => ?_
 refine st1 fun bs t o => ?_
 dsimp only [rc7] at h
 try (refine gx ?_; intros; rename_i h)
 obtain ⟨q4, hq, h⟩ := bnd h
 refine a87 [1, 2] [8, 1000256, 1000257, 16] (fun K J t o => ∃ b10 c11 b12, PP ((3, .ptr 24 b12 115 0 0) :: K) ((1000384, ent b10 c11 17 (List.map be7 q4)) :: (1000385, ent none 0 100 (List.map (am7 true) [])) :: (24, ⟨b12, 1, 115, true, [[.al 1000384 b10 c11 0 q4.length 17, .al 1000385 none 0 0 ([] : List Feat).length 100, .v (.string (⟨#[]⟩ : Str))]]⟩) :: J) t o) ?_ ?_
 ·have h := hq
  exact cls
 rintro t o ⟨b10, c11, b12, pq⟩
 refine pn pq ?_
 exact cls
theorem Sa7 : OkC [] F17 LP7 LQ7 := by
 refine ok fun G H a0 r h => ?_
 refine st1 fun bs t o => ?_
 dsimp only [uO7] at h
 exact cls
theorem Sb7 : OkC [F07] F27 LR7 LS7 := by
 refine ok fun G H a0 r h => ?_
 refine st1 fun bs t o => ?_
 dsimp only [uP7] at h
 refine gx fun h3 => ?_; intros; rename_i h
 obtain ⟨hf, h⟩ := gd h
 obtain ⟨q38, hq, h⟩ := bnd h
 refine ac7 [] [] (fun K J t o => ∃ b61 c62, PP ((3, .ref 56 b61 c62 0 q38.length 115) :: K) ((56, ent b61 c62 115 (List.map (af7 true) q38)) :: J) t o) ?_ ?_
 ·refine ay7 (xs := a0) [0] [] 0 hf (fun K J l45 k43 t o => ∃ v40 b41 c42, gK7 l45 k43 v40 = some q38 ∧ PP ((3, .ref 56 b41 c42 0 v40.length 115) :: (4, .v (.int .i64 (k43 : Int))) :: K) ((56, ent b41 c42 115 (List.map (af7 true) v40)) :: J) t o) ?_ ?_ ?_
  ·exact ⟨_, _, _, hq, pin, aH7⟩
  ·rintro k43 t o hlt ⟨v40, b41, c42, h, pq⟩
   refine pn pq ?_
   rw [gK7] at h
   exact cls
  rintro x44 l45 k43 t o hlt hx49 hw hd ⟨v40, b41, c42, h, pq⟩
  refine pn pq ?_
  rw [gK7] at h
  refine gx fun x52 h53 x58 h59 => ?_; intros; rename_i h
  refine bu7 (f := (af7 true)) v40 x52 (aq7 h59).2 ?_
  exact cls
 rintro t o ⟨b61, c62, pq⟩
 refine pnq pq ?_
 exact cls
theorem Sc7 : OkC [F17] F37 LT7 LU7 := by
 refine ok fun G H a0 r h => ?_
 refine st1 fun bs t o => ?_
 dsimp only [uQ7] at h
 refine gx fun h3 => ?_; intros; rename_i h
 obtain ⟨hf, h⟩ := gd h
 obtain ⟨q26, hq, h⟩ := bnd h
 refine ac7 [] [] (fun K J t o => ∃ b45 c46, PP ((3, .ref 56 b45 c46 0 q26.length 130) :: K) ((56, ent b45 c46 130 (List.map aw7 q26)) :: J) t o) ?_ ?_
 ·refine ay7 (xs := a0) [0] [] 0 hf (fun K J l33 k31 t o => ∃ v28 b29 c30, gL7 l33 k31 v28 = some q26 ∧ PP ((3, .ref 56 b29 c30 0 v28.length 130) :: (4, .v (.int .i64 (k31 : Int))) :: K) ((56, ent b29 c30 130 (List.map aw7 v28)) :: J) t o) ?_ ?_ ?_
  ·exact ⟨_, _, _, hq, pin, aH7⟩
  ·rintro k31 t o hlt ⟨v28, b29, c30, h, pq⟩
   refine pn pq ?_
   rw [gL7] at h
   exact cls
  rintro x32 l33 k31 t o hlt hx37 hw hd ⟨v28, b29, c30, h, pq⟩
  refine pn pq ?_
  rw [gL7] at h
  refine gx fun x40 h41 x42 h43 => ?_; intros; rename_i h
  refine bu7 (f := aw7) v28 x40 (aq7 h43).2 ?_
  exact cls
 rintro t o ⟨b45, c46, pq⟩
 refine pnq pq ?_
 exact cls
theorem Sd7 : OkC [] ta7 LV7 LW7 := by
 refine ok fun G H ⟨a0, a1, a2⟩ r h => ?_
 refine st1 fun bs t o => ?_
 dsimp only [d67] at h
 exact cls
theorem Se7 : OkC [ta7] F47 LX7 LY7 := by
 refine ok fun G H a0 r h => ?_
 refine st1 fun bs t o => ?_
 dsimp only [rd7] at h
 exact cls
theorem Sf7 : OkC [ta7] yX7 LZ7 L07 := by
 refine ok fun G H a0 r h => ?_
 refine st1 fun bs t o => ?_
 dsimp only [hd7] at h
 try (refine gx ?_; intros; rename_i h)
 obtain ⟨hf, h⟩ := gd h
 obtain ⟨q8, hq, h⟩ := bnd h
 refine ac7 [0] [] (fun K J t o => ∃ q8_, q8 = .inr q8_ ∧ PP K J t o) ?_ ?_
 ·have ho1 := h
  refine ET7 (xs := a0) [0, 5] [] 0 hf (fun K J l12 k10 t o => fi7 l12 k10  = some q8 ∧ PP ((6, .v (.int .i64 (k10 : Int))) :: K) J t o) ?_ ?_ ?_
  ·exact ⟨hq, pin, aH7⟩
  ·rintro k10 t o hlt ⟨h, pq⟩
   refine pn pq ?_
   rw [fi7] at h
   exact cls
  rintro x11 l12 k10 t o hlt hx16 hw hd ⟨h, pq⟩
  refine pn pq ?_
  rw [fi7] at h
  exact cls
 rintro t o ⟨q8, rfl, pq⟩
 refine pnq pq ?_
 exact cls
theorem Sg7 : OkC [F47, ta7] Bg7 L17 L27 := by
 refine ok fun G H a0 r h => ?_
 refine st1 fun bs t o => ?_
 dsimp only [lC7] at h
 try (refine gx ?_; intros; rename_i h)
 obtain ⟨hf, h⟩ := gd h
 obtain ⟨q22, hq, h⟩ := bnd h
 refine ac7 [1] [8] (fun K J t o => ∃ q22_, q22 = .inr q22_ ∧ PP K J t o) ?_ ?_
 ·have ho1 := h
  refine ay7 (xs := a0.pts) [1, 7, 8] [8] 0 hf (fun K J l26 k24 t o => d77 a0 l26 k24  = some q22 ∧ PP ((9, .v (.int .i64 (k24 : Int))) :: K) J t o) ?_ ?_ ?_
  ·exact ⟨hq, pin, aH7⟩
  ·rintro k24 t o hlt ⟨h, pq⟩
   refine pn pq ?_
   rw [d77] at h
   exact cls
  rintro x25 l26 k24 t o hlt hx30 hw hd ⟨h, pq⟩
  refine pn pq ?_
  rw [d77] at h
  exact cls
 rintro t o ⟨q22, rfl, pq⟩
 refine pnq pq ?_
 exact cls
theorem Sh7 : OkC [yX7, Bg7] Bh7 L37 L47 := by
 refine ok fun G H a0 r h => ?_
 refine st1 fun bs t o => ?_
 dsimp only [he7] at h
 try (refine gx ?_; intros; rename_i h)
 obtain ⟨hf, h⟩ := gd h
 obtain ⟨q28, hq, h⟩ := bnd h
 refine ac7 [1] [8] (fun K J t o => ∃ q28_, q28 = .inr q28_ ∧ PP K J t o) ?_ ?_
 ·have ho1 := h
  refine ay7 (xs := a0.tags) [1, 6, 7] [8] 0 hf (fun K J l32 k30 t o => d87 a0 l32 k30  = some q28 ∧ PP ((8, .v (.int .i64 (k30 : Int))) :: K) J t o) ?_ ?_ ?_
  ·exact ⟨hq, pin, aH7⟩
  ·rintro k30 t o hlt ⟨h, pq⟩
   refine pn pq ?_
   rw [d87] at h
   exact cls
  rintro x31 l32 k30 t o hlt hx36 hw hd ⟨h, pq⟩
  refine pn pq ?_
  rw [d87] at h
  exact cls
 rintro t o ⟨q28, rfl, pq⟩
 refine pnq pq ?_
 exact cls
theorem Si7 : OkC [] Bi7 L57 L67 := by
 refine ok fun G H ⟨a0, a1⟩ r h => ?_
 refine st1 fun bs t o => ?_
 dsimp only [eF7] at h
 try (refine gx ?_; intros; rename_i h)
 obtain ⟨hf, h⟩ := gd h
 obtain ⟨q14, hq, h⟩ := bnd h
 refine ac7 [] [] (fun K J t o => ∃ q14_, q14 = .inr q14_ ∧ PP K J t o) ?_ ?_
 ·have ho1 := h
  refine ay7 (xs := a0) [0, 1, 12] [] 0 hf (fun K J l18 k16 t o => fj7 a1 l18 k16  = some q14 ∧ PP ((13, .v (.int .i64 (k16 : Int))) :: K) J t o) ?_ ?_ ?_
  ·exact ⟨hq, pin, aH7⟩
  ·rintro k16 t o hlt ⟨h, pq⟩
   refine pn pq ?_
   rw [fj7] at h
   exact cls
  rintro x17 l18 k16 t o hlt hx22 hw hd ⟨h, pq⟩
  refine pn pq ?_
  rw [fj7] at h
  exact cls
 rintro t o ⟨q14, rfl, pq⟩
 refine pnq pq ?_
 exact cls
theorem Sj7 : OkC [Bi7] tb7 L77 L87 := by
 refine ok fun G H ⟨a0, a1⟩ r h => ?_
 refine st1 fun bs t o => ?_
 dsimp only [jP7] at h
 exact cls
theorem Sk7 : OkC [] F57 L97 Ma7 := by
 refine ok fun G H ⟨a0, a1⟩ r h => ?_
 refine st1 fun bs t o => ?_
 dsimp only [uR7] at h
 try (refine gx ?_; intros; rename_i h)
 obtain ⟨hf, h⟩ := gd h
 obtain ⟨q14, hq, h⟩ := bnd h
 refine ac7 [] [] (fun K J t o => ∃ q14_, q14 = .inr q14_ ∧ PP K J t o) ?_ ?_
 ·have ho1 := h
  refine ay7 (xs := a0) [0, 1, 12] [] 0 hf (fun K J l18 k16 t o => fk7 a1 l18 k16  = some q14 ∧ PP ((13, .v (.int .i64 (k16 : Int))) :: K) J t o) ?_ ?_ ?_
  ·exact ⟨hq, pin, aH7⟩
  ·rintro k16 t o hlt ⟨h, pq⟩
   refine pn pq ?_
   rw [fk7] at h
   exact cls
  rintro x17 l18 k16 t o hlt hx22 hw hd ⟨h, pq⟩
  refine pn pq ?_
  rw [fk7] at h
  exact cls
 rintro t o ⟨q14, rfl, pq⟩
 refine pnq pq ?_
 exact cls
theorem Sl7 : OkC [tb7, F57] yY7 Mb7 Mc7 := by
 refine ok fun G H ⟨a0, a1⟩ r h => ?_
 refine st1 fun bs t o => ?_
 dsimp only [nV7] at h
 exact cls
theorem Sm7 : OkC [yY7] F67 Md7 Me7 := by
 refine ok fun G H ⟨a0, a1⟩ r h => ?_
 have H_ad9 := H _ (.head _)
 replace H := jJ7 0 H
 refine st1 fun bs t o => ?_
 dsimp only [uS7] at h
 try (refine gx ?_; intros; rename_i h)
 obtain ⟨hf, h⟩ := gd h
 obtain ⟨q26, hq, h⟩ := bnd h
 refine ac7 [] [] (fun K J t o => ∃ q26_, q26 = .inr q26_ ∧ PP K J t o) ?_ ?_
 ·have ho1 := h
  refine ay7 (xs := a0) [1, 2, 15, 16] [] 0 hf (fun K J l30 k28 t o => fl7 a1 l30 k28  = some q26 ∧ PP ((17, .v (.int .i64 (k28 : Int))) :: K) J t o) ?_ ?_ ?_
  ·exact ⟨hq, pin, aH7⟩
  ·rintro k28 t o hlt ⟨h, pq⟩
   refine pn pq ?_
   rw [fl7] at h
   exact cls
  rintro x29 l30 k28 t o hlt hx34 hw hd ⟨h, pq⟩
  refine pn pq ?_
  rw [fl7] at h
  refine gx fun x38 h39 => ?_; intros; rename_i h
  obtain ⟨x41, h42, h⟩ := bnd h
  refine bm7 (c := yY7) (x29, x38) H_ad9 h42 fun ch => ?_
  exact cls
 rintro t o ⟨q26, rfl, pq⟩
 refine pnq pq ?_
 exact cls
theorem Sn7 : OkC [F67] F77 Mf7 Mg7 := by
 refine ok fun G H ⟨a0, a1⟩ r h => ?_
 refine st1 fun bs t o => ?_
 dsimp only [re7] at h
 exact cls
theorem So7 : OkC [] F87 Mh7 Mi7 := by
 refine ok fun G H ⟨a0, a1⟩ r h => ?_
 refine st1 fun bs t o => ?_
 dsimp only [uT7] at h
 try (refine gx ?_; intros; rename_i h)
 obtain ⟨hf, h⟩ := gd h
 obtain ⟨q14, hq, h⟩ := bnd h
 refine ac7 [] [] (fun K J t o => ∃ q14_, q14 = .inr q14_ ∧ PP K J t o) ?_ ?_
 ·have ho1 := h
  refine ay7 (xs := a0) [0, 1, 12] [] 0 hf (fun K J l18 k16 t o => fm7 a1 l18 k16  = some q14 ∧ PP ((13, .v (.int .i64 (k16 : Int))) :: K) J t o) ?_ ?_ ?_
  ·exact ⟨hq, pin, aH7⟩
  ·rintro k16 t o hlt ⟨h, pq⟩
   refine pn pq ?_
   rw [fm7] at h
   exact cls
  rintro x17 l18 k16 t o hlt hx22 hw hd ⟨h, pq⟩
  refine pn pq ?_
  rw [fm7] at h
  exact cls
 rintro t o ⟨q14, rfl, pq⟩
 refine pnq pq ?_
 exact cls
theorem Sp7 : OkC [F87, F77] F97 Mj7 Mk7 := by
 refine ok fun G H ⟨a0, a1⟩ r h => ?_
 refine st1 fun bs t o => ?_
 dsimp only [rf7] at h
 exact cls
theorem Sq7 : OkC [] Ga7 Ml7 Mm7 := by
 refine ok fun G H ⟨a0, a1⟩ r h => ?_
 refine st1 fun bs t o => ?_
 dsimp only [rg7] at h
 try (refine gx ?_; intros; rename_i h)
 obtain ⟨hf, h⟩ := gd h
 obtain ⟨q8, hq, h⟩ := bnd h
 refine ac7 [] [] (fun K J t o => ∃ q8_, q8 = .inr q8_ ∧ PP K J t o) ?_ ?_
 ·have ho1 := h
  refine ay7 (xs := a0) [0, 1, 7] [] 0 hf (fun K J l12 k10 t o => fn7 a1 l12 k10  = some q8 ∧ PP ((8, .v (.int .i64 (k10 : Int))) :: K) J t o) ?_ ?_ ?_
  ·exact ⟨hq, pin, aH7⟩
  ·rintro k10 t o hlt ⟨h, pq⟩
   refine pn pq ?_
   rw [fn7] at h
   exact cls
  rintro x11 l12 k10 t o hlt hx16 hw hd ⟨h, pq⟩
  refine pn pq ?_
  rw [fn7] at h
  exact cls
 rintro t o ⟨q8, rfl, pq⟩
 refine pnq pq ?_
 exact cls
theorem Sr7 : OkC [Bh7] Bj7 Mn7 Mo7 := by
 refine ok fun G H a0 r h => ?_
 refine st1 fun bs t o => ?_
 dsimp only [ic7] at h
 try (refine gx ?_; intros; rename_i h)
 obtain ⟨hf, h⟩ := gd h
 obtain ⟨q21, hq, h⟩ := bnd h
 refine ac7 [0] [] (fun K J t o => ∃ q21_, q21 = .inr q21_ ∧ PP K J t o) ?_ ?_
 ·have ho1 := h
  refine ay7 (xs := a0) [0, 5, 6] [] 0 hf (fun K J l25 k23 t o => d97 a0 l25 k23  = some q21 ∧ PP ((7, .v (.int .i64 (k23 : Int))) :: K) J t o) ?_ ?_ ?_
  ·exact ⟨hq, pin, aH7⟩
  ·rintro k23 t o hlt ⟨h, pq⟩
   refine pn pq ?_
   rw [d97] at h
   exact cls
  rintro x24 l25 k23 t o hlt hx29 hw hd ⟨h, pq⟩
  refine pn pq ?_
  rw [d97] at h
  exact cls
 rintro t o ⟨q21, rfl, pq⟩
 refine pnq pq ?_
 exact cls
theorem Ss7 : OkC [F97] Bk7 Mp7 Mq7 := by
 refine ok fun G H ⟨a0, a1⟩ r h => ?_
 refine st1 fun bs t o => ?_
 dsimp only [uU7] at h
 exact cls
theorem St7 : OkC [Bk7] Gb7 Mr7 Ms7 := by
 refine ok fun G H ⟨a0, a1⟩ r h => ?_
 have H_an9 := H _ (.head _)
 replace H := jJ7 0 H
 refine st1 fun bs t o => ?_
 dsimp only [rh7] at h
 try (refine gx ?_; intros; rename_i h)
 obtain ⟨hf, h⟩ := gd h
 obtain ⟨q14, hq, h⟩ := bnd h
 refine ac7 [] [] (fun K J t o => ∃ q14_, q14 = .inr q14_ ∧ PP K J t o) ?_ ?_
 ·have ho1 := h
  refine ay7 (xs := a0) [0, 1, 7] [] 0 hf (fun K J l18 k16 t o => fo7 a1 l18 k16  = some q14 ∧ PP ((8, .v (.int .i64 (k16 : Int))) :: K) J t o) ?_ ?_ ?_
  ·exact ⟨hq, pin, aH7⟩
  ·rintro k16 t o hlt ⟨h, pq⟩
   refine pn pq ?_
   rw [fo7] at h
   exact cls
  rintro x17 l18 k16 t o hlt hx22 hw hd ⟨h, pq⟩
  refine pn pq ?_
  rw [fo7] at h
  try (refine gx ?_; intros; rename_i h)
  obtain ⟨x25, h26, h⟩ := bnd h
  refine bm7 (c := Bk7) (x17, a1) H_an9 h26 fun ch => ?_
  exact cls
 rintro t o ⟨q14, rfl, pq⟩
 refine pnq pq ?_
 exact cls
theorem Su7 : OkC [Gb7] Bl7 Mt7 Mu7 := by
 refine ok fun G H ⟨a0, a1⟩ r h => ?_
 refine st1 fun bs t o => ?_
 dsimp only [nW7] at h
 exact cls
theorem Sv7 : OkC [Ga7] Gc7 Mv7 Mw7 := by
 refine ok fun G H ⟨a0, a1⟩ r h => ?_
 refine st1 fun bs t o => ?_
 dsimp only [lD7] at h
 exact cls
theorem Sw7 : OkC [] Bm7 Mx7 My7 := by
 refine ok fun G H ⟨a0, a1⟩ r h => ?_
 refine st1 fun bs t o => ?_
 dsimp only [uV7] at h
 exact cls
end Go.Proofs.AM
