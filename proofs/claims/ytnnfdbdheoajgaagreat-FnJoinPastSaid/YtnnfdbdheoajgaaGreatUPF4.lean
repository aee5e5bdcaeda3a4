/- Lemmas of the proof (UPF4), on an abstract machine. Conditions: none. -/
import Derived.Test.YtnnfdbdheoajgaaGreatUPD
set_option linter.unusedVariables false
set_option linter.unusedSimpArgs false
set_option maxRecDepth 100000
set_option maxHeartbeats 4000000
namespace Go.Proofs.AM
attribute [local irreducible] vwp cX7 bF7 f77 vdo ja7 mN7 jQ7 fj7 mB7 kC7 bI7 fa7 kj7 eY7 jE7 kS7 kR7
theorem OC7 : OkC [En7] Eo7 Jf7 Jg7 := by
 refine ok fun G H ⟨a0, a1⟩ r h => ?_
 refine st1 fun bs t o => ?_
 dsimp only [qY7] at h
 exact cls
theorem OD7 : OkC [] Ep7 Jh7 Ji7 := by
 refine ok fun G H ⟨a0, a1⟩ r h => ?_
 refine st1 fun bs t o => ?_
 dsimp only [uf7] at h
 try (refine gx ?_; intros; rename_i h)
 obtain ⟨hf, h⟩ := gd h
 obtain ⟨q14, hq, h⟩ := bnd h
 refine ae7 [] [] (fun K J t o => ∃ q14_, q14 = .inr q14_ ∧ PP K J t o) ?_ ?_
 ·have ho1 := h
  refine aQ7 (xs := a0) [0, 1, 12] [] 0 hf (fun K J l18 k16 t o => fH7 a1 l18 k16  = some q14 ∧ PP ((13, .v (.int .i64 (k16 : Int))) :: K) J t o) ?_ ?_ ?_
  ·exact ⟨hq, pin, aF7⟩
  ·rintro k16 t o hlt ⟨h, pq⟩
   refine pn pq ?_
   rw [fH7] at h
   exact cls
  rintro x17 l18 k16 t o hlt hx22 hw hd ⟨h, pq⟩
  refine pn pq ?_
  rw [fH7] at h
  exact cls
 rintro t o ⟨q14, rfl, pq⟩
 refine pnq pq ?_
 exact cls
theorem OE7 : OkC [Ep7, Eo7] xY7 Jj7 Jk7 := by
 refine ok fun G H ⟨a0, a1⟩ r h => ?_
 refine st1 fun bs t o => ?_
 dsimp only [nS7] at h
 exact cls
theorem OF7 : OkC [] Eq7 Jl7 Jm7 := by
 refine ok fun G H ⟨a0, a1⟩ r h => ?_
 refine st1 fun bs t o => ?_
 dsimp only [qZ7] at h
 try (refine gx ?_; intros; rename_i h)
 obtain ⟨hf, h⟩ := gd h
 obtain ⟨q8, hq, h⟩ := bnd h
 refine ae7 [] [] (fun K J t o => ∃ q8_, q8 = .inr q8_ ∧ PP K J t o) ?_ ?_
 ·have ho1 := h
  refine aQ7 (xs := a0) [0, 1, 7] [] 0 hf (fun K J l12 k10 t o => fI7 a1 l12 k10  = some q8 ∧ PP ((8, .v (.int .i64 (k10 : Int))) :: K) J t o) ?_ ?_ ?_
  ·exact ⟨hq, pin, aF7⟩
  ·rintro k10 t o hlt ⟨h, pq⟩
   refine pn pq ?_
   rw [fI7] at h
   exact cls
  rintro x11 l12 k10 t o hlt hx16 hw hd ⟨h, pq⟩
  refine pn pq ?_
  rw [fI7] at h
  exact cls
 rintro t o ⟨q8, rfl, pq⟩
 refine pnq pq ?_
 exact cls
theorem OG7 : OkC [Ae7] Ag7 Jn7 Jo7 := by
 refine ok fun G H a0 r h => ?_
 refine st1 fun bs t o => ?_
 dsimp only [is7] at h
 try (refine gx ?_; intros; rename_i h)
 obtain ⟨hf, h⟩ := gd h
 obtain ⟨q21, hq, h⟩ := bnd h
 refine ae7 [0] [] (fun K J t o => ∃ q21_, q21 = .inr q21_ ∧ PP K J t o) ?_ ?_
 ·have ho1 := h
  refine aQ7 (xs := a0) [0, 5, 6] [] 0 hf (fun K J l25 k23 t o => ep7 a0 l25 k23  = some q21 ∧ PP ((7, .v (.int .i64 (k23 : Int))) :: K) J t o) ?_ ?_ ?_
  ·exact ⟨hq, pin, aF7⟩
  ·rintro k23 t o hlt ⟨h, pq⟩
   refine pn pq ?_
   rw [ep7] at h
   exact cls
  rintro x24 l25 k23 t o hlt hx29 hw hd ⟨h, pq⟩
  refine pn pq ?_
  rw [ep7] at h
  exact cls
 rintro t o ⟨q21, rfl, pq⟩
 refine pnq pq ?_
 exact cls
theorem OH7 : OkC [xY7] Ah7 Jp7 Jq7 := by
 refine ok fun G H ⟨a0, a1⟩ r h => ?_
 refine st1 fun bs t o => ?_
 dsimp only [ug7] at h
 exact cls
theorem OI7 : OkC [Ah7] Er7 Jr7 Js7 := by
 refine ok fun G H ⟨a0, a1⟩ r h => ?_
 have H_aq9 := H _ (.head _)
 replace H := mQ7 0 H
 refine st1 fun bs t o => ?_
 dsimp only [q07] at h
 try (refine gx ?_; intros; rename_i h)
 obtain ⟨hf, h⟩ := gd h
 obtain ⟨q14, hq, h⟩ := bnd h
 refine ae7 [] [] (fun K J t o => ∃ q14_, q14 = .inr q14_ ∧ PP K J t o) ?_ ?_
 ·have ho1 := h
  refine aQ7 (xs := a0) [0, 1, 7] [] 0 hf (fun K J l18 k16 t o => fJ7 a1 l18 k16  = some q14 ∧ PP ((8, .v (.int .i64 (k16 : Int))) :: K) J t o) ?_ ?_ ?_
  ·exact ⟨hq, pin, aF7⟩
  ·rintro k16 t o hlt ⟨h, pq⟩
   refine pn pq ?_
   rw [fJ7] at h
   exact cls
  rintro x17 l18 k16 t o hlt hx22 hw hd ⟨h, pq⟩
  refine pn pq ?_
  rw [fJ7] at h
  try (refine gx ?_; intros; rename_i h)
  obtain ⟨x25, h26, h⟩ := bnd h
  refine bD7 (c := Ah7) (x17, a1) H_aq9 h26 fun ch => ?_
  exact cls
 rintro t o ⟨q14, rfl, pq⟩
 refine pnq pq ?_
 exact cls
theorem OJ7 : OkC [Er7] Ai7 Jt7 Ju7 := by
 refine ok fun G H ⟨a0, a1⟩ r h => ?_
 refine st1 fun bs t o => ?_
 dsimp only [nT7] at h
 exact cls
theorem OK7 : OkC [Eq7] Es7 Jv7 Jw7 := by
 refine ok fun G H ⟨a0, a1⟩ r h => ?_
 refine st1 fun bs t o => ?_
 dsimp only [lM7] at h
 exact cls
theorem OL7 : OkC [] Aj7 Jx7 Jy7 := by
 refine ok fun G H ⟨a0, a1⟩ r h => ?_
 refine st1 fun bs t o => ?_
 dsimp only [uh7] at h
 exact cls
theorem OM7 : OkC [Aj7] Et7 Jz7 JA7 := by
 refine ok fun G H ⟨a0, a1⟩ r h => ?_
 have H_as9 := H _ (.head _)
 replace H := mQ7 0 H
 refine st1 fun bs t o => ?_
 dsimp only [q17] at h
 try (refine gx ?_; intros; rename_i h)
 obtain ⟨hf, h⟩ := gd h
 obtain ⟨q14, hq, h⟩ := bnd h
 refine ae7 [] [] (fun K J t o => ∃ q14_, q14 = .inr q14_ ∧ PP K J t o) ?_ ?_
 ·have ho1 := h
  refine aQ7 (xs := a0) [0, 1, 7] [] 0 hf (fun K J l18 k16 t o => fK7 a1 l18 k16  = some q14 ∧ PP ((8, .v (.int .i64 (k16 : Int))) :: K) J t o) ?_ ?_ ?_
  ·exact ⟨hq, pin, aF7⟩
  ·rintro k16 t o hlt ⟨h, pq⟩
   refine pn pq ?_
   rw [fK7] at h
   exact cls
  rintro x17 l18 k16 t o hlt hx22 hw hd ⟨h, pq⟩
  refine pn pq ?_
  rw [fK7] at h
  try (refine gx ?_; intros; rename_i h)
  obtain ⟨x25, h26, h⟩ := bnd h
  refine bD7 (c := Aj7) (x17, a1) H_as9 h26 fun ch => ?_
  exact cls
 rintro t o ⟨q14, rfl, pq⟩
 refine pnq pq ?_
 exact cls
theorem ON7 : OkC [Et7] xZ7 JB7 JC7 := by
 refine ok fun G H ⟨a0, a1⟩ r h => ?_
 refine st1 fun bs t o => ?_
 dsimp only [j37] at h
 exact cls
theorem OO7 : OkC [sS7] x07 JD7 JE7 := by
 refine ok fun G H ⟨a0, a1⟩ r h => ?_
 refine st1 fun bs t o => ?_
 dsimp only [it7] at h
 exact cls
theorem OP7 : OkC [] Ak7 JF7 JG7 := by
 refine ok fun G H a0 r h => ?_
 refine st1 fun bs t o => ?_
 dsimp only [lN7] at h
 exact cls
theorem OQ7 : OkC [Ak7] vD7 JH7 JI7 := by
 refine ok fun G H a0 r h => ?_
 refine st1 fun bs t o => ?_
 dsimp only [j47] at h
 exact cls
theorem OR7 : OkC [vD7] Eu7 JJ7 JK7 := by
 refine ok fun G H a0 r h => ?_
 refine st1 fun bs t o => ?_
 dsimp only [q27] at h
 try (refine gx ?_; intros; rename_i h)
 obtain ⟨hf, h⟩ := gd h
 obtain ⟨q45, hq, h⟩ := bnd h
 refine ae7 [] [] (fun K J t o => ∃ b71 c72, PP ((3, .ref 48 b71 c72 0 q45.length 100) :: K) ((48, ent b71 c72 100 (List.map (ak7 true) q45)) :: J) t o) ?_ ?_
 ·refine aQ7 (xs := a0) [7, 8] [] 0 hf (fun K J l52 k50 t o => ∃ v47 b48 c49, gS7 l52 k50 v47 = some q45 ∧ PP ((3, .ref 48 b48 c49 0 v47.length 100) :: (9, .v (.int .i64 (k50 : Int))) :: K) ((48, ent b48 c49 100 (List.map (ak7 true) v47)) :: J) t o) ?_ ?_ ?_
  ·exact ⟨_, _, _, hq, pin, aF7⟩
  ·rintro k50 t o hlt ⟨v47, b48, c49, h, pq⟩
   refine pn pq ?_
   rw [gS7] at h
   exact cls
  rintro x51 l52 k50 t o hlt hx56 hw hd ⟨v47, b48, c49, h, pq⟩
  refine pn pq ?_
  rw [gS7] at h
  exact cls
 rintro t o ⟨b71, c72, pq⟩
 refine pnq pq ?_
 exact cls
theorem OS7 : OkC [Eu7] Al7 JL7 JM7 := by
 refine ok fun G H a0 r h => ?_
 refine st1 fun bs t o => ?_
 dsimp only [nU7] at h
 exact cls
theorem OT7 : OkC [sS7, Ag7, xW7, Ai7, Es7, xZ7, x07] vE7 JN7 JO7 := by
 refine ok fun G H a0 r h => ?_
 refine st1 fun bs t o => ?_
 dsimp only [j57] at h
 refine gx fun x2 h3 x4 h5 => ?_; intros; rename_i h
 obtain ⟨hf, h⟩ := gd h
 obtain ⟨q160, hq, h⟩ := bnd h
 refine ae7 [1] [8] (fun K J t o => ∃ q160_, q160 = .inr q160_ ∧ PP K J t o) ?_ ?_
 ·have ho1 := h
  refine aQ7 (xs := a0.commits) [1, 22, 23] [8] 0 hf (fun K J l164 k162 t o => er7 a0 l164 k162  = some q160 ∧ PP ((24, .v (.int .i64 (k162 : Int))) :: K) J t o) ?_ ?_ ?_
  ·exact ⟨hq, pin, aF7⟩
  ·rintro k162 t o hlt ⟨h, pq⟩
   refine pn pq ?_
   rw [er7] at h
   exact cls
  rintro x163 l164 k162 t o hlt hx168 hw hd ⟨h, pq⟩
  refine pn pq ?_
  rw [er7] at h
  refine gx fun x172 h173 x174 h175 x176 h177 => ?_; intros; rename_i h
  obtain ⟨hf, h⟩ := gd h
  obtain ⟨q203, hq, h⟩ := bnd h
  refine ae7 [1, 22, 23, 24, 34, 35, 36, 37, 40, 41, 42, 43, 44, 47, 48, 49, 50, 51, 52, 53, 56, 57, 58, 59] [8, 32] (fun K J t o => ∃ q203_, q203 = .inr q203_ ∧ PP K J t o) ?_ ?_
  ·have ho2 := h
   refine aQ7 (xs := x163.up) [1, 3, 4, 22, 23, 24, 34, 35, 36, 37, 40, 41, 42, 43, 44, 47, 48, 49, 50, 51, 52, 53, 56, 57, 58, 59, 62, 63] [8, 32] 0 hf (fun K J l207 k205 t o => eq7 k162 x163 l207 k205  = some q203 ∧ PP ((64, .v (.int .i64 (k205 : Int))) :: K) J t o) ?_ ?_ ?_
   ·exact ⟨hq, pin, aF7⟩
   ·rintro k205 t o hlt ⟨h, pq⟩
    refine pn pq ?_
    rw [eq7] at h
    exact cls
   rintro x206 l207 k205 t o hlt hx211 hw hd ⟨h, pq⟩
   refine pn pq ?_
   rw [eq7] at h
   exact cls
  rintro t o ⟨q203, rfl, pq⟩
  refine pnq pq ?_
  exact cls
 rintro t o ⟨q160, rfl, pq⟩
 refine pnq pq ?_
 try (refine gx ?_; intros; rename_i h)
 obtain ⟨hf, h⟩ := gd h
 obtain ⟨q248, hq, h⟩ := bnd h
 refine ae7 [] [] (fun K J t o => ∃ q248_, q248 = .inr q248_ ∧ PP K J t o) ?_ ?_
 ·have ho1 := h
  refine aQ7 (xs := a0.heads) [1, 85, 86] [8] 0 hf (fun K J l252 k250 t o => es7 a0 l252 k250  = some q248 ∧ PP ((87, .v (.int .i64 (k250 : Int))) :: K) J t o) ?_ ?_ ?_
  ·exact ⟨hq, pin, aF7⟩
  ·rintro k250 t o hlt ⟨h, pq⟩
   refine pn pq ?_
   rw [es7] at h
   exact cls
  rintro x251 l252 k250 t o hlt hx256 hw hd ⟨h, pq⟩
  refine pn pq ?_
  rw [es7] at h
  exact cls
 rintro t o ⟨q248, rfl, pq⟩
 refine pnq pq ?_
 exact cls
theorem OU7 : OkC [] vF7 JP7 JQ7 := by
 refine ok fun G H ⟨a0, a1⟩ r h => ?_
 refine st1 fun bs t o => ?_
 dsimp only [hk7] at h
 refine gx fun h4 x5 h6 => ?_; intros; rename_i h
 refine cI7 (f := bH7) (List.replicate ((a0.commits.length : Int)).toNat false) true (aL7 h6).2 ?_
 try (refine gx ?_; intros; rename_i h)
 obtain ⟨q128, hq, h⟩ := bnd h
 refine ae7 [] [] (fun K J t o => ∃ b174 c175, PP ((5, .ref 96 b174 c175 0 q128.length 33) :: K) ((96, ent b174 c175 33 (List.map bH7 q128)) :: J) t o) ?_ ?_
 ·refine dz7 [2] [16] (fun K J n133 t o => ∃ v129 v130 b131 c132, et7 a0 n133 v129 v130 = some q128 ∧ PP ((5, .ref 96 b131 c132 0 v130.length 33) :: (6, .v (.int .i64 v129)) :: K) ((96, ent b131 c132 33 (List.map bH7 v130)) :: J) t o) ?_ ?_
  ·exact ⟨_, _, _, _, hq, pin, aF7⟩
  rintro n133 t o ⟨v129, v130, b131, c132, h, pq⟩
  refine pn pq ?_
  cases n133 with
  | zero => rw [et7] at h; cases h
  | succ n133 =>
   rw [et7] at h
   refine gx fun x134 h135 x136 h137 => ?_; intros; rename_i h
   obtain ⟨hf, h⟩ := gd h
   obtain ⟨q154, hq, h⟩ := bnd h
   refine ae7 [2, 6] [16] (fun K J t o => ∃ b171 c172, PP ((5, .ref 96 b171 c172 0 q154.length 33) :: K) ((96, ent b171 c172 33 (List.map bH7 q154)) :: J) t o) ?_ ?_
   ·refine aQ7 (xs := x136.up) [2, 6, 30, 31] [16] 0 hf (fun K J l161 k159 t o => ∃ v156 b157 c158, fL7 l161 k159 v156 = some q154 ∧ PP ((5, .ref 96 b157 c158 0 v156.length 33) :: (32, .v (.int .i64 (k159 : Int))) :: K) ((96, ent b157 c158 33 (List.map bH7 v156)) :: J) t o) ?_ ?_ ?_
    ·exact ⟨_, _, _, hq, pin, aF7⟩
    ·rintro k159 t o hlt ⟨v156, b157, c158, h, pq⟩
     refine pn pq ?_
     rw [fL7] at h
     exact cls
    rintro x160 l161 k159 t o hlt hx165 hw hd ⟨v156, b157, c158, h, pq⟩
    refine pn pq ?_
    rw [fL7] at h
    refine gx fun x168 h169 => ?_; intros; rename_i h
    refine cI7 (f := bH7) v156 true (aL7 h169).2 ?_
    exact cls
   rintro t o ⟨b171, c172, pq⟩
   refine pnq pq ?_
   exact cls
 rintro t o ⟨b174, c175, pq⟩
 refine pnq pq ?_
 exact cls
theorem OV7 : OkC [vF7] Am7 JR7 JS7 := by
 refine ok fun G H ⟨a0, a1, a2⟩ r h => ?_
 refine st1 fun bs t o => ?_
 dsimp only [ui7] at h
 exact cls
theorem OW7 : OkC [Am7] Ev7 JT7 JU7 := by
 refine ok fun G H ⟨a0, a1, a2⟩ r h => ?_
 have H_am9 := H _ (.head _)
 replace H := mQ7 0 H
 refine st1 fun bs t o => ?_
 dsimp only [q37] at h
 try (refine gx ?_; intros; rename_i h)
 obtain ⟨hf, h⟩ := gd h
 obtain ⟨q14, hq, h⟩ := bnd h
 refine ae7 [] [] (fun K J t o => ∃ q14_, q14 = .inr q14_ ∧ PP K J t o) ?_ ?_
 ·have ho1 := h
  refine aQ7 (xs := a0) [0, 1, 7] [] 0 hf (fun K J l18 k16 t o => fM7 a1 a2 l18 k16  = some q14 ∧ PP ((8, .v (.int .i64 (k16 : Int))) :: K) J t o) ?_ ?_ ?_
  ·exact ⟨hq, pin, aF7⟩
  ·rintro k16 t o hlt ⟨h, pq⟩
   refine pn pq ?_
   rw [fM7] at h
   exact cls
  rintro x17 l18 k16 t o hlt hx22 hw hd ⟨h, pq⟩
  refine pn pq ?_
  rw [fM7] at h
  try (refine gx ?_; intros; rename_i h)
  obtain ⟨x25, h26, h⟩ := bnd h
  refine bD7 (c := Am7) (x17, a1, a2) H_am9 h26 fun ch => ?_
  exact cls
 rintro t o ⟨q14, rfl, pq⟩
 refine pnq pq ?_
 exact cls
theorem OX7 : OkC [Ev7] Ew7 JV7 JW7 := by
 refine ok fun G H ⟨a0, a1, a2⟩ r h => ?_
 refine st1 fun bs t o => ?_
 dsimp only [q57] at h
 exact cls
theorem OY7 : OkC [vE7, x07, vF7, Ew7] Ex7 JX7 JY7 := by
 refine ok fun G H ⟨a0, a1, a2⟩ r h => ?_
 refine st1 fun bs t o => ?_
 dsimp only [q67] at h
 refine gx fun x2 h3 x4 h5 x6 h7 x11 h12 x15 h16 => ?_; intros; rename_i h
 obtain ⟨q76, hq, h⟩ := bnd h
 refine ae7 [] [] (fun K J t o => ∃ b109 c110, PP ((9, .ref 264 b109 c110 0 q76.length 17) :: K) ((264, ent b109 c110 17 (List.map bm7 q76)) :: J) t o) ?_ ?_
 ·refine dz7 [3, 7, 8] [24, 232, 256] (fun K J n82 t o => ∃ v77 v80 b78 c79 b81, iu7 x11 x15 a0 n82 v77 v80 = some q76 ∧ PP ((9, .ref 264 b78 c79 0 v77.length 17) :: (10, .ptr 80 b81 17 0 0) :: K) ((264, ent b78 c79 17 (List.map bm7 v77)) :: (80, ⟨b81, 1, 17, true, [[.v (.int .i64 v80)]]⟩) :: J) t o) ?_ ?_
  ·exact ⟨_, _, _, _, _, hq, pin, aF7⟩
  rintro n82 t o ⟨v77, v80, b78, c79, b81, h, pq⟩
  refine pn pq ?_
  cases n82 with
  | zero => rw [iu7] at h; cases h
  | succ n82 =>
   rw [iu7] at h
   try (refine gx ?_; intros; rename_i h)
   obtain ⟨q93, hq, h⟩ := bnd h
   refine a77 [3, 7, 8, 10] [24, 232, 256, 80] (fun K J t o => ∃ b105 c106, PP ((9, .ref 264 b105 c106 0 q93.length 17) :: K) ((264, ent b105 c106 17 (List.map bm7 q93)) :: J) t o) ?_ ?_
   ·have h := hq
    exact cls
   rintro t o ⟨b105, c106, pq⟩
   refine pn pq ?_
   exact cls
 rintro t o ⟨b109, c110, pq⟩
 refine pnq pq ?_
 exact cls
theorem OZ7 : OkC [] An7 J07 J17 := by
 refine ok fun G H ⟨a0, a1⟩ r h => ?_
 refine st1 fun bs t o => ?_
 dsimp only [uk7] at h
 exact cls
theorem O07 : OkC [An7] Ez7 J27 J37 := by
 refine ok fun G H ⟨a0, a1⟩ r h => ?_
 have H_bk9 := H _ (.head _)
 replace H := mQ7 0 H
 refine st1 fun bs t o => ?_
 dsimp only [ul7] at h
 try (refine gx ?_; intros; rename_i h)
 obtain ⟨hf, h⟩ := gd h
 obtain ⟨q14, hq, h⟩ := bnd h
 refine ae7 [] [] (fun K J t o => ∃ q14_, q14 = .inr q14_ ∧ PP K J t o) ?_ ?_
 ·have ho1 := h
  refine aQ7 (xs := a0) [0, 1, 7] [] 0 hf (fun K J l18 k16 t o => fN7 a1 l18 k16  = some q14 ∧ PP ((8, .v (.int .i64 (k16 : Int))) :: K) J t o) ?_ ?_ ?_
  ·exact ⟨hq, pin, aF7⟩
  ·rintro k16 t o hlt ⟨h, pq⟩
   refine pn pq ?_
   rw [fN7] at h
   exact cls
  rintro x17 l18 k16 t o hlt hx22 hw hd ⟨h, pq⟩
  refine pn pq ?_
  rw [fN7] at h
  try (refine gx ?_; intros; rename_i h)
  obtain ⟨x25, h26, h⟩ := bnd h
  refine bD7 (c := An7) (x17, a1) H_bk9 h26 fun ch => ?_
  exact cls
 rintro t o ⟨q14, rfl, pq⟩
 refine pnq pq ?_
 exact cls
theorem O17 : OkC [Ez7] EA7 J47 J57 := by
 refine ok fun G H ⟨a0, a1⟩ r h => ?_
 refine st1 fun bs t o => ?_
 dsimp only [q87] at h
 exact cls
theorem O27 : OkC [EA7, vD7] EB7 J67 J77 := by
 refine ok fun G H ⟨a0, a1⟩ r h => ?_
 refine st1 fun bs t o => ?_
 dsimp only [ra7] at h
 exact cls
theorem O37 : OkC [J87] EC7 J97 Ka7 := by
 refine ok fun G H ⟨a0, a1⟩ r h => ?_
 refine st1 fun bs t o => ?_
 dsimp only [nV7] at h
 refine gx fun x2 h3 => ?_; intros; rename_i h
 obtain ⟨q43, hq, h⟩ := bnd h
 refine ae7 [] [] (fun K J t o => ∃ b67 c68, PP ((5, .ref 72 b67 c68 0 q43.length 194) :: K) ((72, ent b67 c68 194 (List.map fk7 q43)) :: J) t o) ?_ ?_
 ·refine dz7 [0, 1, 6] [] (fun K J n49 t o => ∃ v44 v45 v46 b47 c48, dD7 a0 a1 x2 n49 v44 v45 v46 = some q43 ∧ PP ((5, .ref 72 b47 c48 0 v46.length 194) :: (7, .v (.int .i64 v44)) :: (8, .v (.int .i64 v45)) :: K) ((72, ent b47 c48 194 (List.map fk7 v46)) :: J) t o) ?_ ?_
  ·exact ⟨_, _, _, _, _, hq, pin, aF7⟩
  rintro n49 t o ⟨v44, v45, v46, b47, c48, h, pq⟩
  refine pn pq ?_
  cases n49 with
  | zero => rw [dD7] at h; cases h
  | succ n49 =>
   rw [dD7] at h
   exact cls
 rintro t o ⟨b67, c68, pq⟩
 refine pnq pq ?_
 exact cls
theorem O47 : OkC [] ED7 Kb7 Kc7 := by
 refine ok fun G H ⟨a0, a1⟩ r h => ?_
 refine st1 fun bs t o => ?_
 dsimp only [nW7] at h
 try (refine gx ?_; intros; rename_i h)
 obtain ⟨hf, h⟩ := gd h
 obtain ⟨q11, hq, h⟩ := bnd h
 refine ae7 [] [] (fun K J t o => ∃ q11_, q11 = .inr q11_ ∧ PP K J t o) ?_ ?_
 ·have ho1 := h
  refine aQ7 (xs := a0) [1, 7, 8] [] 0 hf (fun K J l15 k13 t o => fO7 a1 l15 k13  = some q11 ∧ PP ((9, .v (.int .i64 (k13 : Int))) :: K) J t o) ?_ ?_ ?_
  ·exact ⟨hq, pin, aF7⟩
  ·rintro k13 t o hlt ⟨h, pq⟩
   refine pn pq ?_
   rw [fO7] at h
   exact cls
  rintro x14 l15 k13 t o hlt hx19 hw hd ⟨h, pq⟩
  refine pn pq ?_
  rw [fO7] at h
  exact cls
 rintro t o ⟨q11, rfl, pq⟩
 refine pnq pq ?_
 exact cls
theorem O57 : OkC [] Ao7 Kd7 Ke7 := by
 refine ok fun G H ⟨a0, a1⟩ r h => ?_
 refine st1 fun bs t o => ?_
 dsimp only [um7] at h
 exact cls
theorem O67 : OkC [Ao7] EE7 Kf7 Kg7 := by
 refine ok fun G H ⟨a0, a1⟩ r h => ?_
 have H_af9 := H _ (.head _)
 replace H := mQ7 0 H
 refine st1 fun bs t o => ?_
 dsimp only [un7] at h
 try (refine gx ?_; intros; rename_i h)
 obtain ⟨hf, h⟩ := gd h
 obtain ⟨q14, hq, h⟩ := bnd h
 refine ae7 [] [] (fun K J t o => ∃ q14_, q14 = .inr q14_ ∧ PP K J t o) ?_ ?_
 ·have ho1 := h
  refine aQ7 (xs := a0) [0, 1, 7] [] 0 hf (fun K J l18 k16 t o => fP7 a1 l18 k16  = some q14 ∧ PP ((8, .v (.int .i64 (k16 : Int))) :: K) J t o) ?_ ?_ ?_
  ·exact ⟨hq, pin, aF7⟩
  ·rintro k16 t o hlt ⟨h, pq⟩
   refine pn pq ?_
   rw [fP7] at h
   exact cls
  rintro x17 l18 k16 t o hlt hx22 hw hd ⟨h, pq⟩
  refine pn pq ?_
  rw [fP7] at h
  try (refine gx ?_; intros; rename_i h)
  obtain ⟨x25, h26, h⟩ := bnd h
  refine bD7 (c := Ao7) (x17, a1) H_af9 h26 fun ch => ?_
  exact cls
 rintro t o ⟨q14, rfl, pq⟩
 refine pnq pq ?_
 exact cls
theorem O77 : OkC [EE7] EF7 Kh7 Ki7 := by
 refine ok fun G H ⟨a0, a1⟩ r h => ?_
 refine st1 fun bs t o => ?_
 dsimp only [rb7] at h
 exact cls
theorem O87 : OkC [EC7, ED7, Af7] EG7 Kj7 Kk7 := by
 refine ok fun G H ⟨a0, a1, a2⟩ r h => ?_
 refine st1 fun bs t o => ?_
 dsimp only [nX7] at h
 refine gx fun x4 h5 x8 h9 => ?_; intros; rename_i h
 obtain ⟨q641, hq, h⟩ := bnd h
 refine ae7 [] [] (fun K J t o => ∃ q641_ b858 c859, q641 = .inr q641_ ∧ PP ((10, .ref 320 b858 c859 0 q641_.length 66) :: K) ((320, ent b858 c859 66 (List.map ePt q641_)) :: J) t o) ?_ ?_
 ·have ho1 := h
  refine dz7 [0, 1, 2, 8, 9] [288, 312] (fun K J n649 t o => ∃ v642 v643 v644 v645 v646 b647 c648, eu7 a0 x4 x8 a1 a2 n649 v642 v643 v644 v645 v646 = some q641 ∧ PP ((10, .ref 320 b647 c648 0 v646.length 66) :: (11, .v (.int .i64 v642)) :: (12, .v (.int .i64 v643)) :: (13, .v (.int .i64 v644)) :: (14, .v (.int .i64 v645)) :: K) ((320, ent b647 c648 66 (List.map ePt v646)) :: J) t o) ?_ ?_
  ·exact ⟨_, _, _, _, _, _, _, hq, pin, aF7⟩
  rintro n649 t o ⟨v642, v643, v644, v645, v646, b647, c648, h, pq⟩
  refine pn pq ?_
  cases n649 with
  | zero => rw [eu7] at h; cases h
  | succ n649 =>
   rw [eu7] at h
   try (refine gx ?_; intros; rename_i h)
   obtain ⟨q750, hq, h⟩ := bnd h
   refine a77 [0, 1, 2, 8, 9, 14] [288, 312] (fun K J t o => ∃ q750_ b855 c856, q750 = .inr q750_ ∧ PP ((10, .ref 320 b855 c856 0 q750_.2.2.2.length 66) :: (11, .v (.int .i64 q750_.1)) :: (12, .v (.int .i64 q750_.2.1)) :: (13, .v (.int .i64 q750_.2.2.1)) :: K) ((320, ent b855 c856 66 (List.map ePt q750_.2.2.2)) :: J) t o) ?_ ?_
   ·have ho2 := h
    have h := hq
    try (refine gx ?_; intros; rename_i h)
    refine cnd h rfl rfl (fun h c => ?_) fun h c => ?_
    ·try rw [c]
     refine gx fun x751 h752 x753 h754 x755 h756 x757 h758 x759 h760 => ?_; intros; rename_i h
     obtain ⟨q777, hq, h⟩ := bnd h
     refine a77 [0, 1, 2, 8, 9, 14, 15, 16, 64, 65] [288, 312] (fun K J t o => ∃ q777_ b795 c796, q777 = .inr q777_ ∧ PP ((10, .ref 320 b795 c796 0 q777_.length 66) :: K) ((320, ent b795 c796 66 (List.map ePt q777_)) :: J) t o) ?_ ?_
     ·have ho3 := h
      have h := hq
      exact cls
     rintro t o ⟨q777, b795, c796, rfl, pq⟩
     refine pn pq ?_
     exact cls
    try rw [c]
    refine gx fun x803 h804 x805 h806 x807 h808 => ?_; intros; rename_i h
    obtain ⟨q825, hq, h⟩ := bnd h
    refine a77 [0, 1, 2, 8, 9, 14, 15, 16] [288, 312] (fun K J t o => ∃ q825_ b843 c844, q825 = .inr q825_ ∧ PP ((10, .ref 320 b843 c844 0 q825_.length 66) :: K) ((320, ent b843 c844 66 (List.map ePt q825_)) :: J) t o) ?_ ?_
    ·have ho3 := h
     have h := hq
     exact cls
    rintro t o ⟨q825, b843, c844, rfl, pq⟩
    refine pn pq ?_
    exact cls
   rintro t o ⟨q750, b855, c856, rfl, pq⟩
   refine pn pq ?_
   exact cls
 rintro t o ⟨q641, b858, c859, rfl, pq⟩
 refine pnq pq ?_
 exact cls
theorem O97 : OkC [Kl7] Ap7 Km7 Kn7 := by
 refine ok fun G H a0 r h => ?_
 refine st1 fun bs t o => ?_
 dsimp only [rc7] at h
 try (refine gx ?_; intros; rename_i h)
 obtain ⟨hf, h⟩ := gd h
 obtain ⟨q9, hq, h⟩ := bnd h
 refine ae7 [0] [] (fun K J t o => PP ((3, .v (.int .i64 q9)) :: K) J t o) ?_ ?_
 ·refine aQ7 (xs := a0) [0, 9, 10] [] 0 hf (fun K J l14 k12 t o => ∃ v10, fQ7 l14 k12 v10 = some q9 ∧ PP ((3, .v (.int .i64 v10)) :: (11, .v (.int .i64 (k12 : Int))) :: K) J t o) ?_ ?_ ?_
  ·exact ⟨_, hq, pin, aF7⟩
  ·rintro k12 t o hlt ⟨v10, h, pq⟩
   refine pn pq ?_
   rw [fQ7] at h
   exact cls
  rintro x13 l14 k12 t o hlt hx18 hw hd ⟨v10, h, pq⟩
  refine pn pq ?_
  rw [fQ7] at h
  exact cls
 rintro t o pq
 refine pnq pq ?_
 refine gx fun x22 h23 => ?_; intros; rename_i h
 obtain ⟨hf, h⟩ := gd h
 obtain ⟨q45, hq, h⟩ := bnd h
 refine ae7 [] [] (fun K J t o => ∃ b63 c64, PP ((6, .ref 192 b63 c64 0 q45.length 82) :: K) ((192, ent b63 c64 82 (List.map be7 q45)) :: J) t o) ?_ ?_
 ·refine aQ7 (xs := a0) [25, 26] [] 0 hf (fun K J l52 k50 t o => ∃ v47 b48 c49, ev7 l52 k50 v47 = some q45 ∧ PP ((6, .ref 192 b48 c49 0 v47.length 82) :: (27, .v (.int .i64 (k50 : Int))) :: K) ((192, ent b48 c49 82 (List.map be7 v47)) :: J) t o) ?_ ?_ ?_
  ·exact ⟨_, _, _, hq, pin, aF7⟩
  ·rintro k50 t o hlt ⟨v47, b48, c49, h, pq⟩
   refine pn pq ?_
   rw [ev7] at h
   exact cls
  rintro x51 l52 k50 t o hlt hx56 hw hd ⟨v47, b48, c49, h, pq⟩
  refine pn pq ?_
  rw [ev7] at h
  exact cls
 rintro t o ⟨b63, c64, pq⟩
 refine pnq pq ?_
 exact cls
end Go.Proofs.AM
