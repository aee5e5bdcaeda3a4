/- Lemmas of the proof (UTF4), on an abstract machine. Conditions: none. -/
import Derived.Test.YtnnfdbdheoajgaaGreatUTD
set_option linter.unusedVariables false
set_option linter.unusedSimpArgs false
set_option maxRecDepth 100000
set_option maxHeartbeats 4000000
namespace Go.Proofs.AM
attribute [local irreducible] vwp c27 bH7 f37 vdo jL7 na7 j57 f47 mn7 lg7 bO7 e17 kj7 fd7 j47 mc7 mb7
theorem Ou7 : OkC [El7, sB7] Em7 Ji7 Jj7 := by
 refine ok fun G H ⟨a0, a1⟩ r h => ?_
 refine st1 fun bs t o => ?_
 dsimp only [qE7] at h
 exact cls
theorem Ov7 : OkC [] En7 Jk7 Jl7 := by
 refine ok fun G H ⟨a0, a1⟩ r h => ?_
 refine st1 fun bs t o => ?_
 dsimp only [qF7] at h
 try (refine gx ?_; intros; rename_i h)
 obtain ⟨hf, h⟩ := gd h
 obtain ⟨q8, hq, h⟩ := bnd h
 refine ae7 [] [] (fun K J t o => ∃ q8_, q8 = .inr q8_ ∧ PP K J t o) ?_ ?_
 ·have ho1 := h
  refine aR7 (xs := a0) [0, 1, 7] [] 0 hf (fun K J l12 k10 t o => fz7 a1 l12 k10  = some q8 ∧ PP ((8, .v (.int .i64 (k10 : Int))) :: K) J t o) ?_ ?_ ?_
  ·exact ⟨hq, pin, aE7⟩
  ·rintro k10 t o hlt ⟨h, pq⟩
   refine pn pq ?_
   rw [fz7] at h
   exact cls
  rintro x11 l12 k10 t o hlt hx16 hw hd ⟨h, pq⟩
  refine pn pq ?_
  rw [fz7] at h
  exact cls
 rintro t o ⟨q8, rfl, pq⟩
 refine pnq pq ?_
 exact cls
theorem Ow7 : OkC [z97] Ab7 Jm7 Jn7 := by
 refine ok fun G H a0 r h => ?_
 refine st1 fun bs t o => ?_
 dsimp only [ik7] at h
 try (refine gx ?_; intros; rename_i h)
 obtain ⟨hf, h⟩ := gd h
 obtain ⟨q21, hq, h⟩ := bnd h
 refine ae7 [0] [] (fun K J t o => ∃ q21_, q21 = .inr q21_ ∧ PP K J t o) ?_ ?_
 ·have ho1 := h
  refine aR7 (xs := a0) [0, 5, 6] [] 0 hf (fun K J l25 k23 t o => ei7 a0 l25 k23  = some q21 ∧ PP ((7, .v (.int .i64 (k23 : Int))) :: K) J t o) ?_ ?_ ?_
  ·exact ⟨hq, pin, aE7⟩
  ·rintro k23 t o hlt ⟨h, pq⟩
   refine pn pq ?_
   rw [ei7] at h
   exact cls
  rintro x24 l25 k23 t o hlt hx29 hw hd ⟨h, pq⟩
  refine pn pq ?_
  rw [ei7] at h
  exact cls
 rintro t o ⟨q21, rfl, pq⟩
 refine pnq pq ?_
 exact cls
theorem Ox7 : OkC [Em7] Ac7 Jo7 Jp7 := by
 refine ok fun G H ⟨a0, a1⟩ r h => ?_
 refine st1 fun bs t o => ?_
 dsimp only [t27] at h
 exact cls
theorem Oy7 : OkC [Ac7] Eo7 Jq7 Jr7 := by
 refine ok fun G H ⟨a0, a1⟩ r h => ?_
 have H_ao9 := H _ (.head _)
 replace H := oo7 0 H
 refine st1 fun bs t o => ?_
 dsimp only [qG7] at h
 try (refine gx ?_; intros; rename_i h)
 obtain ⟨hf, h⟩ := gd h
 obtain ⟨q14, hq, h⟩ := bnd h
 refine ae7 [] [] (fun K J t o => ∃ q14_, q14 = .inr q14_ ∧ PP K J t o) ?_ ?_
 ·have ho1 := h
  refine aR7 (xs := a0) [0, 1, 7] [] 0 hf (fun K J l18 k16 t o => fA7 a1 l18 k16  = some q14 ∧ PP ((8, .v (.int .i64 (k16 : Int))) :: K) J t o) ?_ ?_ ?_
  ·exact ⟨hq, pin, aE7⟩
  ·rintro k16 t o hlt ⟨h, pq⟩
   refine pn pq ?_
   rw [fA7] at h
   exact cls
  rintro x17 l18 k16 t o hlt hx22 hw hd ⟨h, pq⟩
  refine pn pq ?_
  rw [fA7] at h
  try (refine gx ?_; intros; rename_i h)
  obtain ⟨x25, h26, h⟩ := bnd h
  refine bX7 (c := Ac7) (x17, a1) H_ao9 h26 fun ch => ?_
  exact cls
 rintro t o ⟨q14, rfl, pq⟩
 refine pnq pq ?_
 exact cls
theorem Oz7 : OkC [Eo7] Ep7 Js7 Jt7 := by
 refine ok fun G H ⟨a0, a1⟩ r h => ?_
 refine st1 fun bs t o => ?_
 dsimp only [qH7] at h
 exact cls
theorem OA7 : OkC [En7] Eq7 Ju7 Jv7 := by
 refine ok fun G H ⟨a0, a1⟩ r h => ?_
 refine st1 fun bs t o => ?_
 dsimp only [lA7] at h
 exact cls
theorem OB7 : OkC [] Ad7 Jw7 Jx7 := by
 refine ok fun G H ⟨a0, a1⟩ r h => ?_
 refine st1 fun bs t o => ?_
 dsimp only [t37] at h
 exact cls
theorem OC7 : OkC [Ad7] Er7 Jy7 Jz7 := by
 refine ok fun G H ⟨a0, a1⟩ r h => ?_
 have H_aq9 := H _ (.head _)
 replace H := oo7 0 H
 refine st1 fun bs t o => ?_
 dsimp only [qI7] at h
 try (refine gx ?_; intros; rename_i h)
 obtain ⟨hf, h⟩ := gd h
 obtain ⟨q14, hq, h⟩ := bnd h
 refine ae7 [] [] (fun K J t o => ∃ q14_, q14 = .inr q14_ ∧ PP K J t o) ?_ ?_
 ·have ho1 := h
  refine aR7 (xs := a0) [0, 1, 7] [] 0 hf (fun K J l18 k16 t o => fB7 a1 l18 k16  = some q14 ∧ PP ((8, .v (.int .i64 (k16 : Int))) :: K) J t o) ?_ ?_ ?_
  ·exact ⟨hq, pin, aE7⟩
  ·rintro k16 t o hlt ⟨h, pq⟩
   refine pn pq ?_
   rw [fB7] at h
   exact cls
  rintro x17 l18 k16 t o hlt hx22 hw hd ⟨h, pq⟩
  refine pn pq ?_
  rw [fB7] at h
  try (refine gx ?_; intros; rename_i h)
  obtain ⟨x25, h26, h⟩ := bnd h
  refine bX7 (c := Ad7) (x17, a1) H_aq9 h26 fun ch => ?_
  exact cls
 rintro t o ⟨q14, rfl, pq⟩
 refine pnq pq ?_
 exact cls
theorem OD7 : OkC [Er7] Es7 JA7 JB7 := by
 refine ok fun G H ⟨a0, a1⟩ r h => ?_
 refine st1 fun bs t o => ?_
 dsimp only [qJ7] at h
 exact cls
theorem OE7 : OkC [sz7] xP7 JC7 JD7 := by
 refine ok fun G H ⟨a0, a1⟩ r h => ?_
 refine st1 fun bs t o => ?_
 dsimp only [il7] at h
 exact cls
theorem OF7 : OkC [] Ae7 JE7 JF7 := by
 refine ok fun G H a0 r h => ?_
 refine st1 fun bs t o => ?_
 dsimp only [lB7] at h
 exact cls
theorem OG7 : OkC [Ae7] xQ7 JG7 JH7 := by
 refine ok fun G H a0 r h => ?_
 refine st1 fun bs t o => ?_
 dsimp only [lC7] at h
 exact cls
theorem OH7 : OkC [sz7, Ab7, z77, Ep7, Eq7, Es7, xP7] Af7 JI7 JJ7 := by
 refine ok fun G H a0 r h => ?_
 refine st1 fun bs t o => ?_
 dsimp only [nz7] at h
 refine gx fun x2 h3 x4 h5 => ?_; intros; rename_i h
 obtain ⟨hf, h⟩ := gd h
 obtain ⟨q160, hq, h⟩ := bnd h
 refine ae7 [1] [8] (fun K J t o => ∃ q160_, q160 = .inr q160_ ∧ PP K J t o) ?_ ?_
 ·have ho1 := h
  refine aR7 (xs := a0.commits) [1, 22, 23] [8] 0 hf (fun K J l164 k162 t o => ek7 a0 l164 k162  = some q160 ∧ PP ((24, .v (.int .i64 (k162 : Int))) :: K) J t o) ?_ ?_ ?_
  ·exact ⟨hq, pin, aE7⟩
  ·rintro k162 t o hlt ⟨h, pq⟩
   refine pn pq ?_
   rw [ek7] at h
   exact cls
  rintro x163 l164 k162 t o hlt hx168 hw hd ⟨h, pq⟩
  refine pn pq ?_
  rw [ek7] at h
  refine gx fun x172 h173 x174 h175 x176 h177 => ?_; intros; rename_i h
  obtain ⟨hf, h⟩ := gd h
  obtain ⟨q203, hq, h⟩ := bnd h
  refine ae7 [1, 22, 23, 24, 34, 35, 36, 37, 40, 41, 42, 43, 44, 47, 48, 49, 50, 51, 52, 53, 56, 57, 58, 59] [8, 32] (fun K J t o => ∃ q203_, q203 = .inr q203_ ∧ PP K J t o) ?_ ?_
  ·have ho2 := h
   refine aR7 (xs := x163.up) [1, 3, 4, 22, 23, 24, 34, 35, 36, 37, 40, 41, 42, 43, 44, 47, 48, 49, 50, 51, 52, 53, 56, 57, 58, 59, 62, 63] [8, 32] 0 hf (fun K J l207 k205 t o => ej7 k162 x163 l207 k205  = some q203 ∧ PP ((64, .v (.int .i64 (k205 : Int))) :: K) J t o) ?_ ?_ ?_
   ·exact ⟨hq, pin, aE7⟩
   ·rintro k205 t o hlt ⟨h, pq⟩
    refine pn pq ?_
    rw [ej7] at h
    exact cls
   rintro x206 l207 k205 t o hlt hx211 hw hd ⟨h, pq⟩
   refine pn pq ?_
   rw [ej7] at h
   exact cls
  rintro t o ⟨q203, rfl, pq⟩
  refine pnq pq ?_
  exact cls
 rintro t o ⟨q160, rfl, pq⟩
 refine pnq pq ?_
 try (refine gx ?_; intros; rename_i h)
 obtain ⟨hf, h⟩ := gd h
 obtain ⟨q248, hq, h⟩ := bnd h
 refine ae7 [] [] (fun K J t o => ∃ q248_, q248 = .inr q248_ ∧ PP K J t o) ?_ ?_
 ·have ho1 := h
  refine aR7 (xs := a0.heads) [1, 85, 86] [8] 0 hf (fun K J l252 k250 t o => el7 a0 l252 k250  = some q248 ∧ PP ((87, .v (.int .i64 (k250 : Int))) :: K) J t o) ?_ ?_ ?_
  ·exact ⟨hq, pin, aE7⟩
  ·rintro k250 t o hlt ⟨h, pq⟩
   refine pn pq ?_
   rw [el7] at h
   exact cls
  rintro x251 l252 k250 t o hlt hx256 hw hd ⟨h, pq⟩
  refine pn pq ?_
  rw [el7] at h
  exact cls
 rintro t o ⟨q248, rfl, pq⟩
 refine pnq pq ?_
 exact cls
theorem OI7 : OkC [] xR7 JK7 JL7 := by
 refine ok fun G H ⟨a0, a1⟩ r h => ?_
 refine st1 fun bs t o => ?_
 dsimp only [jV7] at h
 refine gx fun h4 x5 h6 => ?_; intros; rename_i h
 refine dY7 (f := bI7) (List.replicate ((a0.commits.length : Int)).toNat false) true (a17 h6).2 ?_
 try (refine gx ?_; intros; rename_i h)
 obtain ⟨q128, hq, h⟩ := bnd h
 refine ae7 [] [] (fun K J t o => ∃ b174 c175, PP ((5, .ref 96 b174 c175 0 q128.length 33) :: K) ((96, ent b174 c175 33 (List.map bI7 q128)) :: J) t o) ?_ ?_
 ·refine dw7 [2] [16] (fun K J n133 t o => ∃ v129 v130 b131 c132, em7 a0 n133 v129 v130 = some q128 ∧ PP ((5, .ref 96 b131 c132 0 v130.length 33) :: (6, .v (.int .i64 v129)) :: K) ((96, ent b131 c132 33 (List.map bI7 v130)) :: J) t o) ?_ ?_
  ·exact ⟨_, _, _, _, hq, pin, aE7⟩
  rintro n133 t o ⟨v129, v130, b131, c132, h, pq⟩
  refine pn pq ?_
  cases n133 with
  | zero => rw [em7] at h; cases h
  | succ n133 =>
   rw [em7] at h
   refine gx fun x134 h135 x136 h137 => ?_; intros; rename_i h
   obtain ⟨hf, h⟩ := gd h
   obtain ⟨q154, hq, h⟩ := bnd h
   refine ae7 [2, 6] [16] (fun K J t o => ∃ b171 c172, PP ((5, .ref 96 b171 c172 0 q154.length 33) :: K) ((96, ent b171 c172 33 (List.map bI7 q154)) :: J) t o) ?_ ?_
   ·refine aR7 (xs := x136.up) [2, 6, 30, 31] [16] 0 hf (fun K J l161 k159 t o => ∃ v156 b157 c158, fC7 l161 k159 v156 = some q154 ∧ PP ((5, .ref 96 b157 c158 0 v156.length 33) :: (32, .v (.int .i64 (k159 : Int))) :: K) ((96, ent b157 c158 33 (List.map bI7 v156)) :: J) t o) ?_ ?_ ?_
    ·exact ⟨_, _, _, hq, pin, aE7⟩
    ·rintro k159 t o hlt ⟨v156, b157, c158, h, pq⟩
     refine pn pq ?_
     rw [fC7] at h
     exact cls
    rintro x160 l161 k159 t o hlt hx165 hw hd ⟨v156, b157, c158, h, pq⟩
    refine pn pq ?_
    rw [fC7] at h
    refine gx fun x168 h169 => ?_; intros; rename_i h
    refine dY7 (f := bI7) v156 true (a17 h169).2 ?_
    exact cls
   rintro t o ⟨b171, c172, pq⟩
   refine pnq pq ?_
   exact cls
 rintro t o ⟨b174, c175, pq⟩
 refine pnq pq ?_
 exact cls
theorem OJ7 : OkC [xR7] Ag7 JM7 JN7 := by
 refine ok fun G H ⟨a0, a1, a2⟩ r h => ?_
 refine st1 fun bs t o => ?_
 dsimp only [t47] at h
 exact cls
theorem OK7 : OkC [Ag7] Et7 JO7 JP7 := by
 refine ok fun G H ⟨a0, a1, a2⟩ r h => ?_
 have H_al9 := H _ (.head _)
 replace H := oo7 0 H
 refine st1 fun bs t o => ?_
 dsimp only [qK7] at h
 try (refine gx ?_; intros; rename_i h)
 obtain ⟨hf, h⟩ := gd h
 obtain ⟨q14, hq, h⟩ := bnd h
 refine ae7 [] [] (fun K J t o => ∃ q14_, q14 = .inr q14_ ∧ PP K J t o) ?_ ?_
 ·have ho1 := h
  refine aR7 (xs := a0) [0, 1, 7] [] 0 hf (fun K J l18 k16 t o => fD7 a1 a2 l18 k16  = some q14 ∧ PP ((8, .v (.int .i64 (k16 : Int))) :: K) J t o) ?_ ?_ ?_
  ·exact ⟨hq, pin, aE7⟩
  ·rintro k16 t o hlt ⟨h, pq⟩
   refine pn pq ?_
   rw [fD7] at h
   exact cls
  rintro x17 l18 k16 t o hlt hx22 hw hd ⟨h, pq⟩
  refine pn pq ?_
  rw [fD7] at h
  try (refine gx ?_; intros; rename_i h)
  obtain ⟨x25, h26, h⟩ := bnd h
  refine bX7 (c := Ag7) (x17, a1, a2) H_al9 h26 fun ch => ?_
  exact cls
 rintro t o ⟨q14, rfl, pq⟩
 refine pnq pq ?_
 exact cls
theorem OL7 : OkC [Et7] Eu7 JQ7 JR7 := by
 refine ok fun G H ⟨a0, a1, a2⟩ r h => ?_
 refine st1 fun bs t o => ?_
 dsimp only [qL7] at h
 exact cls
theorem OM7 : OkC [Af7, xP7, xR7, Eu7] Ev7 JS7 JT7 := by
 refine ok fun G H ⟨a0, a1, a2⟩ r h => ?_
 refine st1 fun bs t o => ?_
 dsimp only [qM7] at h
 refine gx fun x2 h3 x4 h5 x6 h7 x11 h12 x15 h16 => ?_; intros; rename_i h
 obtain ⟨q76, hq, h⟩ := bnd h
 refine ae7 [] [] (fun K J t o => ∃ b109 c110, PP ((9, .ref 264 b109 c110 0 q76.length 17) :: K) ((264, ent b109 c110 17 (List.map bz7 q76)) :: J) t o) ?_ ?_
 ·refine dw7 [3, 7, 8] [24, 232, 256] (fun K J n82 t o => ∃ v77 v80 b78 c79 b81, im7 x11 x15 a0 n82 v77 v80 = some q76 ∧ PP ((9, .ref 264 b78 c79 0 v77.length 17) :: (10, .ptr 80 b81 17 0 0) :: K) ((264, ent b78 c79 17 (List.map bz7 v77)) :: (80, ⟨b81, 1, 17, true, [[.v (.int .i64 v80)]]⟩) :: J) t o) ?_ ?_
  ·exact ⟨_, _, _, _, _, hq, pin, aE7⟩
  rintro n82 t o ⟨v77, v80, b78, c79, b81, h, pq⟩
  refine pn pq ?_
  cases n82 with
  | zero => rw [im7] at h; cases h
  | succ n82 =>
   rw [im7] at h
   try (refine gx ?_; intros; rename_i h)
   obtain ⟨q93, hq, h⟩ := bnd h
   refine bi7 [3, 7, 8, 10] [24, 232, 256, 80] (fun K J t o => ∃ b105 c106, PP ((9, .ref 264 b105 c106 0 q93.length 17) :: K) ((264, ent b105 c106 17 (List.map bz7 q93)) :: J) t o) ?_ ?_
   ·have h := hq
    exact cls
   rintro t o ⟨b105, c106, pq⟩
   refine pn pq ?_
   exact cls
 rintro t o ⟨b109, c110, pq⟩
 refine pnq pq ?_
 exact cls
theorem ON7 : OkC [] Ah7 JV7 JW7 := by
 refine ok fun G H ⟨a0, a1⟩ r h => ?_
 refine st1 fun bs t o => ?_
 dsimp only [t67] at h
 exact cls
theorem OO7 : OkC [Ah7] Ex7 JX7 JY7 := by
 refine ok fun G H ⟨a0, a1⟩ r h => ?_
 have H_be9 := H _ (.head _)
 replace H := oo7 0 H
 refine st1 fun bs t o => ?_
 dsimp only [t77] at h
 try (refine gx ?_; intros; rename_i h)
 obtain ⟨hf, h⟩ := gd h
 obtain ⟨q14, hq, h⟩ := bnd h
 refine ae7 [] [] (fun K J t o => ∃ q14_, q14 = .inr q14_ ∧ PP K J t o) ?_ ?_
 ·have ho1 := h
  refine aR7 (xs := a0) [0, 1, 7] [] 0 hf (fun K J l18 k16 t o => fE7 a1 l18 k16  = some q14 ∧ PP ((8, .v (.int .i64 (k16 : Int))) :: K) J t o) ?_ ?_ ?_
  ·exact ⟨hq, pin, aE7⟩
  ·rintro k16 t o hlt ⟨h, pq⟩
   refine pn pq ?_
   rw [fE7] at h
   exact cls
  rintro x17 l18 k16 t o hlt hx22 hw hd ⟨h, pq⟩
  refine pn pq ?_
  rw [fE7] at h
  try (refine gx ?_; intros; rename_i h)
  obtain ⟨x25, h26, h⟩ := bnd h
  refine bX7 (c := Ah7) (x17, a1) H_be9 h26 fun ch => ?_
  exact cls
 rintro t o ⟨q14, rfl, pq⟩
 refine pnq pq ?_
 exact cls
theorem OP7 : OkC [Ex7] Ey7 JZ7 J07 := by
 refine ok fun G H ⟨a0, a1⟩ r h => ?_
 refine st1 fun bs t o => ?_
 dsimp only [qO7] at h
 exact cls
theorem OQ7 : OkC [Ey7, xQ7] Ez7 J17 J27 := by
 refine ok fun G H ⟨a0, a1⟩ r h => ?_
 refine st1 fun bs t o => ?_
 dsimp only [qP7] at h
 exact cls
theorem OR7 : OkC [J37] EA7 J47 J57 := by
 refine ok fun G H ⟨a0, a1⟩ r h => ?_
 refine st1 fun bs t o => ?_
 dsimp only [nA7] at h
 refine gx fun x2 h3 => ?_; intros; rename_i h
 obtain ⟨q43, hq, h⟩ := bnd h
 refine ae7 [] [] (fun K J t o => ∃ b67 c68, PP ((5, .ref 72 b67 c68 0 q43.length 194) :: K) ((72, ent b67 c68 194 (List.map fb7 q43)) :: J) t o) ?_ ?_
 ·refine dw7 [0, 1, 6] [] (fun K J n49 t o => ∃ v44 v45 v46 b47 c48, dC7 a0 a1 x2 n49 v44 v45 v46 = some q43 ∧ PP ((5, .ref 72 b47 c48 0 v46.length 194) :: (7, .v (.int .i64 v44)) :: (8, .v (.int .i64 v45)) :: K) ((72, ent b47 c48 194 (List.map fb7 v46)) :: J) t o) ?_ ?_
  ·exact ⟨_, _, _, _, _, hq, pin, aE7⟩
  rintro n49 t o ⟨v44, v45, v46, b47, c48, h, pq⟩
  refine pn pq ?_
  cases n49 with
  | zero => rw [dC7] at h; cases h
  | succ n49 =>
   rw [dC7] at h
   exact cls
 rintro t o ⟨b67, c68, pq⟩
 refine pnq pq ?_
 exact cls
theorem OS7 : OkC [] EB7 J67 J77 := by
 refine ok fun G H ⟨a0, a1⟩ r h => ?_
 refine st1 fun bs t o => ?_
 dsimp only [nB7] at h
 try (refine gx ?_; intros; rename_i h)
 obtain ⟨hf, h⟩ := gd h
 obtain ⟨q11, hq, h⟩ := bnd h
 refine ae7 [] [] (fun K J t o => ∃ q11_, q11 = .inr q11_ ∧ PP K J t o) ?_ ?_
 ·have ho1 := h
  refine aR7 (xs := a0) [1, 7, 8] [] 0 hf (fun K J l15 k13 t o => fF7 a1 l15 k13  = some q11 ∧ PP ((9, .v (.int .i64 (k13 : Int))) :: K) J t o) ?_ ?_ ?_
  ·exact ⟨hq, pin, aE7⟩
  ·rintro k13 t o hlt ⟨h, pq⟩
   refine pn pq ?_
   rw [fF7] at h
   exact cls
  rintro x14 l15 k13 t o hlt hx19 hw hd ⟨h, pq⟩
  refine pn pq ?_
  rw [fF7] at h
  exact cls
 rintro t o ⟨q11, rfl, pq⟩
 refine pnq pq ?_
 exact cls
theorem OT7 : OkC [] Ai7 J87 J97 := by
 refine ok fun G H ⟨a0, a1⟩ r h => ?_
 refine st1 fun bs t o => ?_
 dsimp only [t87] at h
 exact cls
theorem OU7 : OkC [Ai7] EC7 Ka7 Kb7 := by
 refine ok fun G H ⟨a0, a1⟩ r h => ?_
 have H_ag9 := H _ (.head _)
 replace H := oo7 0 H
 refine st1 fun bs t o => ?_
 dsimp only [t97] at h
 try (refine gx ?_; intros; rename_i h)
 obtain ⟨hf, h⟩ := gd h
 obtain ⟨q14, hq, h⟩ := bnd h
 refine ae7 [] [] (fun K J t o => ∃ q14_, q14 = .inr q14_ ∧ PP K J t o) ?_ ?_
 ·have ho1 := h
  refine aR7 (xs := a0) [0, 1, 7] [] 0 hf (fun K J l18 k16 t o => fG7 a1 l18 k16  = some q14 ∧ PP ((8, .v (.int .i64 (k16 : Int))) :: K) J t o) ?_ ?_ ?_
  ·exact ⟨hq, pin, aE7⟩
  ·rintro k16 t o hlt ⟨h, pq⟩
   refine pn pq ?_
   rw [fG7] at h
   exact cls
  rintro x17 l18 k16 t o hlt hx22 hw hd ⟨h, pq⟩
  refine pn pq ?_
  rw [fG7] at h
  try (refine gx ?_; intros; rename_i h)
  obtain ⟨x25, h26, h⟩ := bnd h
  refine bX7 (c := Ai7) (x17, a1) H_ag9 h26 fun ch => ?_
  exact cls
 rintro t o ⟨q14, rfl, pq⟩
 refine pnq pq ?_
 exact cls
theorem OV7 : OkC [EC7] ED7 Kc7 Kd7 := by
 refine ok fun G H ⟨a0, a1⟩ r h => ?_
 refine st1 fun bs t o => ?_
 dsimp only [qQ7] at h
 exact cls
theorem OW7 : OkC [EA7, EB7, Aa7] EE7 Ke7 Kf7 := by
 refine ok fun G H ⟨a0, a1, a2⟩ r h => ?_
 refine st1 fun bs t o => ?_
 dsimp only [nC7] at h
 refine gx fun x4 h5 x8 h9 => ?_; intros; rename_i h
 obtain ⟨q641, hq, h⟩ := bnd h
 refine ae7 [] [] (fun K J t o => ∃ q641_ b858 c859, q641 = .inr q641_ ∧ PP ((10, .ref 320 b858 c859 0 q641_.length 66) :: K) ((320, ent b858 c859 66 (List.map ePt q641_)) :: J) t o) ?_ ?_
 ·have ho1 := h
  refine dw7 [0, 1, 2, 8, 9] [288, 312] (fun K J n649 t o => ∃ v642 v643 v644 v645 v646 b647 c648, en7 a0 x4 x8 a1 a2 n649 v642 v643 v644 v645 v646 = some q641 ∧ PP ((10, .ref 320 b647 c648 0 v646.length 66) :: (11, .v (.int .i64 v642)) :: (12, .v (.int .i64 v643)) :: (13, .v (.int .i64 v644)) :: (14, .v (.int .i64 v645)) :: K) ((320, ent b647 c648 66 (List.map ePt v646)) :: J) t o) ?_ ?_
  ·exact ⟨_, _, _, _, _, _, _, hq, pin, aE7⟩
  rintro n649 t o ⟨v642, v643, v644, v645, v646, b647, c648, h, pq⟩
  refine pn pq ?_
  cases n649 with
  | zero => rw [en7] at h; cases h
  | succ n649 =>
   rw [en7] at h
   try (refine gx ?_; intros; rename_i h)
   obtain ⟨q750, hq, h⟩ := bnd h
   refine bi7 [0, 1, 2, 8, 9, 14] [288, 312] (fun K J t o => ∃ q750_ b855 c856, q750 = .inr q750_ ∧ PP ((10, .ref 320 b855 c856 0 q750_.2.2.2.length 66) :: (11, .v (.int .i64 q750_.1)) :: (12, .v (.int .i64 q750_.2.1)) :: (13, .v (.int .i64 q750_.2.2.1)) :: K) ((320, ent b855 c856 66 (List.map ePt q750_.2.2.2)) :: J) t o) ?_ ?_
   ·have ho2 := h
    have h := hq
    try (refine gx ?_; intros; rename_i h)
    refine cnd h rfl rfl (fun h c => ?_) fun h c => ?_
    ·try rw [c]
     refine gx fun x751 h752 x753 h754 x755 h756 x757 h758 x759 h760 => ?_; intros; rename_i h
     obtain ⟨q777, hq, h⟩ := bnd h
     refine bi7 [0, 1, 2, 8, 9, 14, 15, 16, 64, 65] [288, 312] (fun K J t o => ∃ q777_ b795 c796, q777 = .inr q777_ ∧ PP ((10, .ref 320 b795 c796 0 q777_.length 66) :: K) ((320, ent b795 c796 66 (List.map ePt q777_)) :: J) t o) ?_ ?_
     ·have ho3 := h
      have h := hq
      exact cls
     rintro t o ⟨q777, b795, c796, rfl, pq⟩
     refine pn pq ?_
     exact cls
    try rw [c]
    refine gx fun x803 h804 x805 h806 x807 h808 => ?_; intros; rename_i h
    obtain ⟨q825, hq, h⟩ := bnd h
    refine bi7 [0, 1, 2, 8, 9, 14, 15, 16] [288, 312] (fun K J t o => ∃ q825_ b843 c844, q825 = .inr q825_ ∧ PP ((10, .ref 320 b843 c844 0 q825_.length 66) :: K) ((320, ent b843 c844 66 (List.map ePt q825_)) :: J) t o) ?_ ?_
    ·have ho3 := h
     have h := hq
     exact cls
    rintro t o ⟨q825, b843, c844, rfl, pq⟩
    refine pn pq ?_
    exact cls
   rintro t o ⟨q750, b855, c856, rfl, pq⟩
   refine pn pq ?_
   exact cls
 rintro t o ⟨q641, b858, c859, rfl, pq⟩
 refine pnq pq ?_
 exact cls
theorem OX7 : OkC [Kg7] Aj7 Kh7 Ki7 := by
 refine ok fun G H a0 r h => ?_
 refine st1 fun bs t o => ?_
 dsimp only [qR7] at h
 try (refine gx ?_; intros; rename_i h)
 obtain ⟨hf, h⟩ := gd h
 obtain ⟨q9, hq, h⟩ := bnd h
 refine ae7 [0] [] (fun K J t o => PP ((3, .v (.int .i64 q9)) :: K) J t o) ?_ ?_
 ·refine aR7 (xs := a0) [0, 9, 10] [] 0 hf (fun K J l14 k12 t o => ∃ v10, fH7 l14 k12 v10 = some q9 ∧ PP ((3, .v (.int .i64 v10)) :: (11, .v (.int .i64 (k12 : Int))) :: K) J t o) ?_ ?_ ?_
  ·exact ⟨_, hq, pin, aE7⟩
  ·rintro k12 t o hlt ⟨v10, h, pq⟩
   refine pn pq ?_
   rw [fH7] at h
   exact cls
  rintro x13 l14 k12 t o hlt hx18 hw hd ⟨v10, h, pq⟩
  refine pn pq ?_
  rw [fH7] at h
  exact cls
 rintro t o pq
 refine pnq pq ?_
 refine gx fun x22 h23 => ?_; intros; rename_i h
 obtain ⟨hf, h⟩ := gd h
 obtain ⟨q45, hq, h⟩ := bnd h
 refine ae7 [] [] (fun K J t o => ∃ b63 c64, PP ((6, .ref 192 b63 c64 0 q45.length 82) :: K) ((192, ent b63 c64 82 (List.map bb7 q45)) :: J) t o) ?_ ?_
 ·refine aR7 (xs := a0) [25, 26] [] 0 hf (fun K J l52 k50 t o => ∃ v47 b48 c49, eo7 l52 k50 v47 = some q45 ∧ PP ((6, .ref 192 b48 c49 0 v47.length 82) :: (27, .v (.int .i64 (k50 : Int))) :: K) ((192, ent b48 c49 82 (List.map bb7 v47)) :: J) t o) ?_ ?_ ?_
  ·exact ⟨_, _, _, hq, pin, aE7⟩
  ·rintro k50 t o hlt ⟨v47, b48, c49, h, pq⟩
   refine pn pq ?_
   rw [eo7] at h
   exact cls
  rintro x51 l52 k50 t o hlt hx56 hw hd ⟨v47, b48, c49, h, pq⟩
  refine pn pq ?_
  rw [eo7] at h
  exact cls
 rintro t o ⟨b63, c64, pq⟩
 refine pnq pq ?_
 exact cls
theorem OY7 : OkC [ED7] EF7 Kj7 Kk7 := by
 refine ok fun G H ⟨a0, a1⟩ r h => ?_
 refine st1 fun bs t o => ?_
 dsimp only [lD7] at h
 exact cls
theorem OZ7 : OkC [] vy7 Kl7 Km7 := by
 refine ok fun G H ⟨a0, a1⟩ r h => ?_
 refine st1 fun bs t o => ?_
 dsimp only [nD7] at h
 exact cls
theorem O07 : OkC [Ew7, xS7] Ak7 Kn7 Ko7 := by
 refine ok fun G H a0 r h => ?_
 have H_ct9 := H _ (.tail _ (.head _))
 replace H := oo7 1 H
 refine st1 fun bs t o => ?_
 dsimp only [qS7] at h
 try (refine gx ?_; intros; rename_i h)
 obtain ⟨hf, h⟩ := gd h
 obtain ⟨q153, hq, h⟩ := bnd h
 refine ae7 [] [] (fun K J t o => ∃ b215 c216, PP ((3, .ref 64 b215 c216 0 q153.length 49) :: K) ((64, ent b215 c216 49 (List.map cv7 q153)) :: J) t o) ?_ ?_
 ·refine aR7 (xs := a0) [9, 10] [] 0 hf (fun K J l160 k158 t o => ∃ v155 b156 c157, gT7 l160 k158 v155 = some q153 ∧ PP ((3, .ref 64 b156 c157 0 v155.length 49) :: (11, .v (.int .i64 (k158 : Int))) :: K) ((64, ent b156 c157 49 (List.map cv7 v155)) :: J) t o) ?_ ?_ ?_
  ·exact ⟨_, _, _, hq, pin, aE7⟩
  ·rintro k158 t o hlt ⟨v155, b156, c157, h, pq⟩
   refine pn pq ?_
   rw [gT7] at h
   exact cls
  rintro x159 l160 k158 t o hlt hx164 hw hd ⟨v155, b156, c157, h, pq⟩
  refine pn pq ?_
  rw [gT7] at h
  try (refine gx ?_; intros; rename_i h)
  obtain ⟨hf, h⟩ := gd h
  obtain ⟨q192, hq, h⟩ := bnd h
  refine ae7 [9, 10, 11] [] (fun K J t o => ∃ b212 c213, PP ((3, .ref 64 b212 c213 0 q192.length 49) :: K) ((64, ent b212 c213 49 (List.map cv7 q192)) :: J) t o) ?_ ?_
  ·refine aR7 (xs := x159) [9, 10, 11, 15, 16] [] 0 hf (fun K J l199 k197 t o => ∃ v194 b195 c196, ep7 l199 k197 v194 = some q192 ∧ PP ((3, .ref 64 b195 c196 0 v194.length 49) :: (17, .v (.int .i64 (k197 : Int))) :: K) ((64, ent b195 c196 49 (List.map cv7 v194)) :: J) t o) ?_ ?_ ?_
   ·exact ⟨_, _, _, hq, pin, aE7⟩
   ·rintro k197 t o hlt ⟨v194, b195, c196, h, pq⟩
    refine pn pq ?_
    rw [ep7] at h
    exact cls
   rintro x198 l199 k197 t o hlt hx203 hw hd ⟨v194, b195, c196, h, pq⟩
   refine pn pq ?_
   rw [ep7] at h
   exact cls
  rintro t o ⟨b212, c213, pq⟩
  refine pnq pq ?_
  exact cls
 rintro t o ⟨b215, c216, pq⟩
 refine pnq pq ?_
 try (refine gx ?_; intros; rename_i h)
 obtain ⟨x217, h218, h⟩ := bnd h
 have L218 := JU7 h218; (try dsimp only at L218); refine al7 (c := xS7) (q153) H_ct9 h218 fun ch => ?_; rw [← L218]
 exact cls
theorem O17 : OkC [Ez7] EG7 Kp7 Kq7 := by
 refine ok fun G H ⟨a0, a1⟩ r h => ?_
 refine st1 fun bs t o => ?_
 dsimp only [lE7] at h
 exact cls
theorem O27 : OkC [xO7] vz7 Kr7 Ks7 := by
 refine ok fun G H ⟨a0, a1⟩ r h => ?_
 refine st1 fun bs t o => ?_
 dsimp only [lF7] at h
 exact cls
end Go.Proofs.AM
