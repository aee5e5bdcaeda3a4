/- Lemmas of the proof (UIF4), on an abstract machine. Conditions: none. -/
import Derived.Test.YtnnfdbdheoajgaaGreatUID
set_option linter.unusedVariables false
set_option linter.unusedSimpArgs false
set_option maxRecDepth 100000
set_option maxHeartbeats 4000000
namespace Go.Proofs.AM
attribute [local irreducible] vwp cY7 bI7 f97 vdo jn7 mS7 j07 fi7 mG7 kM7 bL7 e87 kt7 dY7 jO7 k37 k27
theorem OW7 : OkC [EI7] ye7 Jw7 Jx7 := by
 refine ok fun G H ⟨a0, a1⟩ r h => ?_
 refine st1 fun bs t o => ?_
 dsimp only [nW7] at h
 exact cls
theorem OX7 : OkC [] EJ7 Jy7 Jz7 := by
 refine ok fun G H ⟨a0, a1⟩ r h => ?_
 refine st1 fun bs t o => ?_
 dsimp only [ul7] at h
 try (refine gx ?_; intros; rename_i h)
 obtain ⟨hf, h⟩ := gd h
 obtain ⟨q14, hq, h⟩ := bnd h
 refine ae7 [] [] (fun K J t o => ∃ q14_, q14 = .inr q14_ ∧ PP K J t o) ?_ ?_
 ·have ho1 := h
  refine aQ7 (xs := a0) [0, 1, 12] [] 0 hf (fun K J l18 k16 t o => fF7 a1 l18 k16  = some q14 ∧ PP ((13, .v (.int .i64 (k16 : Int))) :: K) J t o) ?_ ?_ ?_
  ·exact ⟨hq, pin, aJ7⟩
  ·rintro k16 t o hlt ⟨h, pq⟩
   refine pn pq ?_
   rw [fF7] at h
   exact cls
  rintro x17 l18 k16 t o hlt hx22 hw hd ⟨h, pq⟩
  refine pn pq ?_
  rw [fF7] at h
  exact cls
 rintro t o ⟨q14, rfl, pq⟩
 refine pnq pq ?_
 exact cls
theorem OY7 : OkC [EJ7, ye7] yf7 JA7 JB7 := by
 refine ok fun G H ⟨a0, a1⟩ r h => ?_
 refine st1 fun bs t o => ?_
 dsimp only [nX7] at h
 exact cls
theorem OZ7 : OkC [] EK7 JC7 JD7 := by
 refine ok fun G H ⟨a0, a1⟩ r h => ?_
 refine st1 fun bs t o => ?_
 dsimp only [q77] at h
 try (refine gx ?_; intros; rename_i h)
 obtain ⟨hf, h⟩ := gd h
 obtain ⟨q8, hq, h⟩ := bnd h
 refine ae7 [] [] (fun K J t o => ∃ q8_, q8 = .inr q8_ ∧ PP K J t o) ?_ ?_
 ·have ho1 := h
  refine aQ7 (xs := a0) [0, 1, 7] [] 0 hf (fun K J l12 k10 t o => fG7 a1 l12 k10  = some q8 ∧ PP ((8, .v (.int .i64 (k10 : Int))) :: K) J t o) ?_ ?_ ?_
  ·exact ⟨hq, pin, aJ7⟩
  ·rintro k10 t o hlt ⟨h, pq⟩
   refine pn pq ?_
   rw [fG7] at h
   exact cls
  rintro x11 l12 k10 t o hlt hx16 hw hd ⟨h, pq⟩
  refine pn pq ?_
  rw [fG7] at h
  exact cls
 rintro t o ⟨q8, rfl, pq⟩
 refine pnq pq ?_
 exact cls
theorem O07 : OkC [Ap7] Ar7 JE7 JF7 := by
 refine ok fun G H a0 r h => ?_
 refine st1 fun bs t o => ?_
 dsimp only [iy7] at h
 try (refine gx ?_; intros; rename_i h)
 obtain ⟨hf, h⟩ := gd h
 obtain ⟨q21, hq, h⟩ := bnd h
 refine ae7 [0] [] (fun K J t o => ∃ q21_, q21 = .inr q21_ ∧ PP K J t o) ?_ ?_
 ·have ho1 := h
  refine aQ7 (xs := a0) [0, 5, 6] [] 0 hf (fun K J l25 k23 t o => ep7 a0 l25 k23  = some q21 ∧ PP ((7, .v (.int .i64 (k23 : Int))) :: K) J t o) ?_ ?_ ?_
  ·exact ⟨hq, pin, aJ7⟩
  ·rintro k23 t o hlt ⟨h, pq⟩
   refine pn pq ?_
   rw [ep7] at h
   exact cls
  rintro x24 l25 k23 t o hlt hx29 hw hd ⟨h, pq⟩
  refine pn pq ?_
  rw [ep7] at h
  exact cls
 rintro t o ⟨q21, rfl, pq⟩
 refine pnq pq ?_
 exact cls
theorem O17 : OkC [yf7] As7 JG7 JH7 := by
 refine ok fun G H ⟨a0, a1⟩ r h => ?_
 refine st1 fun bs t o => ?_
 dsimp only [um7] at h
 exact cls
theorem O27 : OkC [As7] EL7 JI7 JJ7 := by
 refine ok fun G H ⟨a0, a1⟩ r h => ?_
 have H_ar9 := H _ (.head _)
 replace H := mV7 0 H
 refine st1 fun bs t o => ?_
 dsimp only [q87] at h
 try (refine gx ?_; intros; rename_i h)
 obtain ⟨hf, h⟩ := gd h
 obtain ⟨q14, hq, h⟩ := bnd h
 refine ae7 [] [] (fun K J t o => ∃ q14_, q14 = .inr q14_ ∧ PP K J t o) ?_ ?_
 ·have ho1 := h
  refine aQ7 (xs := a0) [0, 1, 7] [] 0 hf (fun K J l18 k16 t o => fH7 a1 l18 k16  = some q14 ∧ PP ((8, .v (.int .i64 (k16 : Int))) :: K) J t o) ?_ ?_ ?_
  ·exact ⟨hq, pin, aJ7⟩
  ·rintro k16 t o hlt ⟨h, pq⟩
   refine pn pq ?_
   rw [fH7] at h
   exact cls
  rintro x17 l18 k16 t o hlt hx22 hw hd ⟨h, pq⟩
  refine pn pq ?_
  rw [fH7] at h
  try (refine gx ?_; intros; rename_i h)
  obtain ⟨x25, h26, h⟩ := bnd h
  refine bF7 (c := As7) (x17, a1) H_ar9 h26 fun ch => ?_
  exact cls
 rintro t o ⟨q14, rfl, pq⟩
 refine pnq pq ?_
 exact cls
theorem O37 : OkC [EL7] At7 JK7 JL7 := by
 refine ok fun G H ⟨a0, a1⟩ r h => ?_
 refine st1 fun bs t o => ?_
 dsimp only [nY7] at h
 exact cls
theorem O47 : OkC [EK7] EM7 JM7 JN7 := by
 refine ok fun G H ⟨a0, a1⟩ r h => ?_
 refine st1 fun bs t o => ?_
 dsimp only [lU7] at h
 exact cls
theorem O57 : OkC [] Au7 JO7 JP7 := by
 refine ok fun G H ⟨a0, a1⟩ r h => ?_
 refine st1 fun bs t o => ?_
 dsimp only [un7] at h
 exact cls
theorem O67 : OkC [Au7] EN7 JQ7 JR7 := by
 refine ok fun G H ⟨a0, a1⟩ r h => ?_
 have H_at9 := H _ (.head _)
 replace H := mV7 0 H
 refine st1 fun bs t o => ?_
 dsimp only [ra7] at h
 try (refine gx ?_; intros; rename_i h)
 obtain ⟨hf, h⟩ := gd h
 obtain ⟨q14, hq, h⟩ := bnd h
 refine ae7 [] [] (fun K J t o => ∃ q14_, q14 = .inr q14_ ∧ PP K J t o) ?_ ?_
 ·have ho1 := h
  refine aQ7 (xs := a0) [0, 1, 7] [] 0 hf (fun K J l18 k16 t o => fI7 a1 l18 k16  = some q14 ∧ PP ((8, .v (.int .i64 (k16 : Int))) :: K) J t o) ?_ ?_ ?_
  ·exact ⟨hq, pin, aJ7⟩
  ·rintro k16 t o hlt ⟨h, pq⟩
   refine pn pq ?_
   rw [fI7] at h
   exact cls
  rintro x17 l18 k16 t o hlt hx22 hw hd ⟨h, pq⟩
  refine pn pq ?_
  rw [fI7] at h
  try (refine gx ?_; intros; rename_i h)
  obtain ⟨x25, h26, h⟩ := bnd h
  refine bF7 (c := Au7) (x17, a1) H_at9 h26 fun ch => ?_
  exact cls
 rintro t o ⟨q14, rfl, pq⟩
 refine pnq pq ?_
 exact cls
theorem O77 : OkC [EN7] yg7 JS7 JT7 := by
 refine ok fun G H ⟨a0, a1⟩ r h => ?_
 refine st1 fun bs t o => ?_
 dsimp only [kc7] at h
 exact cls
theorem O87 : OkC [sW7] yh7 JU7 JV7 := by
 refine ok fun G H ⟨a0, a1⟩ r h => ?_
 refine st1 fun bs t o => ?_
 dsimp only [iz7] at h
 exact cls
theorem O97 : OkC [] Av7 JW7 JX7 := by
 refine ok fun G H a0 r h => ?_
 refine st1 fun bs t o => ?_
 dsimp only [lV7] at h
 exact cls
theorem Pa7 : OkC [Av7] vM7 JY7 JZ7 := by
 refine ok fun G H a0 r h => ?_
 refine st1 fun bs t o => ?_
 dsimp only [kd7] at h
 exact cls
theorem Pb7 : OkC [vM7] EO7 J07 J17 := by
 refine ok fun G H a0 r h => ?_
 refine st1 fun bs t o => ?_
 dsimp only [rb7] at h
 try (refine gx ?_; intros; rename_i h)
 obtain ⟨hf, h⟩ := gd h
 obtain ⟨q45, hq, h⟩ := bnd h
 refine ae7 [] [] (fun K J t o => ∃ b71 c72, PP ((3, .ref 48 b71 c72 0 q45.length 100) :: K) ((48, ent b71 c72 100 (List.map (ak7 true) q45)) :: J) t o) ?_ ?_
 ·refine aQ7 (xs := a0) [7, 8] [] 0 hf (fun K J l52 k50 t o => ∃ v47 b48 c49, g07 l52 k50 v47 = some q45 ∧ PP ((3, .ref 48 b48 c49 0 v47.length 100) :: (9, .v (.int .i64 (k50 : Int))) :: K) ((48, ent b48 c49 100 (List.map (ak7 true) v47)) :: J) t o) ?_ ?_ ?_
  ·exact ⟨_, _, _, hq, pin, aJ7⟩
  ·rintro k50 t o hlt ⟨v47, b48, c49, h, pq⟩
   refine pn pq ?_
   rw [g07] at h
   exact cls
  rintro x51 l52 k50 t o hlt hx56 hw hd ⟨v47, b48, c49, h, pq⟩
  refine pn pq ?_
  rw [g07] at h
  exact cls
 rintro t o ⟨b71, c72, pq⟩
 refine pnq pq ?_
 exact cls
theorem Pc7 : OkC [EO7] Aw7 J27 J37 := by
 refine ok fun G H a0 r h => ?_
 refine st1 fun bs t o => ?_
 dsimp only [nZ7] at h
 exact cls
theorem Pd7 : OkC [sW7, Ar7, yc7, At7, EM7, yg7, yh7] rc7 J47 J57 := by
 refine ok fun G H a0 r h => ?_
 refine st1 fun bs t o => ?_
 dsimp only [iA7] at h
 refine gx fun x2 h3 x4 h5 => ?_; intros; rename_i h
 obtain ⟨hf, h⟩ := gd h
 obtain ⟨q160, hq, h⟩ := bnd h
 refine ae7 [1] [8] (fun K J t o => ∃ q160_, q160 = .inr q160_ ∧ PP K J t o) ?_ ?_
 ·have ho1 := h
  refine aQ7 (xs := a0.commits) [1, 22, 23] [8] 0 hf (fun K J l164 k162 t o => er7 a0 l164 k162  = some q160 ∧ PP ((24, .v (.int .i64 (k162 : Int))) :: K) J t o) ?_ ?_ ?_
  ·exact ⟨hq, pin, aJ7⟩
  ·rintro k162 t o hlt ⟨h, pq⟩
   refine pn pq ?_
   rw [er7] at h
   exact cls
  rintro x163 l164 k162 t o hlt hx168 hw hd ⟨h, pq⟩
  refine pn pq ?_
  rw [er7] at h
  refine gx fun x172 h173 x174 h175 x176 h177 => ?_; intros; rename_i h
  obtain ⟨hf, h⟩ := gd h
  obtain ⟨q203, hq, h⟩ := bnd h
  refine ae7 [1, 22, 23, 24, 34, 35, 36, 37, 40, 41, 42, 43, 44, 47, 48, 49, 50, 51, 52, 53, 56, 57, 58, 59] [8, 32] (fun K J t o => ∃ q203_, q203 = .inr q203_ ∧ PP K J t o) ?_ ?_
  ·have ho2 := h
   refine aQ7 (xs := x163.up) [1, 3, 4, 22, 23, 24, 34, 35, 36, 37, 40, 41, 42, 43, 44, 47, 48, 49, 50, 51, 52, 53, 56, 57, 58, 59, 62, 63] [8, 32] 0 hf (fun K J l207 k205 t o => eq7 k162 x163 l207 k205  = some q203 ∧ PP ((64, .v (.int .i64 (k205 : Int))) :: K) J t o) ?_ ?_ ?_
   ·exact ⟨hq, pin, aJ7⟩
   ·rintro k205 t o hlt ⟨h, pq⟩
    refine pn pq ?_
    rw [eq7] at h
    exact cls
   rintro x206 l207 k205 t o hlt hx211 hw hd ⟨h, pq⟩
   refine pn pq ?_
   rw [eq7] at h
   exact cls
  rintro t o ⟨q203, rfl, pq⟩
  refine pnq pq ?_
  exact cls
 rintro t o ⟨q160, rfl, pq⟩
 refine pnq pq ?_
 try (refine gx ?_; intros; rename_i h)
 obtain ⟨hf, h⟩ := gd h
 obtain ⟨q248, hq, h⟩ := bnd h
 refine ae7 [] [] (fun K J t o => ∃ q248_, q248 = .inr q248_ ∧ PP K J t o) ?_ ?_
 ·have ho1 := h
  refine aQ7 (xs := a0.heads) [1, 85, 86] [8] 0 hf (fun K J l252 k250 t o => es7 a0 l252 k250  = some q248 ∧ PP ((87, .v (.int .i64 (k250 : Int))) :: K) J t o) ?_ ?_ ?_
  ·exact ⟨hq, pin, aJ7⟩
  ·rintro k250 t o hlt ⟨h, pq⟩
   refine pn pq ?_
   rw [es7] at h
   exact cls
  rintro x251 l252 k250 t o hlt hx256 hw hd ⟨h, pq⟩
  refine pn pq ?_
  rw [es7] at h
  exact cls
 rintro t o ⟨q248, rfl, pq⟩
 refine pnq pq ?_
 exact cls
theorem Pe7 : OkC [] vN7 J67 J77 := by
 refine ok fun G H ⟨a0, a1⟩ r h => ?_
 refine st1 fun bs t o => ?_
 dsimp only [hr7] at h
 refine gx fun h4 x5 h6 => ?_; intros; rename_i h
 refine cI7 (f := bK7) (List.replicate ((a0.commits.length : Int)).toNat false) true (aF7 h6).2 ?_
 try (refine gx ?_; intros; rename_i h)
 obtain ⟨q128, hq, h⟩ := bnd h
 refine ae7 [] [] (fun K J t o => ∃ b174 c175, PP ((5, .ref 96 b174 c175 0 q128.length 33) :: K) ((96, ent b174 c175 33 (List.map bK7 q128)) :: J) t o) ?_ ?_
 ·refine dB7 [2] [16] (fun K J n133 t o => ∃ v129 v130 b131 c132, et7 a0 n133 v129 v130 = some q128 ∧ PP ((5, .ref 96 b131 c132 0 v130.length 33) :: (6, .v (.int .i64 v129)) :: K) ((96, ent b131 c132 33 (List.map bK7 v130)) :: J) t o) ?_ ?_
  ·exact ⟨_, _, _, _, hq, pin, aJ7⟩
  rintro n133 t o ⟨v129, v130, b131, c132, h, pq⟩
  refine pn pq ?_
  cases n133 with
  | zero => rw [et7] at h; cases h
  | succ n133 =>
   rw [et7] at h
   refine gx fun x134 h135 x136 h137 => ?_; intros; rename_i h
   obtain ⟨hf, h⟩ := gd h
   obtain ⟨q154, hq, h⟩ := bnd h
   refine ae7 [2, 6] [16] (fun K J t o => ∃ b171 c172, PP ((5, .ref 96 b171 c172 0 q154.length 33) :: K) ((96, ent b171 c172 33 (List.map bK7 q154)) :: J) t o) ?_ ?_
   ·refine aQ7 (xs := x136.up) [2, 6, 30, 31] [16] 0 hf (fun K J l161 k159 t o => ∃ v156 b157 c158, fJ7 l161 k159 v156 = some q154 ∧ PP ((5, .ref 96 b157 c158 0 v156.length 33) :: (32, .v (.int .i64 (k159 : Int))) :: K) ((96, ent b157 c158 33 (List.map bK7 v156)) :: J) t o) ?_ ?_ ?_
    ·exact ⟨_, _, _, hq, pin, aJ7⟩
    ·rintro k159 t o hlt ⟨v156, b157, c158, h, pq⟩
     refine pn pq ?_
     rw [fJ7] at h
     exact cls
    rintro x160 l161 k159 t o hlt hx165 hw hd ⟨v156, b157, c158, h, pq⟩
    refine pn pq ?_
    rw [fJ7] at h
    refine gx fun x168 h169 => ?_; intros; rename_i h
    refine cI7 (f := bK7) v156 true (aF7 h169).2 ?_
    exact cls
   rintro t o ⟨b171, c172, pq⟩
   refine pnq pq ?_
   exact cls
 rintro t o ⟨b174, c175, pq⟩
 refine pnq pq ?_
 exact cls
theorem Pf7 : OkC [vN7] Ax7 J87 J97 := by
 refine ok fun G H ⟨a0, a1, a2⟩ r h => ?_
 refine st1 fun bs t o => ?_
 dsimp only [uo7] at h
 exact cls
theorem Pg7 : OkC [Ax7] EP7 Ka7 Kb7 := by
 refine ok fun G H ⟨a0, a1, a2⟩ r h => ?_
 have H_an9 := H _ (.head _)
 replace H := mV7 0 H
 refine st1 fun bs t o => ?_
 dsimp only [rd7] at h
 try (refine gx ?_; intros; rename_i h)
 obtain ⟨hf, h⟩ := gd h
 obtain ⟨q14, hq, h⟩ := bnd h
 refine ae7 [] [] (fun K J t o => ∃ q14_, q14 = .inr q14_ ∧ PP K J t o) ?_ ?_
 ·have ho1 := h
  refine aQ7 (xs := a0) [0, 1, 7] [] 0 hf (fun K J l18 k16 t o => fK7 a1 a2 l18 k16  = some q14 ∧ PP ((8, .v (.int .i64 (k16 : Int))) :: K) J t o) ?_ ?_ ?_
  ·exact ⟨hq, pin, aJ7⟩
  ·rintro k16 t o hlt ⟨h, pq⟩
   refine pn pq ?_
   rw [fK7] at h
   exact cls
  rintro x17 l18 k16 t o hlt hx22 hw hd ⟨h, pq⟩
  refine pn pq ?_
  rw [fK7] at h
  try (refine gx ?_; intros; rename_i h)
  obtain ⟨x25, h26, h⟩ := bnd h
  refine bF7 (c := Ax7) (x17, a1, a2) H_an9 h26 fun ch => ?_
  exact cls
 rintro t o ⟨q14, rfl, pq⟩
 refine pnq pq ?_
 exact cls
theorem Ph7 : OkC [EP7] EQ7 Kc7 Kd7 := by
 refine ok fun G H ⟨a0, a1, a2⟩ r h => ?_
 refine st1 fun bs t o => ?_
 dsimp only [re7] at h
 exact cls
theorem Pi7 : OkC [rc7, yh7, vN7, EQ7] ER7 Ke7 Kf7 := by
 refine ok fun G H ⟨a0, a1, a2⟩ r h => ?_
 refine st1 fun bs t o => ?_
 dsimp only [rf7] at h
 refine gx fun x2 h3 x4 h5 x6 h7 x11 h12 x15 h16 => ?_; intros; rename_i h
 obtain ⟨q76, hq, h⟩ := bnd h
 refine ae7 [] [] (fun K J t o => ∃ b109 c110, PP ((9, .ref 264 b109 c110 0 q76.length 17) :: K) ((264, ent b109 c110 17 (List.map bo7 q76)) :: J) t o) ?_ ?_
 ·refine dB7 [3, 7, 8] [24, 232, 256] (fun K J n82 t o => ∃ v77 v80 b78 c79 b81, iB7 x11 x15 a0 n82 v77 v80 = some q76 ∧ PP ((9, .ref 264 b78 c79 0 v77.length 17) :: (10, .ptr 80 b81 17 0 0) :: K) ((264, ent b78 c79 17 (List.map bo7 v77)) :: (80, ⟨b81, 1, 17, true, [[.v (.int .i64 v80)]]⟩) :: J) t o) ?_ ?_
  ·exact ⟨_, _, _, _, _, hq, pin, aJ7⟩
  rintro n82 t o ⟨v77, v80, b78, c79, b81, h, pq⟩
  refine pn pq ?_
  cases n82 with
  | zero => rw [iB7] at h; cases h
  | succ n82 =>
   rw [iB7] at h
   try (refine gx ?_; intros; rename_i h)
   obtain ⟨q93, hq, h⟩ := bnd h
   refine a97 [3, 7, 8, 10] [24, 232, 256, 80] (fun K J t o => ∃ b105 c106, PP ((9, .ref 264 b105 c106 0 q93.length 17) :: K) ((264, ent b105 c106 17 (List.map bo7 q93)) :: J) t o) ?_ ?_
   ·have h := hq
    exact cls
   rintro t o ⟨b105, c106, pq⟩
   refine pn pq ?_
   exact cls
 rintro t o ⟨b109, c110, pq⟩
 refine pnq pq ?_
 exact cls
theorem Pj7 : OkC [] Ay7 Kh7 Ki7 := by
 refine ok fun G H ⟨a0, a1⟩ r h => ?_
 refine st1 fun bs t o => ?_
 dsimp only [uq7] at h
 exact cls
theorem Pk7 : OkC [Ay7] ET7 Kj7 Kk7 := by
 refine ok fun G H ⟨a0, a1⟩ r h => ?_
 have H_bl9 := H _ (.head _)
 replace H := mV7 0 H
 refine st1 fun bs t o => ?_
 dsimp only [ur7] at h
 try (refine gx ?_; intros; rename_i h)
 obtain ⟨hf, h⟩ := gd h
 obtain ⟨q14, hq, h⟩ := bnd h
 refine ae7 [] [] (fun K J t o => ∃ q14_, q14 = .inr q14_ ∧ PP K J t o) ?_ ?_
 ·have ho1 := h
  refine aQ7 (xs := a0) [0, 1, 7] [] 0 hf (fun K J l18 k16 t o => fL7 a1 l18 k16  = some q14 ∧ PP ((8, .v (.int .i64 (k16 : Int))) :: K) J t o) ?_ ?_ ?_
  ·exact ⟨hq, pin, aJ7⟩
  ·rintro k16 t o hlt ⟨h, pq⟩
   refine pn pq ?_
   rw [fL7] at h
   exact cls
  rintro x17 l18 k16 t o hlt hx22 hw hd ⟨h, pq⟩
  refine pn pq ?_
  rw [fL7] at h
  try (refine gx ?_; intros; rename_i h)
  obtain ⟨x25, h26, h⟩ := bnd h
  refine bF7 (c := Ay7) (x17, a1) H_bl9 h26 fun ch => ?_
  exact cls
 rintro t o ⟨q14, rfl, pq⟩
 refine pnq pq ?_
 exact cls
theorem Pl7 : OkC [ET7] EU7 Kl7 Km7 := by
 refine ok fun G H ⟨a0, a1⟩ r h => ?_
 refine st1 fun bs t o => ?_
 dsimp only [rh7] at h
 exact cls
theorem Pm7 : OkC [EU7, vM7] EV7 Kn7 Ko7 := by
 refine ok fun G H ⟨a0, a1⟩ r h => ?_
 refine st1 fun bs t o => ?_
 dsimp only [ri7] at h
 exact cls
theorem Pn7 : OkC [Kp7] EW7 Kq7 Kr7 := by
 refine ok fun G H ⟨a0, a1⟩ r h => ?_
 refine st1 fun bs t o => ?_
 dsimp only [n07] at h
 refine gx fun x2 h3 => ?_; intros; rename_i h
 obtain ⟨q43, hq, h⟩ := bnd h
 refine ae7 [] [] (fun K J t o => ∃ b67 c68, PP ((5, .ref 72 b67 c68 0 q43.length 194) :: K) ((72, ent b67 c68 194 (List.map fj7 q43)) :: J) t o) ?_ ?_
 ·refine dB7 [0, 1, 6] [] (fun K J n49 t o => ∃ v44 v45 v46 b47 c48, dF7 a0 a1 x2 n49 v44 v45 v46 = some q43 ∧ PP ((5, .ref 72 b47 c48 0 v46.length 194) :: (7, .v (.int .i64 v44)) :: (8, .v (.int .i64 v45)) :: K) ((72, ent b47 c48 194 (List.map fj7 v46)) :: J) t o) ?_ ?_
  ·exact ⟨_, _, _, _, _, hq, pin, aJ7⟩
  rintro n49 t o ⟨v44, v45, v46, b47, c48, h, pq⟩
  refine pn pq ?_
  cases n49 with
  | zero => rw [dF7] at h; cases h
  | succ n49 =>
   rw [dF7] at h
   exact cls
 rintro t o ⟨b67, c68, pq⟩
 refine pnq pq ?_
 exact cls
theorem Po7 : OkC [] EX7 Ks7 Kt7 := by
 refine ok fun G H ⟨a0, a1⟩ r h => ?_
 refine st1 fun bs t o => ?_
 dsimp only [n17] at h
 try (refine gx ?_; intros; rename_i h)
 obtain ⟨hf, h⟩ := gd h
 obtain ⟨q11, hq, h⟩ := bnd h
 refine ae7 [] [] (fun K J t o => ∃ q11_, q11 = .inr q11_ ∧ PP K J t o) ?_ ?_
 ·have ho1 := h
  refine aQ7 (xs := a0) [1, 7, 8] [] 0 hf (fun K J l15 k13 t o => fM7 a1 l15 k13  = some q11 ∧ PP ((9, .v (.int .i64 (k13 : Int))) :: K) J t o) ?_ ?_ ?_
  ·exact ⟨hq, pin, aJ7⟩
  ·rintro k13 t o hlt ⟨h, pq⟩
   refine pn pq ?_
   rw [fM7] at h
   exact cls
  rintro x14 l15 k13 t o hlt hx19 hw hd ⟨h, pq⟩
  refine pn pq ?_
  rw [fM7] at h
  exact cls
 rintro t o ⟨q11, rfl, pq⟩
 refine pnq pq ?_
 exact cls
theorem Pp7 : OkC [] Az7 Ku7 Kv7 := by
 refine ok fun G H ⟨a0, a1⟩ r h => ?_
 refine st1 fun bs t o => ?_
 dsimp only [us7] at h
 exact cls
theorem Pq7 : OkC [Az7] EY7 Kw7 Kx7 := by
 refine ok fun G H ⟨a0, a1⟩ r h => ?_
 have H_ag9 := H _ (.head _)
 replace H := mV7 0 H
 refine st1 fun bs t o => ?_
 dsimp only [ut7] at h
 try (refine gx ?_; intros; rename_i h)
 obtain ⟨hf, h⟩ := gd h
 obtain ⟨q14, hq, h⟩ := bnd h
 refine ae7 [] [] (fun K J t o => ∃ q14_, q14 = .inr q14_ ∧ PP K J t o) ?_ ?_
 ·have ho1 := h
  refine aQ7 (xs := a0) [0, 1, 7] [] 0 hf (fun K J l18 k16 t o => fN7 a1 l18 k16  = some q14 ∧ PP ((8, .v (.int .i64 (k16 : Int))) :: K) J t o) ?_ ?_ ?_
  ·exact ⟨hq, pin, aJ7⟩
  ·rintro k16 t o hlt ⟨h, pq⟩
   refine pn pq ?_
   rw [fN7] at h
   exact cls
  rintro x17 l18 k16 t o hlt hx22 hw hd ⟨h, pq⟩
  refine pn pq ?_
  rw [fN7] at h
  try (refine gx ?_; intros; rename_i h)
  obtain ⟨x25, h26, h⟩ := bnd h
  refine bF7 (c := Az7) (x17, a1) H_ag9 h26 fun ch => ?_
  exact cls
 rintro t o ⟨q14, rfl, pq⟩
 refine pnq pq ?_
 exact cls
theorem Pr7 : OkC [EY7] EZ7 Ky7 Kz7 := by
 refine ok fun G H ⟨a0, a1⟩ r h => ?_
 refine st1 fun bs t o => ?_
 dsimp only [rj7] at h
 exact cls
theorem Ps7 : OkC [EW7, EX7, Aq7] E07 KA7 KB7 := by
 refine ok fun G H ⟨a0, a1, a2⟩ r h => ?_
 refine st1 fun bs t o => ?_
 dsimp only [n27] at h
 refine gx fun x4 h5 x8 h9 => ?_; intros; rename_i h
 obtain ⟨q641, hq, h⟩ := bnd h
 refine ae7 [] [] (fun K J t o => ∃ q641_ b858 c859, q641 = .inr q641_ ∧ PP ((10, .ref 320 b858 c859 0 q641_.length 66) :: K) ((320, ent b858 c859 66 (List.map ePt q641_)) :: J) t o) ?_ ?_
 ·have ho1 := h
  refine dB7 [0, 1, 2, 8, 9] [288, 312] (fun K J n649 t o => ∃ v642 v643 v644 v645 v646 b647 c648, eu7 a0 x4 x8 a1 a2 n649 v642 v643 v644 v645 v646 = some q641 ∧ PP ((10, .ref 320 b647 c648 0 v646.length 66) :: (11, .v (.int .i64 v642)) :: (12, .v (.int .i64 v643)) :: (13, .v (.int .i64 v644)) :: (14, .v (.int .i64 v645)) :: K) ((320, ent b647 c648 66 (List.map ePt v646)) :: J) t o) ?_ ?_
  ·exact ⟨_, _, _, _, _, _, _, hq, pin, aJ7⟩
  rintro n649 t o ⟨v642, v643, v644, v645, v646, b647, c648, h, pq⟩
  refine pn pq ?_
  cases n649 with
  | zero => rw [eu7] at h; cases h
  | succ n649 =>
   rw [eu7] at h
   try (refine gx ?_; intros; rename_i h)
   obtain ⟨q750, hq, h⟩ := bnd h
   refine a97 [0, 1, 2, 8, 9, 14] [288, 312] (fun K J t o => ∃ q750_ b855 c856, q750 = .inr q750_ ∧ PP ((10, .ref 320 b855 c856 0 q750_.2.2.2.length 66) :: (11, .v (.int .i64 q750_.1)) :: (12, .v (.int .i64 q750_.2.1)) :: (13, .v (.int .i64 q750_.2.2.1)) :: K) ((320, ent b855 c856 66 (List.map ePt q750_.2.2.2)) :: J) t o) ?_ ?_
   ·have ho2 := h
    have h := hq
    try (refine gx ?_; intros; rename_i h)
    refine cnd h rfl rfl (fun h c => ?_) fun h c => ?_
    ·try rw [c]
     refine gx fun x751 h752 x753 h754 x755 h756 x757 h758 x759 h760 => ?_; intros; rename_i h
     obtain ⟨q777, hq, h⟩ := bnd h
     refine a97 [0, 1, 2, 8, 9, 14, 15, 16, 64, 65] [288, 312] (fun K J t o => ∃ q777_ b795 c796, q777 = .inr q777_ ∧ PP ((10, .ref 320 b795 c796 0 q777_.length 66) :: K) ((320, ent b795 c796 66 (List.map ePt q777_)) :: J) t o) ?_ ?_
     ·have ho3 := h
      have h := hq
      exact cls
     rintro t o ⟨q777, b795, c796, rfl, pq⟩
     refine pn pq ?_
     exact cls
    try rw [c]
    refine gx fun x803 h804 x805 h806 x807 h808 => ?_; intros; rename_i h
    obtain ⟨q825, hq, h⟩ := bnd h
    refine a97 [0, 1, 2, 8, 9, 14, 15, 16] [288, 312] (fun K J t o => ∃ q825_ b843 c844, q825 = .inr q825_ ∧ PP ((10, .ref 320 b843 c844 0 q825_.length 66) :: K) ((320, ent b843 c844 66 (List.map ePt q825_)) :: J) t o) ?_ ?_
    ·have ho3 := h
     have h := hq
     exact cls
    rintro t o ⟨q825, b843, c844, rfl, pq⟩
    refine pn pq ?_
    exact cls
   rintro t o ⟨q750, b855, c856, rfl, pq⟩
   refine pn pq ?_
   exact cls
 rintro t o ⟨q641, b858, c859, rfl, pq⟩
 refine pnq pq ?_
 exact cls
theorem Pt7 : OkC [KC7] AA7 KD7 KE7 := by
 refine ok fun G H a0 r h => ?_
 refine st1 fun bs t o => ?_
 dsimp only [rk7] at h
 try (refine gx ?_; intros; rename_i h)
 obtain ⟨hf, h⟩ := gd h
 obtain ⟨q9, hq, h⟩ := bnd h
 refine ae7 [0] [] (fun K J t o => PP ((3, .v (.int .i64 q9)) :: K) J t o) ?_ ?_
 ·refine aQ7 (xs := a0) [0, 9, 10] [] 0 hf (fun K J l14 k12 t o => ∃ v10, fO7 l14 k12 v10 = some q9 ∧ PP ((3, .v (.int .i64 v10)) :: (11, .v (.int .i64 (k12 : Int))) :: K) J t o) ?_ ?_ ?_
  ·exact ⟨_, hq, pin, aJ7⟩
  ·rintro k12 t o hlt ⟨v10, h, pq⟩
   refine pn pq ?_
   rw [fO7] at h
   exact cls
  rintro x13 l14 k12 t o hlt hx18 hw hd ⟨v10, h, pq⟩
  refine pn pq ?_
  rw [fO7] at h
  exact cls
 rintro t o pq
 refine pnq pq ?_
 refine gx fun x22 h23 => ?_; intros; rename_i h
 obtain ⟨hf, h⟩ := gd h
 obtain ⟨q45, hq, h⟩ := bnd h
 refine ae7 [] [] (fun K J t o => ∃ b63 c64, PP ((6, .ref 192 b63 c64 0 q45.length 82) :: K) ((192, ent b63 c64 82 (List.map bg7 q45)) :: J) t o) ?_ ?_
 ·refine aQ7 (xs := a0) [25, 26] [] 0 hf (fun K J l52 k50 t o => ∃ v47 b48 c49, ev7 l52 k50 v47 = some q45 ∧ PP ((6, .ref 192 b48 c49 0 v47.length 82) :: (27, .v (.int .i64 (k50 : Int))) :: K) ((192, ent b48 c49 82 (List.map bg7 v47)) :: J) t o) ?_ ?_ ?_
  ·exact ⟨_, _, _, hq, pin, aJ7⟩
  ·rintro k50 t o hlt ⟨v47, b48, c49, h, pq⟩
   refine pn pq ?_
   rw [ev7] at h
   exact cls
  rintro x51 l52 k50 t o hlt hx56 hw hd ⟨v47, b48, c49, h, pq⟩
  refine pn pq ?_
  rw [ev7] at h
  exact cls
 rintro t o ⟨b63, c64, pq⟩
 refine pnq pq ?_
 exact cls
end Go.Proofs.AM
