/- Lemmas of the proof (THF6), on an abstract machine. Conditions: none. -/
import Derived.Test.YtnnfdbdheoajgabGreatTHD
set_option linter.unusedVariables false
set_option linter.unusedSimpArgs false
set_option maxRecDepth 100000
set_option maxHeartbeats 4000000
namespace Go.Proofs.AM
attribute [local irreducible] vwp cM7 bF7 fN7 vdo i07 mF7 jF7 eX7 mr7 ku7 bJ7 eO7 j37 dN7 jt7 mq7 my7
theorem Sx7 : OkC [Bm7] Gd7 Mz7 MA7 := by
 refine ok fun G H ⟨a0, a1⟩ r h => ?_
 have H_ap9 := H _ (.head _)
 replace H := jJ7 0 H
 refine st1 fun bs t o => ?_
 dsimp only [ri7] at h
 try (refine gx ?_; intros; rename_i h)
 obtain ⟨hf, h⟩ := gd h
 obtain ⟨q14, hq, h⟩ := bnd h
 refine ac7 [] [] (fun K J t o => ∃ q14_, q14 = .inr q14_ ∧ PP K J t o) ?_ ?_
 ·have ho1 := h
  refine ay7 (xs := a0) [0, 1, 7] [] 0 hf (fun K J l18 k16 t o => fp7 a1 l18 k16  = some q14 ∧ PP ((8, .v (.int .i64 (k16 : Int))) :: K) J t o) ?_ ?_ ?_
  ·exact ⟨hq, pin, aH7⟩
  ·rintro k16 t o hlt ⟨h, pq⟩
   refine pn pq ?_
   rw [fp7] at h
   exact cls
  rintro x17 l18 k16 t o hlt hx22 hw hd ⟨h, pq⟩
  refine pn pq ?_
  rw [fp7] at h
  try (refine gx ?_; intros; rename_i h)
  obtain ⟨x25, h26, h⟩ := bnd h
  refine bm7 (c := Bm7) (x17, a1) H_ap9 h26 fun ch => ?_
  exact cls
 rintro t o ⟨q14, rfl, pq⟩
 refine pnq pq ?_
 exact cls
theorem Sy7 : OkC [Gd7] Bn7 MB7 MC7 := by
 refine ok fun G H ⟨a0, a1⟩ r h => ?_
 refine st1 fun bs t o => ?_
 dsimp only [lE7] at h
 exact cls
theorem Sz7 : OkC [ta7] Bo7 MD7 ME7 := by
 refine ok fun G H ⟨a0, a1⟩ r h => ?_
 refine st1 fun bs t o => ?_
 dsimp only [lF7] at h
 exact cls
theorem SA7 : OkC [] Bp7 MF7 MG7 := by
 refine ok fun G H a0 r h => ?_
 refine st1 fun bs t o => ?_
 dsimp only [lG7] at h
 exact cls
theorem SB7 : OkC [Bp7] wp7 MH7 MI7 := by
 refine ok fun G H a0 r h => ?_
 refine st1 fun bs t o => ?_
 dsimp only [jQ7] at h
 exact cls
theorem SC7 : OkC [wp7] Ge7 MJ7 MK7 := by
 refine ok fun G H a0 r h => ?_
 refine st1 fun bs t o => ?_
 dsimp only [rj7] at h
 try (refine gx ?_; intros; rename_i h)
 obtain ⟨hf, h⟩ := gd h
 obtain ⟨q45, hq, h⟩ := bnd h
 refine ac7 [] [] (fun K J t o => ∃ b71 c72, PP ((3, .ref 48 b71 c72 0 q45.length 100) :: K) ((48, ent b71 c72 100 (List.map (am7 true) q45)) :: J) t o) ?_ ?_
 ·refine ay7 (xs := a0) [7, 8] [] 0 hf (fun K J l52 k50 t o => ∃ v47 b48 c49, gM7 l52 k50 v47 = some q45 ∧ PP ((3, .ref 48 b48 c49 0 v47.length 100) :: (9, .v (.int .i64 (k50 : Int))) :: K) ((48, ent b48 c49 100 (List.map (am7 true) v47)) :: J) t o) ?_ ?_ ?_
  ·exact ⟨_, _, _, hq, pin, aH7⟩
  ·rintro k50 t o hlt ⟨v47, b48, c49, h, pq⟩
   refine pn pq ?_
   rw [gM7] at h
   exact cls
  rintro x51 l52 k50 t o hlt hx56 hw hd ⟨v47, b48, c49, h, pq⟩
  refine pn pq ?_
  rw [gM7] at h
  exact cls
 rintro t o ⟨b71, c72, pq⟩
 refine pnq pq ?_
 exact cls
theorem SD7 : OkC [Ge7] Bq7 ML7 MM7 := by
 refine ok fun G H a0 r h => ?_
 refine st1 fun bs t o => ?_
 dsimp only [nX7] at h
 exact cls
theorem SE7 : OkC [ta7, Bj7, yX7, Bl7, Gc7, Bn7, Bo7] Br7 MN7 MO7 := by
 refine ok fun G H a0 r h => ?_
 refine st1 fun bs t o => ?_
 dsimp only [nY7] at h
 refine gx fun x2 h3 x4 h5 => ?_; intros; rename_i h
 obtain ⟨hf, h⟩ := gd h
 obtain ⟨q160, hq, h⟩ := bnd h
 refine ac7 [1] [8] (fun K J t o => ∃ q160_, q160 = .inr q160_ ∧ PP K J t o) ?_ ?_
 ·have ho1 := h
  refine ay7 (xs := a0.commits) [1, 22, 23] [8] 0 hf (fun K J l164 k162 t o => eb7 a0 l164 k162  = some q160 ∧ PP ((24, .v (.int .i64 (k162 : Int))) :: K) J t o) ?_ ?_ ?_
  ·exact ⟨hq, pin, aH7⟩
  ·rintro k162 t o hlt ⟨h, pq⟩
   refine pn pq ?_
   rw [eb7] at h
   exact cls
  rintro x163 l164 k162 t o hlt hx168 hw hd ⟨h, pq⟩
  refine pn pq ?_
  rw [eb7] at h
  refine gx fun x172 h173 x174 h175 x176 h177 => ?_; intros; rename_i h
  obtain ⟨hf, h⟩ := gd h
  obtain ⟨q203, hq, h⟩ := bnd h
  refine ac7 [1, 22, 23, 24, 34, 35, 36, 37, 40, 41, 42, 43, 44, 47, 48, 49, 50, 51, 52, 53, 56, 57, 58, 59] [8, 32] (fun K J t o => ∃ q203_, q203 = .inr q203_ ∧ PP K J t o) ?_ ?_
  ·have ho2 := h
   refine ay7 (xs := x163.up) [1, 3, 4, 22, 23, 24, 34, 35, 36, 37, 40, 41, 42, 43, 44, 47, 48, 49, 50, 51, 52, 53, 56, 57, 58, 59, 62, 63] [8, 32] 0 hf (fun K J l207 k205 t o => ea7 k162 x163 l207 k205  = some q203 ∧ PP ((64, .v (.int .i64 (k205 : Int))) :: K) J t o) ?_ ?_ ?_
   ·exact ⟨hq, pin, aH7⟩
   ·rintro k205 t o hlt ⟨h, pq⟩
    refine pn pq ?_
    rw [ea7] at h
    exact cls
   rintro x206 l207 k205 t o hlt hx211 hw hd ⟨h, pq⟩
   refine pn pq ?_
   rw [ea7] at h
   exact cls
  rintro t o ⟨q203, rfl, pq⟩
  refine pnq pq ?_
  exact cls
 rintro t o ⟨q160, rfl, pq⟩
 refine pnq pq ?_
 try (refine gx ?_; intros; rename_i h)
 obtain ⟨hf, h⟩ := gd h
 obtain ⟨q248, hq, h⟩ := bnd h
 refine ac7 [] [] (fun K J t o => ∃ q248_, q248 = .inr q248_ ∧ PP K J t o) ?_ ?_
 ·have ho1 := h
  refine ay7 (xs := a0.heads) [1, 85, 86] [8] 0 hf (fun K J l252 k250 t o => ec7 a0 l252 k250  = some q248 ∧ PP ((87, .v (.int .i64 (k250 : Int))) :: K) J t o) ?_ ?_ ?_
  ·exact ⟨hq, pin, aH7⟩
  ·rintro k250 t o hlt ⟨h, pq⟩
   refine pn pq ?_
   rw [ec7] at h
   exact cls
  rintro x251 l252 k250 t o hlt hx256 hw hd ⟨h, pq⟩
  refine pn pq ?_
  rw [ec7] at h
  exact cls
 rintro t o ⟨q248, rfl, pq⟩
 refine pnq pq ?_
 exact cls
theorem SF7 : OkC [] yZ7 MP7 MQ7 := by
 refine ok fun G H ⟨a0, a1⟩ r h => ?_
 refine st1 fun bs t o => ?_
 dsimp only [id7] at h
 refine gx fun h4 x5 h6 => ?_; intros; rename_i h
 refine bu7 (f := bI7) (List.replicate ((a0.commits.length : Int)).toNat false) true (aq7 h6).2 ?_
 try (refine gx ?_; intros; rename_i h)
 obtain ⟨q128, hq, h⟩ := bnd h
 refine ac7 [] [] (fun K J t o => ∃ b174 c175, PP ((5, .ref 96 b174 c175 0 q128.length 33) :: K) ((96, ent b174 c175 33 (List.map bI7 q128)) :: J) t o) ?_ ?_
 ·refine ce7 [2] [16] (fun K J n133 t o => ∃ v129 v130 b131 c132, ed7 a0 n133 v129 v130 = some q128 ∧ PP ((5, .ref 96 b131 c132 0 v130.length 33) :: (6, .v (.int .i64 v129)) :: K) ((96, ent b131 c132 33 (List.map bI7 v130)) :: J) t o) ?_ ?_
  ·exact ⟨_, _, _, _, hq, pin, aH7⟩
  rintro n133 t o ⟨v129, v130, b131, c132, h, pq⟩
  refine pn pq ?_
  cases n133 with
  | zero => rw [ed7] at h; cases h
  | succ n133 =>
   rw [ed7] at h
   refine gx fun x134 h135 x136 h137 => ?_; intros; rename_i h
   obtain ⟨hf, h⟩ := gd h
   obtain ⟨q154, hq, h⟩ := bnd h
   refine ac7 [2, 6] [16] (fun K J t o => ∃ b171 c172, PP ((5, .ref 96 b171 c172 0 q154.length 33) :: K) ((96, ent b171 c172 33 (List.map bI7 q154)) :: J) t o) ?_ ?_
   ·refine ay7 (xs := x136.up) [2, 6, 30, 31] [16] 0 hf (fun K J l161 k159 t o => ∃ v156 b157 c158, fq7 l161 k159 v156 = some q154 ∧ PP ((5, .ref 96 b157 c158 0 v156.length 33) :: (32, .v (.int .i64 (k159 : Int))) :: K) ((96, ent b157 c158 33 (List.map bI7 v156)) :: J) t o) ?_ ?_ ?_
    ·exact ⟨_, _, _, hq, pin, aH7⟩
    ·rintro k159 t o hlt ⟨v156, b157, c158, h, pq⟩
     refine pn pq ?_
     rw [fq7] at h
     exact cls
    rintro x160 l161 k159 t o hlt hx165 hw hd ⟨v156, b157, c158, h, pq⟩
    refine pn pq ?_
    rw [fq7] at h
    refine gx fun x168 h169 => ?_; intros; rename_i h
    refine bu7 (f := bI7) v156 true (aq7 h169).2 ?_
    exact cls
   rintro t o ⟨b171, c172, pq⟩
   refine pnq pq ?_
   exact cls
 rintro t o ⟨b174, c175, pq⟩
 refine pnq pq ?_
 exact cls
theorem SG7 : OkC [yZ7] Bs7 MR7 MS7 := by
 refine ok fun G H ⟨a0, a1, a2⟩ r h => ?_
 refine st1 fun bs t o => ?_
 dsimp only [uW7] at h
 exact cls
theorem SH7 : OkC [Bs7] Gf7 MT7 MU7 := by
 refine ok fun G H ⟨a0, a1, a2⟩ r h => ?_
 have H_ak9 := H _ (.head _)
 replace H := jJ7 0 H
 refine st1 fun bs t o => ?_
 dsimp only [rk7] at h
 try (refine gx ?_; intros; rename_i h)
 obtain ⟨hf, h⟩ := gd h
 obtain ⟨q14, hq, h⟩ := bnd h
 refine ac7 [] [] (fun K J t o => ∃ q14_, q14 = .inr q14_ ∧ PP K J t o) ?_ ?_
 ·have ho1 := h
  refine ay7 (xs := a0) [0, 1, 7] [] 0 hf (fun K J l18 k16 t o => fr7 a1 a2 l18 k16  = some q14 ∧ PP ((8, .v (.int .i64 (k16 : Int))) :: K) J t o) ?_ ?_ ?_
  ·exact ⟨hq, pin, aH7⟩
  ·rintro k16 t o hlt ⟨h, pq⟩
   refine pn pq ?_
   rw [fr7] at h
   exact cls
  rintro x17 l18 k16 t o hlt hx22 hw hd ⟨h, pq⟩
  refine pn pq ?_
  rw [fr7] at h
  try (refine gx ?_; intros; rename_i h)
  obtain ⟨x25, h26, h⟩ := bnd h
  refine bm7 (c := Bs7) (x17, a1, a2) H_ak9 h26 fun ch => ?_
  exact cls
 rintro t o ⟨q14, rfl, pq⟩
 refine pnq pq ?_
 exact cls
theorem SI7 : OkC [Gf7] Gg7 MV7 MW7 := by
 refine ok fun G H ⟨a0, a1, a2⟩ r h => ?_
 refine st1 fun bs t o => ?_
 dsimp only [rl7] at h
 exact cls
theorem SJ7 : OkC [Br7, Bo7, yZ7, Gg7] Gh7 MX7 MY7 := by
 refine ok fun G H ⟨a0, a1, a2⟩ r h => ?_
 refine st1 fun bs t o => ?_
 dsimp only [rm7] at h
 refine gx fun x2 h3 x4 h5 x6 h7 x11 h12 x15 h16 => ?_; intros; rename_i h
 obtain ⟨q76, hq, h⟩ := bnd h
 refine ac7 [] [] (fun K J t o => ∃ b109 c110, PP ((9, .ref 264 b109 c110 0 q76.length 17) :: K) ((264, ent b109 c110 17 (List.map be7 q76)) :: J) t o) ?_ ?_
 ·refine ce7 [3, 7, 8] [24, 232, 256] (fun K J n82 t o => ∃ v77 v80 b78 c79 b81, ie7 x11 x15 a0 n82 v77 v80 = some q76 ∧ PP ((9, .ref 264 b78 c79 0 v77.length 17) :: (10, .ptr 80 b81 17 0 0) :: K) ((264, ent b78 c79 17 (List.map be7 v77)) :: (80, ⟨b81, 1, 17, true, [[.v (.int .i64 v80)]]⟩) :: J) t o) ?_ ?_
  ·exact ⟨_, _, _, _, _, hq, pin, aH7⟩
  rintro n82 t o ⟨v77, v80, b78, c79, b81, h, pq⟩
  refine pn pq ?_
  cases n82 with
  | zero => rw [ie7] at h; cases h
  | succ n82 =>
   rw [ie7] at h
   try (refine gx ?_; intros; rename_i h)
   obtain ⟨q93, hq, h⟩ := bnd h
   refine a87 [3, 7, 8, 10] [24, 232, 256, 80] (fun K J t o => ∃ b105 c106, PP ((9, .ref 264 b105 c106 0 q93.length 17) :: K) ((264, ent b105 c106 17 (List.map be7 q93)) :: J) t o) ?_ ?_
   ·have h := hq
    exact cls
   rintro t o ⟨b105, c106, pq⟩
   refine pn pq ?_
   exact cls
 rintro t o ⟨b109, c110, pq⟩
 refine pnq pq ?_
 exact cls
theorem SK7 : OkC [] Bt7 M07 M17 := by
 refine ok fun G H ⟨a0, a1⟩ r h => ?_
 refine st1 fun bs t o => ?_
 dsimp only [uY7] at h
 exact cls
theorem SL7 : OkC [Bt7] Gj7 M27 M37 := by
 refine ok fun G H ⟨a0, a1⟩ r h => ?_
 have H_bh9 := H _ (.head _)
 replace H := jJ7 0 H
 refine st1 fun bs t o => ?_
 dsimp only [uZ7] at h
 try (refine gx ?_; intros; rename_i h)
 obtain ⟨hf, h⟩ := gd h
 obtain ⟨q14, hq, h⟩ := bnd h
 refine ac7 [] [] (fun K J t o => ∃ q14_, q14 = .inr q14_ ∧ PP K J t o) ?_ ?_
 ·have ho1 := h
  refine ay7 (xs := a0) [0, 1, 7] [] 0 hf (fun K J l18 k16 t o => fs7 a1 l18 k16  = some q14 ∧ PP ((8, .v (.int .i64 (k16 : Int))) :: K) J t o) ?_ ?_ ?_
  ·exact ⟨hq, pin, aH7⟩
  ·rintro k16 t o hlt ⟨h, pq⟩
   refine pn pq ?_
   rw [fs7] at h
   exact cls
  rintro x17 l18 k16 t o hlt hx22 hw hd ⟨h, pq⟩
  refine pn pq ?_
  rw [fs7] at h
  try (refine gx ?_; intros; rename_i h)
  obtain ⟨x25, h26, h⟩ := bnd h
  refine bm7 (c := Bt7) (x17, a1) H_bh9 h26 fun ch => ?_
  exact cls
 rintro t o ⟨q14, rfl, pq⟩
 refine pnq pq ?_
 exact cls
theorem SM7 : OkC [Gj7] Gk7 M47 M57 := by
 refine ok fun G H ⟨a0, a1⟩ r h => ?_
 refine st1 fun bs t o => ?_
 dsimp only [ro7] at h
 exact cls
theorem SN7 : OkC [Gk7, wp7] Gl7 M67 M77 := by
 refine ok fun G H ⟨a0, a1⟩ r h => ?_
 refine st1 fun bs t o => ?_
 dsimp only [rp7] at h
 exact cls
theorem SO7 : OkC [M87] Gm7 M97 Na7 := by
 refine ok fun G H ⟨a0, a1⟩ r h => ?_
 refine st1 fun bs t o => ?_
 dsimp only [nZ7] at h
 refine gx fun x2 h3 => ?_; intros; rename_i h
 obtain ⟨q43, hq, h⟩ := bnd h
 refine ac7 [] [] (fun K J t o => ∃ b67 c68, PP ((5, .ref 72 b67 c68 0 q43.length 194) :: K) ((72, ent b67 c68 194 (List.map gd7 q43)) :: J) t o) ?_ ?_
 ·refine ce7 [0, 1, 6] [] (fun K J n49 t o => ∃ v44 v45 v46 b47 c48, ds7 a0 a1 x2 n49 v44 v45 v46 = some q43 ∧ PP ((5, .ref 72 b47 c48 0 v46.length 194) :: (7, .v (.int .i64 v44)) :: (8, .v (.int .i64 v45)) :: K) ((72, ent b47 c48 194 (List.map gd7 v46)) :: J) t o) ?_ ?_
  ·exact ⟨_, _, _, _, _, hq, pin, aH7⟩
  rintro n49 t o ⟨v44, v45, v46, b47, c48, h, pq⟩
  refine pn pq ?_
  cases n49 with
  | zero => rw [ds7] at h; cases h
  | succ n49 =>
   rw [ds7] at h
   exact cls
 rintro t o ⟨b67, c68, pq⟩
 refine pnq pq ?_
 exact cls
theorem SP7 : OkC [] Gn7 Nb7 Nc7 := by
 refine ok fun G H ⟨a0, a1⟩ r h => ?_
 refine st1 fun bs t o => ?_
 dsimp only [n07] at h
 try (refine gx ?_; intros; rename_i h)
 obtain ⟨hf, h⟩ := gd h
 obtain ⟨q11, hq, h⟩ := bnd h
 refine ac7 [] [] (fun K J t o => ∃ q11_, q11 = .inr q11_ ∧ PP K J t o) ?_ ?_
 ·have ho1 := h
  refine ay7 (xs := a0) [1, 7, 8] [] 0 hf (fun K J l15 k13 t o => ft7 a1 l15 k13  = some q11 ∧ PP ((9, .v (.int .i64 (k13 : Int))) :: K) J t o) ?_ ?_ ?_
  ·exact ⟨hq, pin, aH7⟩
  ·rintro k13 t o hlt ⟨h, pq⟩
   refine pn pq ?_
   rw [ft7] at h
   exact cls
  rintro x14 l15 k13 t o hlt hx19 hw hd ⟨h, pq⟩
  refine pn pq ?_
  rw [ft7] at h
  exact cls
 rintro t o ⟨q11, rfl, pq⟩
 refine pnq pq ?_
 exact cls
theorem SQ7 : OkC [] Bu7 Nd7 Ne7 := by
 refine ok fun G H ⟨a0, a1⟩ r h => ?_
 refine st1 fun bs t o => ?_
 dsimp only [u07] at h
 exact cls
theorem SR7 : OkC [Bu7] Go7 Nf7 Ng7 := by
 refine ok fun G H ⟨a0, a1⟩ r h => ?_
 have H_af9 := H _ (.head _)
 replace H := jJ7 0 H
 refine st1 fun bs t o => ?_
 dsimp only [u17] at h
 try (refine gx ?_; intros; rename_i h)
 obtain ⟨hf, h⟩ := gd h
 obtain ⟨q14, hq, h⟩ := bnd h
 refine ac7 [] [] (fun K J t o => ∃ q14_, q14 = .inr q14_ ∧ PP K J t o) ?_ ?_
 ·have ho1 := h
  refine ay7 (xs := a0) [0, 1, 7] [] 0 hf (fun K J l18 k16 t o => fu7 a1 l18 k16  = some q14 ∧ PP ((8, .v (.int .i64 (k16 : Int))) :: K) J t o) ?_ ?_ ?_
  ·exact ⟨hq, pin, aH7⟩
  ·rintro k16 t o hlt ⟨h, pq⟩
   refine pn pq ?_
   rw [fu7] at h
   exact cls
  rintro x17 l18 k16 t o hlt hx22 hw hd ⟨h, pq⟩
  refine pn pq ?_
  rw [fu7] at h
  try (refine gx ?_; intros; rename_i h)
  obtain ⟨x25, h26, h⟩ := bnd h
  refine bm7 (c := Bu7) (x17, a1) H_af9 h26 fun ch => ?_
  exact cls
 rintro t o ⟨q14, rfl, pq⟩
 refine pnq pq ?_
 exact cls
theorem SS7 : OkC [Go7] Gp7 Nh7 Ni7 := by
 refine ok fun G H ⟨a0, a1⟩ r h => ?_
 refine st1 fun bs t o => ?_
 dsimp only [rq7] at h
 exact cls
theorem ST7 : OkC [Gm7, Gn7, Bi7] Gq7 Nj7 Nk7 := by
 refine ok fun G H ⟨a0, a1, a2⟩ r h => ?_
 refine st1 fun bs t o => ?_
 dsimp only [n17] at h
 refine gx fun x4 h5 x8 h9 => ?_; intros; rename_i h
 obtain ⟨q641, hq, h⟩ := bnd h
 refine ac7 [] [] (fun K J t o => ∃ q641_ b858 c859, q641 = .inr q641_ ∧ PP ((10, .ref 320 b858 c859 0 q641_.length 66) :: K) ((320, ent b858 c859 66 (List.map ePt q641_)) :: J) t o) ?_ ?_
 ·have ho1 := h
  refine ce7 [0, 1, 2, 8, 9] [288, 312] (fun K J n649 t o => ∃ v642 v643 v644 v645 v646 b647 c648, ee7 a0 x4 x8 a1 a2 n649 v642 v643 v644 v645 v646 = some q641 ∧ PP ((10, .ref 320 b647 c648 0 v646.length 66) :: (11, .v (.int .i64 v642)) :: (12, .v (.int .i64 v643)) :: (13, .v (.int .i64 v644)) :: (14, .v (.int .i64 v645)) :: K) ((320, ent b647 c648 66 (List.map ePt v646)) :: J) t o) ?_ ?_
  ·exact ⟨_, _, _, _, _, _, _, hq, pin, aH7⟩
  rintro n649 t o ⟨v642, v643, v644, v645, v646, b647, c648, h, pq⟩
  refine pn pq ?_
  cases n649 with
  | zero => rw [ee7] at h; cases h
  | succ n649 =>
   rw [ee7] at h
   try (refine gx ?_; intros; rename_i h)
   obtain ⟨q750, hq, h⟩ := bnd h
   refine a87 [0, 1, 2, 8, 9, 14] [288, 312] (fun K J t o => ∃ q750_ b855 c856, q750 = .inr q750_ ∧ PP ((10, .ref 320 b855 c856 0 q750_.2.2.2.length 66) :: (11, .v (.int .i64 q750_.1)) :: (12, .v (.int .i64 q750_.2.1)) :: (13, .v (.int .i64 q750_.2.2.1)) :: K) ((320, ent b855 c856 66 (List.map ePt q750_.2.2.2)) :: J) t o) ?_ ?_
   ·have ho2 := h
    have h := hq
    try (refine gx ?_; intros; rename_i h)
    refine cnd h rfl rfl (fun h c => ?_) fun h c => ?_
    ·try rw [c]
     refine gx fun x751 h752 x753 h754 x755 h756 x757 h758 x759 h760 => ?_; intros; rename_i h
     obtain ⟨q777, hq, h⟩ := bnd h
     refine a87 [0, 1, 2, 8, 9, 14, 15, 16, 64, 65] [288, 312] (fun K J t o => ∃ q777_ b795 c796, q777 = .inr q777_ ∧ PP ((10, .ref 320 b795 c796 0 q777_.length 66) :: K) ((320, ent b795 c796 66 (List.map ePt q777_)) :: J) t o) ?_ ?_
     ·have ho3 := h
      have h := hq
      exact cls
     rintro t o ⟨q777, b795, c796, rfl, pq⟩
     refine pn pq ?_
     exact cls
    try rw [c]
    refine gx fun x803 h804 x805 h806 x807 h808 => ?_; intros; rename_i h
    obtain ⟨q825, hq, h⟩ := bnd h
    refine a87 [0, 1, 2, 8, 9, 14, 15, 16] [288, 312] (fun K J t o => ∃ q825_ b843 c844, q825 = .inr q825_ ∧ PP ((10, .ref 320 b843 c844 0 q825_.length 66) :: K) ((320, ent b843 c844 66 (List.map ePt q825_)) :: J) t o) ?_ ?_
    ·have ho3 := h
     have h := hq
     exact cls
    rintro t o ⟨q825, b843, c844, rfl, pq⟩
    refine pn pq ?_
    exact cls
   rintro t o ⟨q750, b855, c856, rfl, pq⟩
   refine pn pq ?_
   exact cls
 rintro t o ⟨q641, b858, c859, rfl, pq⟩
 refine pnq pq ?_
 exact cls
theorem SU7 : OkC [Nl7] Bv7 Nm7 Nn7 := by
 refine ok fun G H a0 r h => ?_
 refine st1 fun bs t o => ?_
 dsimp only [rr7] at h
 try (refine gx ?_; intros; rename_i h)
 obtain ⟨hf, h⟩ := gd h
 obtain ⟨q9, hq, h⟩ := bnd h
 refine ac7 [0] [] (fun K J t o => PP ((3, .v (.int .i64 q9)) :: K) J t o) ?_ ?_
 ·refine ay7 (xs := a0) [0, 9, 10] [] 0 hf (fun K J l14 k12 t o => ∃ v10, fv7 l14 k12 v10 = some q9 ∧ PP ((3, .v (.int .i64 v10)) :: (11, .v (.int .i64 (k12 : Int))) :: K) J t o) ?_ ?_ ?_
  ·exact ⟨_, hq, pin, aH7⟩
  ·rintro k12 t o hlt ⟨v10, h, pq⟩
   refine pn pq ?_
   rw [fv7] at h
   exact cls
  rintro x13 l14 k12 t o hlt hx18 hw hd ⟨v10, h, pq⟩
  refine pn pq ?_
  rw [fv7] at h
  exact cls
 rintro t o pq
 refine pnq pq ?_
 refine gx fun x22 h23 => ?_; intros; rename_i h
 obtain ⟨hf, h⟩ := gd h
 obtain ⟨q45, hq, h⟩ := bnd h
 refine ac7 [] [] (fun K J t o => ∃ b63 c64, PP ((6, .ref 192 b63 c64 0 q45.length 82) :: K) ((192, ent b63 c64 82 (List.map aX7 q45)) :: J) t o) ?_ ?_
 ·refine ay7 (xs := a0) [25, 26] [] 0 hf (fun K J l52 k50 t o => ∃ v47 b48 c49, ef7 l52 k50 v47 = some q45 ∧ PP ((6, .ref 192 b48 c49 0 v47.length 82) :: (27, .v (.int .i64 (k50 : Int))) :: K) ((192, ent b48 c49 82 (List.map aX7 v47)) :: J) t o) ?_ ?_ ?_
  ·exact ⟨_, _, _, hq, pin, aH7⟩
  ·rintro k50 t o hlt ⟨v47, b48, c49, h, pq⟩
   refine pn pq ?_
   rw [ef7] at h
   exact cls
  rintro x51 l52 k50 t o hlt hx56 hw hd ⟨v47, b48, c49, h, pq⟩
  refine pn pq ?_
  rw [ef7] at h
  exact cls
 rintro t o ⟨b63, c64, pq⟩
 refine pnq pq ?_
 exact cls
theorem SV7 : OkC [Gp7] Gr7 No7 Np7 := by
 refine ok fun G H ⟨a0, a1⟩ r h => ?_
 refine st1 fun bs t o => ?_
 dsimp only [lH7] at h
 exact cls
theorem SW7 : OkC [] wq7 Nq7 Nr7 := by
 refine ok fun G H ⟨a0, a1⟩ r h => ?_
 refine st1 fun bs t o => ?_
 dsimp only [n27] at h
 exact cls
theorem SX7 : OkC [Gi7, y07] Bw7 Ns7 Nt7 := by
 refine ok fun G H a0 r h => ?_
 have H_fa9 := H _ (.tail _ (.head _))
 replace H := jJ7 1 H
 refine st1 fun bs t o => ?_
 dsimp only [rs7] at h
 try (refine gx ?_; intros; rename_i h)
 obtain ⟨hf, h⟩ := gd h
 obtain ⟨q153, hq, h⟩ := bnd h
 refine ac7 [] [] (fun K J t o => ∃ b215 c216, PP ((3, .ref 64 b215 c216 0 q153.length 49) :: K) ((64, ent b215 c216 49 (List.map ca7 q153)) :: J) t o) ?_ ?_
 ·refine ay7 (xs := a0) [9, 10] [] 0 hf (fun K J l160 k158 t o => ∃ v155 b156 c157, gN7 l160 k158 v155 = some q153 ∧ PP ((3, .ref 64 b156 c157 0 v155.length 49) :: (11, .v (.int .i64 (k158 : Int))) :: K) ((64, ent b156 c157 49 (List.map ca7 v155)) :: J) t o) ?_ ?_ ?_
  ·exact ⟨_, _, _, hq, pin, aH7⟩
  ·rintro k158 t o hlt ⟨v155, b156, c157, h, pq⟩
   refine pn pq ?_
   rw [gN7] at h
   exact cls
  rintro x159 l160 k158 t o hlt hx164 hw hd ⟨v155, b156, c157, h, pq⟩
  refine pn pq ?_
  rw [gN7] at h
  try (refine gx ?_; intros; rename_i h)
  obtain ⟨hf, h⟩ := gd h
  obtain ⟨q192, hq, h⟩ := bnd h
  refine ac7 [9, 10, 11] [] (fun K J t o => ∃ b212 c213, PP ((3, .ref 64 b212 c213 0 q192.length 49) :: K) ((64, ent b212 c213 49 (List.map ca7 q192)) :: J) t o) ?_ ?_
  ·refine ay7 (xs := x159) [9, 10, 11, 15, 16] [] 0 hf (fun K J l199 k197 t o => ∃ v194 b195 c196, eg7 l199 k197 v194 = some q192 ∧ PP ((3, .ref 64 b195 c196 0 v194.length 49) :: (17, .v (.int .i64 (k197 : Int))) :: K) ((64, ent b195 c196 49 (List.map ca7 v194)) :: J) t o) ?_ ?_ ?_
   ·exact ⟨_, _, _, hq, pin, aH7⟩
   ·rintro k197 t o hlt ⟨v194, b195, c196, h, pq⟩
    refine pn pq ?_
    rw [eg7] at h
    exact cls
   rintro x198 l199 k197 t o hlt hx203 hw hd ⟨v194, b195, c196, h, pq⟩
   refine pn pq ?_
   rw [eg7] at h
   exact cls
  rintro t o ⟨b212, c213, pq⟩
  refine pnq pq ?_
  exact cls
 rintro t o ⟨b215, c216, pq⟩
 refine pnq pq ?_
 try (refine gx ?_; intros; rename_i h)
 obtain ⟨x217, h218, h⟩ := bnd h
 have L218 := MZ7 h218; (try dsimp only at L218); refine bC7 (c := y07) (q153) H_fa9 h218 fun ch => ?_; rw [← L218]
 exact cls
theorem SY7 : OkC [Gl7] Gs7 Nu7 Nv7 := by
 refine ok fun G H ⟨a0, a1⟩ r h => ?_
 refine st1 fun bs t o => ?_
 dsimp only [lI7] at h
 exact cls
theorem SZ7 : OkC [yY7] wr7 Nw7 Nx7 := by
 refine ok fun G H ⟨a0, a1⟩ r h => ?_
 refine st1 fun bs t o => ?_
 dsimp only [lJ7] at h
 exact cls
theorem S07 : OkC [tb7] Gt7 Ny7 Nz7 := by
 refine ok fun G H ⟨a0, a1, a2⟩ r h => ?_
 have H_aw9 := H _ (.head _)
 replace H := jJ7 0 H
 refine st1 fun bs t o => ?_
 dsimp only [rt7] at h
 try (refine gx ?_; intros; rename_i h)
 obtain ⟨x5, h6, h⟩ := bnd h
 refine bm7 (c := tb7) (a1, a0) H_aw9 h6 fun ch => ?_
 try (refine gx ?_; intros; rename_i h)
 obtain ⟨x7, h8, h⟩ := bnd h
 refine bm7 (c := tb7) (a2, a0) H_aw9 h8 fun ch => ?_
 try (refine gx ?_; intros; rename_i h)
 obtain ⟨x9, h10, h⟩ := bnd h
 refine bm7 (c := tb7) (a1, a2) H_aw9 h10 fun ch => ?_
 exact cls
theorem S17 : OkC [wq7] Gu7 NA7 NB7 := by
 refine ok fun G H ⟨a0, a1, a2⟩ r h => ?_
 have H_ab9 := H _ (.head _)
 replace H := jJ7 0 H
 refine st1 fun bs t o => ?_
 dsimp only [ru7] at h
 try (refine gx ?_; intros; rename_i h)
 obtain ⟨x5, h6, h⟩ := bnd h
 refine bm7 (c := wq7) (a1, a0) H_ab9 h6 fun ch => ?_
 try (refine gx ?_; intros; rename_i h)
 obtain ⟨x7, h8, h⟩ := bnd h
 refine bm7 (c := wq7) (a2, a0) H_ab9 h8 fun ch => ?_
 try (refine gx ?_; intros; rename_i h)
 obtain ⟨x9, h10, h⟩ := bnd h
 refine bm7 (c := wq7) (a1, a2) H_ab9 h10 fun ch => ?_
 exact cls
end Go.Proofs.AM
