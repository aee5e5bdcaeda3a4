/- Lemmas of the proof (UIF0), on an abstract machine. Conditions: none. -/
import Derived.Test.YtnnfdbdheoajgaaGreatUID
set_option linter.unusedVariables false
set_option linter.unusedSimpArgs false
set_option maxRecDepth 100000
set_option maxHeartbeats 4000000
namespace Go.Proofs.AM
attribute [local irreducible] vwp cY7 bI7 f97 vdo jn7 mS7 j07 fi7 mG7 kM7 bL7 e87 kt7 dY7 jO7 k37 k27
theorem NW7 : OkC [] Ef7 Hw7 Hx7 := by
 refine ok fun G H a0 r h => ?_
 refine st1 fun bs t o => ?_
 dsimp only [nN7] at h
 exact cls
theorem NX7 : OkC [Ef7] Eg7 Hy7 Hz7 := by
 refine ok fun G H a0 r h => ?_
 refine st1 fun bs t o => ?_
 dsimp only [qL7] at h
 try (refine gx ?_; intros; rename_i h)
 obtain ⟨hf, h⟩ := gd h
 obtain ⟨q24, hq, h⟩ := bnd h
 refine ae7 [0] [] (fun K J t o => ∃ q24_, q24 = .inr q24_ ∧ PP K J t o) ?_ ?_
 ·have ho1 := h
  refine aQ7 (xs := a0) [0] [] 0 hf (fun K J l28 k26 t o => ea7 a0 l28 k26  = some q24 ∧ PP ((3, .v (.int .i64 (k26 : Int))) :: K) J t o) ?_ ?_ ?_
  ·exact ⟨hq, pin, aJ7⟩
  ·rintro k26 t o hlt ⟨h, pq⟩
   refine pn pq ?_
   rw [ea7] at h
   exact cls
  rintro x27 l28 k26 t o hlt hx32 hw hd ⟨h, pq⟩
  refine pn pq ?_
  rw [ea7] at h
  exact cls
 rintro t o ⟨q24, rfl, pq⟩
 refine pnq pq ?_
 exact cls
theorem NY7 : OkC [] o17 HA7 HB7 := by
 refine ok fun G H a0 r h => ?_
 refine st1 fun bs t o => ?_
 dsimp only [gb7] at h
 try (refine gx ?_; intros; rename_i h)
 obtain ⟨hf, h⟩ := gd h
 obtain ⟨q8, hq, h⟩ := bnd h
 refine ae7 [0] [] (fun K J t o => ∃ q8_, q8 = .inr q8_ ∧ PP K J t o) ?_ ?_
 ·have ho1 := h
  refine DW7 (xs := a0) [0] [] 0 hf (fun K J l12 k10 t o => fm7 l12 k10  = some q8 ∧ PP ((3, .v (.int .i64 (k10 : Int))) :: K) J t o) ?_ ?_ ?_
  ·exact ⟨hq, pin, aJ7⟩
  ·rintro k10 t o hlt ⟨h, pq⟩
   refine pn pq ?_
   rw [fm7] at h
   exact cls
  rintro x11 l12 k10 t o hlt hx16 hw hd ⟨h, pq⟩
  refine pn pq ?_
  rw [fm7] at h
  exact cls
 rintro t o ⟨q8, rfl, pq⟩
 refine pnq pq ?_
 exact cls
theorem NZ7 : OkC [Eg7] qM7 HC7 HD7 := by
 refine ok fun G H a0 r h => ?_
 refine st1 fun bs t o => ?_
 dsimp only [j57] at h
 exact cls
theorem N07 : OkC [o17] Eh7 HE7 HF7 := by
 refine ok fun G H a0 r h => ?_
 refine st1 fun bs t o => ?_
 dsimp only [qN7] at h
 try (refine gx ?_; intros; rename_i h)
 obtain ⟨hf, h⟩ := gd h
 obtain ⟨q24, hq, h⟩ := bnd h
 refine ae7 [0] [] (fun K J t o => ∃ q24_, q24 = .inr q24_ ∧ PP K J t o) ?_ ?_
 ·have ho1 := h
  refine aQ7 (xs := a0) [0] [] 0 hf (fun K J l28 k26 t o => eb7 a0 l28 k26  = some q24 ∧ PP ((3, .v (.int .i64 (k26 : Int))) :: K) J t o) ?_ ?_ ?_
  ·exact ⟨hq, pin, aJ7⟩
  ·rintro k26 t o hlt ⟨h, pq⟩
   refine pn pq ?_
   rw [eb7] at h
   exact cls
  rintro x27 l28 k26 t o hlt hx32 hw hd ⟨h, pq⟩
  refine pn pq ?_
  rw [eb7] at h
  exact cls
 rintro t o ⟨q24, rfl, pq⟩
 refine pnq pq ?_
 exact cls
theorem N17 : OkC [o17, qM7, Eh7] Ae7 HG7 HH7 := by
 refine ok fun G H a0 r h => ?_
 refine st1 fun bs t o => ?_
 dsimp only [lK7] at h
 exact cls
theorem N27 : OkC [] Af7 HI7 HJ7 := by
 refine ok fun G H ⟨a0, a1⟩ r h => ?_
 refine st1 fun bs t o => ?_
 dsimp only [lL7] at h
 try (refine gx ?_; intros; rename_i h)
 obtain ⟨hf, h⟩ := gd h
 obtain ⟨q14, hq, h⟩ := bnd h
 refine ae7 [] [] (fun K J t o => ∃ q14_, q14 = .inr q14_ ∧ PP K J t o) ?_ ?_
 ·have ho1 := h
  refine aQ7 (xs := a0) [0, 1] [] 0 hf (fun K J l18 k16 t o => fn7 a1 l18 k16  = some q14 ∧ PP ((5, .v (.int .i64 (k16 : Int))) :: K) J t o) ?_ ?_ ?_
  ·exact ⟨hq, pin, aJ7⟩
  ·rintro k16 t o hlt ⟨h, pq⟩
   refine pn pq ?_
   rw [fn7] at h
   exact cls
  rintro x17 l18 k16 t o hlt hx22 hw hd ⟨h, pq⟩
  refine pn pq ?_
  rw [fn7] at h
  exact cls
 rintro t o ⟨q14, rfl, pq⟩
 refine pnq pq ?_
 exact cls
theorem N37 : OkC [Af7] Ag7 HK7 HL7 := by
 refine ok fun G H ⟨a0, a1⟩ r h => ?_
 refine st1 fun bs t o => ?_
 dsimp only [j67] at h
 exact cls
theorem N47 : OkC [] Ei7 HM7 HN7 := by
 refine ok fun G H ⟨a0, a1⟩ r h => ?_
 refine st1 fun bs t o => ?_
 dsimp only [ue7] at h
 try (refine gx ?_; intros; rename_i h)
 obtain ⟨hf, h⟩ := gd h
 obtain ⟨q14, hq, h⟩ := bnd h
 refine ae7 [] [] (fun K J t o => ∃ q14_, q14 = .inr q14_ ∧ PP K J t o) ?_ ?_
 ·have ho1 := h
  refine aQ7 (xs := a0) [0, 1] [] 0 hf (fun K J l18 k16 t o => fo7 a1 l18 k16  = some q14 ∧ PP ((5, .v (.int .i64 (k16 : Int))) :: K) J t o) ?_ ?_ ?_
  ·exact ⟨hq, pin, aJ7⟩
  ·rintro k16 t o hlt ⟨h, pq⟩
   refine pn pq ?_
   rw [fo7] at h
   exact cls
  rintro x17 l18 k16 t o hlt hx22 hw hd ⟨h, pq⟩
  refine pn pq ?_
  rw [fo7] at h
  exact cls
 rintro t o ⟨q14, rfl, pq⟩
 refine pnq pq ?_
 exact cls
theorem N57 : OkC [Ag7, Ei7] lM7 HO7 HP7 := by
 refine ok fun G H ⟨a0, a1⟩ r h => ?_
 refine st1 fun bs t o => ?_
 dsimp only [gc7] at h
 exact cls
theorem N67 : OkC [] Ej7 HQ7 HR7 := by
 refine ok fun G H ⟨a0, a1⟩ r h => ?_
 refine st1 fun bs t o => ?_
 dsimp only [uf7] at h
 try (refine gx ?_; intros; rename_i h)
 obtain ⟨hf, h⟩ := gd h
 obtain ⟨q14, hq, h⟩ := bnd h
 refine ae7 [] [] (fun K J t o => ∃ q14_, q14 = .inr q14_ ∧ PP K J t o) ?_ ?_
 ·have ho1 := h
  refine aQ7 (xs := a0) [0, 1] [] 0 hf (fun K J l18 k16 t o => fp7 a1 l18 k16  = some q14 ∧ PP ((5, .v (.int .i64 (k16 : Int))) :: K) J t o) ?_ ?_ ?_
  ·exact ⟨hq, pin, aJ7⟩
  ·rintro k16 t o hlt ⟨h, pq⟩
   refine pn pq ?_
   rw [fp7] at h
   exact cls
  rintro x17 l18 k16 t o hlt hx22 hw hd ⟨h, pq⟩
  refine pn pq ?_
  rw [fp7] at h
  exact cls
 rintro t o ⟨q14, rfl, pq⟩
 refine pnq pq ?_
 exact cls
theorem N77 : OkC [lM7] Ek7 HS7 HT7 := by
 refine ok fun G H ⟨a0, a1⟩ r h => ?_
 refine st1 fun bs t o => ?_
 dsimp only [ug7] at h
 try (refine gx ?_; intros; rename_i h)
 obtain ⟨hf, h⟩ := gd h
 obtain ⟨q20, hq, h⟩ := bnd h
 refine ae7 [] [] (fun K J t o => ∃ q20_, q20 = .inr q20_ ∧ PP K J t o) ?_ ?_
 ·have ho1 := h
  refine aQ7 (xs := a0) [0, 1] [] 0 hf (fun K J l24 k22 t o => fq7 a1 l24 k22  = some q20 ∧ PP ((5, .v (.int .i64 (k22 : Int))) :: K) J t o) ?_ ?_ ?_
  ·exact ⟨hq, pin, aJ7⟩
  ·rintro k22 t o hlt ⟨h, pq⟩
   refine pn pq ?_
   rw [fq7] at h
   exact cls
  rintro x23 l24 k22 t o hlt hx28 hw hd ⟨h, pq⟩
  refine pn pq ?_
  rw [fq7] at h
  exact cls
 rintro t o ⟨q20, rfl, pq⟩
 refine pnq pq ?_
 exact cls
theorem N87 : OkC [Ej7, Ek7] El7 HU7 HV7 := by
 refine ok fun G H ⟨a0, a1⟩ r h => ?_
 refine st1 fun bs t o => ?_
 dsimp only [qO7] at h
 exact cls
theorem N97 : OkC [] Em7 HW7 HX7 := by
 refine ok fun G H ⟨a0, a1⟩ r h => ?_
 refine st1 fun bs t o => ?_
 dsimp only [qP7] at h
 try (refine gx ?_; intros; rename_i h)
 obtain ⟨hf, h⟩ := gd h
 obtain ⟨q8, hq, h⟩ := bnd h
 refine ae7 [0, 1] [] (fun K J t o => ∃ q8_, q8 = .inr q8_ ∧ PP K J t o) ?_ ?_
 ·have ho1 := h
  refine aQ7 (xs := a0) [0, 1] [] 0 hf (fun K J l12 k10 t o => fr7 a1 l12 k10  = some q8 ∧ PP ((5, .v (.int .i64 (k10 : Int))) :: K) J t o) ?_ ?_ ?_
  ·exact ⟨hq, pin, aJ7⟩
  ·rintro k10 t o hlt ⟨h, pq⟩
   refine pn pq ?_
   rw [fr7] at h
   exact cls
  rintro x11 l12 k10 t o hlt hx16 hw hd ⟨h, pq⟩
  refine pn pq ?_
  rw [fr7] at h
  exact cls
 rintro t o ⟨q8, rfl, pq⟩
 refine pnq pq ?_
 exact cls
theorem Oa7 : OkC [Ae7] sU7 HY7 HZ7 := by
 refine ok fun G H a0 r h => ?_
 refine st1 fun bs t o => ?_
 dsimp only [hl7] at h
 try (refine gx ?_; intros; rename_i h)
 obtain ⟨hf, h⟩ := gd h
 obtain ⟨q18, hq, h⟩ := bnd h
 refine ae7 [0] [] (fun K J t o => ∃ q18_, q18 = .inr q18_ ∧ PP K J t o) ?_ ?_
 ·have ho1 := h
  refine aQ7 (xs := a0) [0] [] 0 hf (fun K J l22 k20 t o => ec7 a0 l22 k20  = some q18 ∧ PP ((3, .v (.int .i64 (k20 : Int))) :: K) J t o) ?_ ?_ ?_
  ·exact ⟨hq, pin, aJ7⟩
  ·rintro k20 t o hlt ⟨h, pq⟩
   refine pn pq ?_
   rw [ec7] at h
   exact cls
  rintro x21 l22 k20 t o hlt hx26 hw hd ⟨h, pq⟩
  refine pn pq ?_
  rw [ec7] at h
  exact cls
 rintro t o ⟨q18, rfl, pq⟩
 refine pnq pq ?_
 exact cls
theorem Ob7 : OkC [El7] x07 H07 H17 := by
 refine ok fun G H ⟨a0, a1⟩ r h => ?_
 refine st1 fun bs t o => ?_
 dsimp only [lN7] at h
 try (refine gx ?_; intros; rename_i h)
 obtain ⟨hf, h⟩ := gd h
 obtain ⟨q16, hq, h⟩ := bnd h
 refine ae7 [] [] (fun K J t o => ∃ q16_, q16 = .inr q16_ ∧ PP K J t o) ?_ ?_
 ·have ho1 := h
  refine aQ7 (xs := a0.commits) [2, 3] [16, 24] 0 hf (fun K J l20 k18 t o => fs7 a1 l20 k18  = some q16 ∧ PP ((5, .v (.int .i64 (k18 : Int))) :: K) J t o) ?_ ?_ ?_
  ·exact ⟨hq, pin, aJ7⟩
  ·rintro k18 t o hlt ⟨h, pq⟩
   refine pn pq ?_
   rw [fs7] at h
   exact cls
  rintro x19 l20 k18 t o hlt hx24 hw hd ⟨h, pq⟩
  refine pn pq ?_
  rw [fs7] at h
  exact cls
 rintro t o ⟨q16, rfl, pq⟩
 refine pnq pq ?_
 exact cls
theorem Oc7 : OkC [] o27 H27 H37 := by
 refine ok fun G H ⟨a0, a1⟩ r h => ?_
 refine st1 fun bs t o => ?_
 dsimp only [hn7] at h
 try (refine gx ?_; intros; rename_i h)
 obtain ⟨hf, h⟩ := gd h
 obtain ⟨q9, hq, h⟩ := bnd h
 refine ae7 [] [] (fun K J t o => ∃ q9_, q9 = .inr q9_ ∧ PP K J t o) ?_ ?_
 ·have ho1 := h
  refine aQ7 (xs := a0.heads) [1, 2] [16] 0 hf (fun K J l13 k11 t o => ft7 a1 l13 k11  = some q9 ∧ PP ((5, .v (.int .i64 (k11 : Int))) :: K) J t o) ?_ ?_ ?_
  ·exact ⟨hq, pin, aJ7⟩
  ·rintro k11 t o hlt ⟨h, pq⟩
   refine pn pq ?_
   rw [ft7] at h
   exact cls
  rintro x12 l13 k11 t o hlt hx17 hw hd ⟨h, pq⟩
  refine pn pq ?_
  rw [ft7] at h
  exact cls
 rintro t o ⟨q9, rfl, pq⟩
 refine pnq pq ?_
 exact cls
theorem Od7 : OkC [] Ah7 H47 H57 := by
 refine ok fun G H a0 r h => ?_
 refine st1 fun bs t o => ?_
 dsimp only [lO7] at h
 exact cls
theorem Oe7 : OkC [Ah7] qQ7 H67 H77 := by
 refine ok fun G H a0 r h => ?_
 refine st1 fun bs t o => ?_
 dsimp only [ho7] at h
 exact cls
theorem Of7 : OkC [qQ7] Ai7 H87 H97 := by
 refine ok fun G H a0 r h => ?_
 refine st1 fun bs t o => ?_
 dsimp only [nO7] at h
 try (refine gx ?_; intros; rename_i h)
 obtain ⟨hf, h⟩ := gd h
 obtain ⟨q42, hq, h⟩ := bnd h
 refine ae7 [] [] (fun K J t o => ∃ b67 c68, PP ((3, .ref 40 b67 c68 0 q42.length 100) :: K) ((40, ent b67 c68 100 (List.map (ak7 true) q42)) :: J) t o) ?_ ?_
 ·refine aQ7 (xs := a0) [0] [] 0 hf (fun K J l49 k47 t o => ∃ v44 b45 c46, gY7 l49 k47 v44 = some q42 ∧ PP ((3, .ref 40 b45 c46 0 v44.length 100) :: (4, .v (.int .i64 (k47 : Int))) :: K) ((40, ent b45 c46 100 (List.map (ak7 true) v44)) :: J) t o) ?_ ?_ ?_
  ·exact ⟨_, _, _, hq, pin, aJ7⟩
  ·rintro k47 t o hlt ⟨v44, b45, c46, h, pq⟩
   refine pn pq ?_
   rw [gY7] at h
   exact cls
  rintro x48 l49 k47 t o hlt hx53 hw hd ⟨v44, b45, c46, h, pq⟩
  refine pn pq ?_
  rw [gY7] at h
  exact cls
 rintro t o ⟨b67, c68, pq⟩
 refine pnq pq ?_
 exact cls
theorem Og7 : OkC [Ai7] Aj7 Ia7 Ib7 := by
 refine ok fun G H a0 r h => ?_
 refine st1 fun bs t o => ?_
 dsimp only [j77] at h
 exact cls
theorem Oh7 : OkC [Em7, sU7, o17, x07, o27] vJ7 Ic7 Id7 := by
 refine ok fun G H a0 r h => ?_
 refine st1 fun bs t o => ?_
 dsimp only [lP7] at h
 try (refine gx ?_; intros; rename_i h)
 obtain ⟨hf, h⟩ := gd h
 obtain ⟨q36, hq, h⟩ := bnd h
 refine ae7 [1] [8] (fun K J t o => ∃ q36_, q36 = .inr q36_ ∧ PP K J t o) ?_ ?_
 ·have ho1 := h
  refine aQ7 (xs := a0.commits) [1] [8] 0 hf (fun K J l40 k38 t o => ed7 a0 l40 k38  = some q36 ∧ PP ((3, .v (.int .i64 (k38 : Int))) :: K) J t o) ?_ ?_ ?_
  ·exact ⟨hq, pin, aJ7⟩
  ·rintro k38 t o hlt ⟨h, pq⟩
   refine pn pq ?_
   rw [ed7] at h
   exact cls
  rintro x39 l40 k38 t o hlt hx44 hw hd ⟨h, pq⟩
  refine pn pq ?_
  rw [ed7] at h
  exact cls
 rintro t o ⟨q36, rfl, pq⟩
 refine pnq pq ?_
 try (refine gx ?_; intros; rename_i h)
 obtain ⟨hf, h⟩ := gd h
 obtain ⟨q78, hq, h⟩ := bnd h
 refine ae7 [] [] (fun K J t o => ∃ q78_, q78 = .inr q78_ ∧ PP K J t o) ?_ ?_
 ·have ho1 := h
  refine aQ7 (xs := a0.heads) [1] [8] 0 hf (fun K J l82 k80 t o => ee7 a0 l82 k80  = some q78 ∧ PP ((5, .v (.int .i64 (k80 : Int))) :: K) J t o) ?_ ?_ ?_
  ·exact ⟨hq, pin, aJ7⟩
  ·rintro k80 t o hlt ⟨h, pq⟩
   refine pn pq ?_
   rw [ee7] at h
   exact cls
  rintro x81 l82 k80 t o hlt hx86 hw hd ⟨h, pq⟩
  refine pn pq ?_
  rw [ee7] at h
  exact cls
 rintro t o ⟨q78, rfl, pq⟩
 refine pnq pq ?_
 exact cls
theorem Oi7 : OkC [vJ7] Ak7 Ie7 If7 := by
 refine ok fun G H ⟨a0, a1⟩ r h => ?_
 refine st1 fun bs t o => ?_
 dsimp only [j87] at h
 exact cls
theorem Oj7 : OkC [] Al7 Ig7 Ih7 := by
 refine ok fun G H ⟨a0, a1⟩ r h => ?_
 refine st1 fun bs t o => ?_
 dsimp only [j97] at h
 refine gx fun h4 => ?_; intros; rename_i h
 obtain ⟨hf, h⟩ := gd h
 obtain ⟨q21, hq, h⟩ := bnd h
 refine ae7 [2] [16] (fun K J t o => ∃ b38 c39, PP ((5, .ref 96 b38 c39 0 q21.length 33) :: K) ((96, ent b38 c39 33 (List.map bK7 q21)) :: J) t o) ?_ ?_
 ·refine aQ7 (xs := a1) [1, 2] [16] 0 hf (fun K J l28 k26 t o => ∃ v23 b24 c25, fu7 l28 k26 v23 = some q21 ∧ PP ((5, .ref 96 b24 c25 0 v23.length 33) :: (6, .v (.int .i64 (k26 : Int))) :: K) ((96, ent b24 c25 33 (List.map bK7 v23)) :: J) t o) ?_ ?_ ?_
  ·exact ⟨_, _, _, hq, pin, aJ7⟩
  ·rintro k26 t o hlt ⟨v23, b24, c25, h, pq⟩
   refine pn pq ?_
   rw [fu7] at h
   exact cls
  rintro x27 l28 k26 t o hlt hx32 hw hd ⟨v23, b24, c25, h, pq⟩
  refine pn pq ?_
  rw [fu7] at h
  refine gx fun x35 h36 => ?_; intros; rename_i h
  refine cI7 (f := bK7) v23 true (aF7 h36).2 ?_
  exact cls
 rintro t o ⟨b38, c39, pq⟩
 refine pnq pq ?_
 try (refine gx ?_; intros; rename_i h)
 obtain ⟨q179, hq, h⟩ := bnd h
 refine ae7 [] [] (fun K J t o => ∃ b231 c232, PP ((5, .ref 96 b231 c232 0 q179.length 33) :: K) ((96, ent b231 c232 33 (List.map bK7 q179)) :: J) t o) ?_ ?_
 ·refine dB7 [2] [16] (fun K J n184 t o => ∃ v180 v181 b182 c183, fv7 a0 n184 v180 v181 = some q179 ∧ PP ((5, .ref 96 b182 c183 0 v181.length 33) :: (7, .v (.int .i64 v180)) :: K) ((96, ent b182 c183 33 (List.map bK7 v181)) :: J) t o) ?_ ?_
  ·exact ⟨_, _, _, _, hq, pin, aJ7⟩
  rintro n184 t o ⟨v180, v181, b182, c183, h, pq⟩
  refine pn pq ?_
  cases n184 with
  | zero => rw [fv7] at h; cases h
  | succ n184 =>
   rw [fv7] at h
   try (refine gx ?_; intros; rename_i h)
   obtain ⟨q213, hq, h⟩ := bnd h
   refine ae7 [2, 7] [16] (fun K J t o => ∃ b228 c229, PP ((5, .ref 96 b228 c229 0 q213.length 33) :: K) ((96, ent b228 c229 33 (List.map bK7 q213)) :: J) t o) ?_ ?_
   ·refine dB7 [2, 7] [16] (fun K J n218 t o => ∃ v214 v215 b216 c217, dj7 a0 v180 n218 v214 v215 = some q213 ∧ PP ((5, .ref 96 b216 c217 0 v215.length 33) :: (8, .v (.int .i64 v214)) :: K) ((96, ent b216 c217 33 (List.map bK7 v215)) :: J) t o) ?_ ?_
    ·exact ⟨_, _, _, _, hq, pin, aJ7⟩
    rintro n218 t o ⟨v214, v215, b216, c217, h, pq⟩
    refine pn pq ?_
    cases n218 with
    | zero => rw [dj7] at h; cases h
    | succ n218 =>
     rw [dj7] at h
     refine gx fun x219 h220 x221 h222 x223 h224 x225 h226 => ?_; intros; rename_i h
     refine cI7 (f := bK7) v215 true (aF7 h226).2 ?_
     exact cls
   rintro t o ⟨b228, c229, pq⟩
   refine pnq pq ?_
   exact cls
 rintro t o ⟨b231, c232, pq⟩
 refine pnq pq ?_
 exact cls
theorem Ok7 : OkC [Ak7, Al7] En7 Ii7 Ij7 := by
 refine ok fun G H ⟨a0, a1, a2⟩ r h => ?_
 refine st1 fun bs t o => ?_
 dsimp only [qR7] at h
 refine gx fun x3 h4 x5 h6 x8 h9 x13 h14 h19 => ?_; intros; rename_i h
 obtain ⟨q198, hq, h⟩ := bnd h
 refine ae7 [] [] (fun K J t o => ∃ b265 c266, PP ((7, .ref 104 b265 c266 0 q198.length 17) :: K) ((104, ent b265 c266 17 (List.map bo7 q198)) :: J) t o) ?_ ?_
 ·refine dB7 [3, 8, 9] [24, 224, 256] (fun K J n206 t o => ∃ v199 v200 v203 b201 c202 b204 c205, cQ7 x8 x13 a0 n206 v199 v200 v203 = some q198 ∧ PP ((7, .ref 104 b201 c202 0 v200.length 17) :: (10, .ref 288 b204 c205 0 v203.length 33) :: (11, .v (.int .i64 v199)) :: K) ((104, ent b201 c202 17 (List.map bo7 v200)) :: (288, ent b204 c205 33 (List.map bK7 v203)) :: J) t o) ?_ ?_
  ·exact ⟨_, _, _, _, _, _, _, hq, pin, aJ7⟩
  rintro n206 t o ⟨v199, v200, v203, b201, c202, b204, c205, h, pq⟩
  refine pn pq ?_
  cases n206 with
  | zero => rw [cQ7] at h; cases h
  | succ n206 =>
   rw [cQ7] at h
   refine gx fun x207 h208 x209 h210 => ?_; intros; rename_i h
   obtain ⟨q217, hq, h⟩ := bnd h
   refine a97 [3, 8, 9, 10, 11, 51, 52, 54, 55] [24, 224, 256, 288] (fun K J t o => ∃ b225 c226, PP ((7, .ref 104 b225 c226 0 q217.length 17) :: K) ((104, ent b225 c226 17 (List.map bo7 q217)) :: J) t o) ?_ ?_
   ·have h := hq
    exact cls
   rintro t o ⟨b225, c226, pq⟩
   refine pn pq ?_
   try (refine gx ?_; intros; rename_i h)
   obtain ⟨q249, hq, h⟩ := bnd h
   refine ae7 [3, 7, 8, 9, 11, 51, 52, 54, 55] [24, 104, 224, 256] (fun K J t o => ∃ b262 c263, PP ((10, .ref 288 b262 c263 0 q249.length 33) :: K) ((288, ent b262 c263 33 (List.map bK7 q249)) :: J) t o) ?_ ?_
   ·refine dB7 [3, 7, 8, 9, 11, 51, 52, 54, 55] [24, 104, 224, 256] (fun K J n254 t o => ∃ v250 v251 b252 c253, dC7 a0 v199 n254 v250 v251 = some q249 ∧ PP ((10, .ref 288 b252 c253 0 v251.length 33) :: (12, .v (.int .i64 v250)) :: K) ((288, ent b252 c253 33 (List.map bK7 v251)) :: J) t o) ?_ ?_
    ·exact ⟨_, _, _, _, hq, pin, aJ7⟩
    rintro n254 t o ⟨v250, v251, b252, c253, h, pq⟩
    refine pn pq ?_
    cases n254 with
    | zero => rw [dC7] at h; cases h
    | succ n254 =>
     rw [dC7] at h
     refine gx fun x255 h256 x257 h258 x259 h260 => ?_; intros; rename_i h
     refine cI7 (f := bK7) v251 true (aF7 h260).2 ?_
     exact cls
   rintro t o ⟨b262, c263, pq⟩
   refine pnq pq ?_
   exact cls
 rintro t o ⟨b265, c266, pq⟩
 refine pnq pq ?_
 exact cls
theorem Ol7 : OkC [] qS7 Ik7 Il7 := by
 refine ok fun G H ⟨a0, a1⟩ r h => ?_
 refine st1 fun bs t o => ?_
 dsimp only [gd7] at h
 try (refine gx ?_; intros; rename_i h)
 obtain ⟨hf, h⟩ := gd h
 obtain ⟨q81, hq, h⟩ := bnd h
 refine ae7 [3] [24] (fun K J t o => ∃ b115 c116, PP ((5, .ref 64 b115 c116 0 q81.2.length 100) :: (6, .v (.bool q81.1)) :: K) ((64, ent b115 c116 100 (List.map (ak7 false) q81.2)) :: J) t o) ?_ ?_
 ·refine aQ7 (xs := a0) [0, 3] [24] 0 hf (fun K J l89 k87 t o => ∃ v82 v84 b85 c86, cu7 a1 l89 k87 v82 v84 = some q81 ∧ PP ((5, .ref 64 b85 c86 0 v84.length 100) :: (6, .v (.bool v82)) :: (7, .v (.int .i64 (k87 : Int))) :: K) ((64, ent b85 c86 100 (List.map (ak7 false) v84)) :: J) t o) ?_ ?_ ?_
  ·exact ⟨_, _, _, _, hq, pin, aJ7⟩
  ·rintro k87 t o hlt ⟨v82, v84, b85, c86, h, pq⟩
   refine pn pq ?_
   rw [cu7] at h
   exact cls
  rintro x88 l89 k87 t o hlt hx93 hw hd ⟨v82, v84, b85, c86, h, pq⟩
  refine pn pq ?_
  rw [cu7] at h
  try (refine gx ?_; intros; rename_i h)
  obtain ⟨q100, hq, h⟩ := bnd h
  refine a97 [0, 3, 7] [24] (fun K J t o => ∃ b107 c108, PP ((5, .ref 64 b107 c108 0 q100.2.length 100) :: (6, .v (.bool q100.1)) :: K) ((64, ent b107 c108 100 (List.map (ak7 false) q100.2)) :: J) t o) ?_ ?_
  ·have h := hq
   exact cls
  rintro t o ⟨b107, c108, pq⟩
  refine pn pq ?_
  exact cls
 rintro t o ⟨b115, c116, pq⟩
 refine pnq pq ?_
 exact cls
theorem Om7 : OkC [qS7] Eo7 Im7 In7 := by
 refine ok fun G H ⟨a0, a1⟩ r h => ?_
 refine st1 fun bs t o => ?_
 dsimp only [qT7] at h
 try (refine gx ?_; intros; rename_i h)
 obtain ⟨hf, h⟩ := gd h
 obtain ⟨q21, hq, h⟩ := bnd h
 refine ae7 [] [] (fun K J t o => PP ((5, .ro (List.map (ak7 false) q21)) :: K) J t o) ?_ ?_
 ·refine aQ7 (xs := a1) [1] [] 0 hf (fun K J l26 k24 t o => ∃ v22, fw7 l26 k24 v22 = some q21 ∧ PP ((5, .ro (List.map (ak7 false) v22)) :: (6, .v (.int .i64 (k24 : Int))) :: K) J t o) ?_ ?_ ?_
  ·exact ⟨_, hq, pin, aJ7⟩
  ·rintro k24 t o hlt ⟨v22, h, pq⟩
   refine pn pq ?_
   rw [fw7] at h
   exact cls
  rintro x25 l26 k24 t o hlt hx30 hw hd ⟨v22, h, pq⟩
  refine pn pq ?_
  rw [fw7] at h
  exact cls
 rintro t o pq
 refine pnq pq ?_
 try (refine gx ?_; intros; rename_i h)
 obtain ⟨hf, h⟩ := gd h
 obtain ⟨q61, hq, h⟩ := bnd h
 refine ae7 [] [] (fun K J t o => ∃ b80 c81, PP ((7, .ref 176 b80 c81 0 q61.length 49) :: K) ((176, ent b80 c81 49 (List.map cK7 q61)) :: J) t o) ?_ ?_
 ·refine aQ7 (xs := q21) [5] [] 0 hf (fun K J l68 k66 t o => ∃ v63 b64 c65, ef7 l68 k66 v63 = some q61 ∧ PP ((7, .ref 176 b64 c65 0 v63.length 49) :: (8, .v (.int .i64 (k66 : Int))) :: K) ((176, ent b64 c65 49 (List.map cK7 v63)) :: J) t o) ?_ ?_ ?_
  ·exact ⟨_, _, _, hq, pin, aJ7⟩
  ·rintro k66 t o hlt ⟨v63, b64, c65, h, pq⟩
   refine pn pq ?_
   rw [ef7] at h
   exact cls
  rintro x67 l68 k66 t o hlt hx72 hw hd ⟨v63, b64, c65, h, pq⟩
  refine pn pq ?_
  rw [ef7] at h
  exact cls
 rintro t o ⟨b80, c81, pq⟩
 refine pnq pq ?_
 exact cls
theorem On7 : OkC [] x97 Io7 Ip7 := by
 refine ok fun G H ⟨a0, a1⟩ r h => ?_
 refine st1 fun bs t o => ?_
 dsimp only [ka7] at h
 try (refine gx ?_; intros; rename_i h)
 obtain ⟨hf, h⟩ := gd h
 obtain ⟨q8, hq, h⟩ := bnd h
 refine ae7 [] [] (fun K J t o => ∃ q8_, q8 = .inr q8_ ∧ PP K J t o) ?_ ?_
 ·have ho1 := h
  refine aQ7 (xs := a0) [0, 1] [] 0 hf (fun K J l12 k10 t o => eg7 a1 l12 k10  = some q8 ∧ PP ((5, .v (.int .i64 (k10 : Int))) :: K) J t o) ?_ ?_ ?_
  ·exact ⟨hq, pin, aJ7⟩
  ·rintro k10 t o hlt ⟨h, pq⟩
   refine pn pq ?_
   rw [eg7] at h
   exact cls
  rintro x11 l12 k10 t o hlt hx16 hw hd ⟨h, pq⟩
  refine pn pq ?_
  rw [eg7] at h
  exact cls
 rintro t o ⟨q8, rfl, pq⟩
 refine pnq pq ?_
 exact cls
theorem Oo7 : OkC [] Ep7 Iq7 Ir7 := by
 refine ok fun G H ⟨a0, a1⟩ r h => ?_
 refine st1 fun bs t o => ?_
 dsimp only [qU7] at h
 exact cls
theorem Op7 : OkC [] Eq7 Is7 It7 := by
 refine ok fun G H ⟨a0, a1⟩ r h => ?_
 refine st1 fun bs t o => ?_
 dsimp only [qV7] at h
 exact cls
theorem Oq7 : OkC [Ep7] Er7 Iu7 Iv7 := by
 refine ok fun G H ⟨a0, a1⟩ r h => ?_
 refine st1 fun bs t o => ?_
 dsimp only [nP7] at h
 refine gx fun h3 => ?_; intros; rename_i h
 obtain ⟨q246, hq, h⟩ := bnd h
 refine ae7 [] [] (fun K J t o => ∃ b333 c334, PP ((5, .ref 2000005 b333 c334 0 q246.length 17) :: K) ((2000005, ent b333 c334 17 (List.map bo7 q246)) :: J) t o) ?_ ?_
 ·refine dB7 [0, 1] [] (fun K J n251 t o => ∃ v247 v248 b249 c250, eh7 a1 a0 n251 v247 v248 = some q246 ∧ PP ((5, .ref 2000005 b249 c250 0 v248.length 17) :: (6, .v (.int .i64 v247)) :: K) ((2000005, ent b249 c250 17 (List.map bo7 v248)) :: J) t o) ?_ ?_
  ·exact ⟨_, _, _, _, hq, pin, aJ7⟩
  rintro n251 t o ⟨v247, v248, b249, c250, h, pq⟩
  refine pn pq ?_
  cases n251 with
  | zero => rw [eh7] at h; cases h
  | succ n251 =>
   rw [eh7] at h
   refine gx fun h254 => ?_; intros; rename_i h
   obtain ⟨q307, hq, h⟩ := bnd h
   refine ae7 [0, 1, 6] [] (fun K J t o => ∃ b330 c331, PP ((7, .ref 184 b330 c331 0 q307.length 17) :: K) ((184, ent b330 c331 17 (List.map bo7 q307)) :: J) t o) ?_ ?_
   ·refine dB7 [0, 1, 5, 6] [2000005] (fun K J n312 t o => ∃ v308 v309 b310 c311, dD7 a0 v247 a1 v248 n312 v308 v309 = some q307 ∧ PP ((7, .ref 184 b310 c311 0 v309.length 17) :: (8, .v (.int .i64 v308)) :: K) ((184, ent b310 c311 17 (List.map bo7 v309)) :: J) t o) ?_ ?_
    ·exact ⟨_, _, _, _, hq, pin, aJ7⟩
    rintro n312 t o ⟨v308, v309, b310, c311, h, pq⟩
    refine pn pq ?_
    cases n312 with
    | zero => rw [dD7] at h; cases h
    | succ n312 =>
     rw [dD7] at h
     refine gx fun x313 h314 x315 h316 => ?_; intros; rename_i h
     refine cnd h rfl rfl (fun h c => ?_) fun h c => ?_
     ·try rw [c]
      refine gx fun x317 h318 x319 h320 => ?_; intros; rename_i h
      refine cI7 (f := bo7) v309 (IntKind.i64.wrap (x317 + 1)) (aF7 h320).2 ?_
      exact cls
     try rw [c]
     refine gx fun x321 h322 x323 h324 x325 h326 x327 h328 => ?_; intros; rename_i h
     refine cI7 (f := bo7) v309 x325 (aF7 h328).2 ?_
     exact cls
   rintro t o ⟨b330, c331, pq⟩
   refine pnq pq ?_
   exact cls
 rintro t o ⟨b333, c334, pq⟩
 refine pnq pq ?_
 exact cls
theorem Or7 : OkC [Eq7, Er7] Es7 Iw7 Ix7 := by
 refine ok fun G H ⟨a0, a1⟩ r h => ?_
 refine st1 fun bs t o => ?_
 dsimp only [nQ7] at h
 try (refine gx ?_; intros; rename_i h)
 obtain ⟨q51, hq, h⟩ := bnd h
 refine a97 [] [] (fun K J t o => ∃ b81 c82, PP ((5, .ref 64 b81 c82 0 q51.length 194) :: K) ((64, ent b81 c82 194 (List.map fj7 q51)) :: J) t o) ?_ ?_
 ·refine oG7 ?_
  refine dB7 [0, 1] [] (fun K J n57 t o => ∃ v52 v53 v54 b55 c56, dE7 a0 a1 n57 v52 v53 v54 = some q51 ∧ PP ((5, .ref 64 b55 c56 0 v54.length 194) :: (6, .v (.int .i64 v52)) :: (7, .v (.int .i64 v53)) :: K) ((64, ent b55 c56 194 (List.map fj7 v54)) :: J) t o) ?_ ?_
  ·exact ⟨_, _, _, _, _, hq, pin, aJ7⟩
  rintro n57 t o ⟨v52, v53, v54, b55, c56, h, pq⟩
  refine pn pq ?_
  cases n57 with
  | zero => rw [dE7] at h; cases h
  | succ n57 =>
   rw [dE7] at h
   exact cls
 rintro t o ⟨b81, c82, pq⟩
 refine pn pq ?_
 exact cls
end Go.Proofs.AM
