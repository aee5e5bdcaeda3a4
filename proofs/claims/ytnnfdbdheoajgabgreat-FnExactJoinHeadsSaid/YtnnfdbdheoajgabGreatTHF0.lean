/- Lemmas of the proof (THF0), on an abstract machine. Conditions: none. -/
import Derived.Test.YtnnfdbdheoajgabGreatTHD
set_option linter.unusedVariables false
set_option linter.unusedSimpArgs false
set_option maxRecDepth 100000
set_option maxHeartbeats 4000000
namespace Go.Proofs.AM
attribute [local irreducible] vwp cM7 bF7 fN7 vdo i07 mF7 jF7 eX7 mr7 ku7 bJ7 eO7 j37 dN7 jt7 mq7 my7
theorem Q07 : OkC [] Fd7 Jv7 Jw7 := by
 refine ok fun G H ⟨a0, a1⟩ r h => ?_
 refine st1 fun bs t o => ?_
 dsimp only [ux7] at h
 exact cls
theorem Q17 : OkC [] Fe7 Jx7 Jy7 := by
 refine ok fun G H ⟨a0, a1⟩ r h => ?_
 refine st1 fun bs t o => ?_
 dsimp only [qI7] at h
 exact cls
theorem Q27 : OkC [Fd7] Ff7 Jz7 JA7 := by
 refine ok fun G H ⟨a0, a1⟩ r h => ?_
 refine st1 fun bs t o => ?_
 dsimp only [qJ7] at h
 exact cls
theorem Q37 : OkC [Fe7] Fg7 JB7 JC7 := by
 refine ok fun G H ⟨a0, a1⟩ r h => ?_
 refine st1 fun bs t o => ?_
 dsimp only [uy7] at h
 try (refine gx ?_; intros; rename_i h)
 obtain ⟨hf, h⟩ := gd h
 obtain ⟨q15, hq, h⟩ := bnd h
 refine ac7 [] [] (fun K J t o => ∃ q15_, q15 = .inr q15_ ∧ PP ((1, .v (.int .i64 q15_)) :: K) J t o) ?_ ?_
 ·have ho1 := h
  refine ay7 (xs := a0) [0] [] 0 hf (fun K J l20 k18 t o => ∃ v16, gA7 l20 k18 v16 = some q15 ∧ PP ((1, .v (.int .i64 v16)) :: (5, .v (.int .i64 (k18 : Int))) :: K) J t o) ?_ ?_ ?_
  ·exact ⟨_, hq, pin, aH7⟩
  ·rintro k18 t o hlt ⟨v16, h, pq⟩
   refine pn pq ?_
   rw [gA7] at h
   exact cls
  rintro x19 l20 k18 t o hlt hx24 hw hd ⟨v16, h, pq⟩
  refine pn pq ?_
  rw [gA7] at h
  exact cls
 rintro t o ⟨q15, rfl, pq⟩
 refine pnq pq ?_
 exact cls
theorem Q47 : OkC [Ff7, Fg7] Fh7 JD7 JE7 := by
 refine ok fun G H ⟨a0, a1⟩ r h => ?_
 refine st1 fun bs t o => ?_
 dsimp only [qK7] at h
 exact cls
theorem Q57 : OkC [] Fi7 JF7 JG7 := by
 refine ok fun G H ⟨a0, a1⟩ r h => ?_
 refine st1 fun bs t o => ?_
 dsimp only [uz7] at h
 exact cls
theorem Q67 : OkC [Fh7] Fj7 JH7 JI7 := by
 refine ok fun G H ⟨a0, a1⟩ r h => ?_
 refine st1 fun bs t o => ?_
 dsimp only [uA7] at h
 try (refine gx ?_; intros; rename_i h)
 obtain ⟨hf, h⟩ := gd h
 obtain ⟨q15, hq, h⟩ := bnd h
 refine ac7 [] [] (fun K J t o => ∃ q15_, q15 = .inr q15_ ∧ PP ((1, .v (.int .i64 q15_)) :: K) J t o) ?_ ?_
 ·have ho1 := h
  refine ay7 (xs := a0) [0] [] 0 hf (fun K J l20 k18 t o => ∃ v16, gB7 l20 k18 v16 = some q15 ∧ PP ((1, .v (.int .i64 v16)) :: (5, .v (.int .i64 (k18 : Int))) :: K) J t o) ?_ ?_ ?_
  ·exact ⟨_, hq, pin, aH7⟩
  ·rintro k18 t o hlt ⟨v16, h, pq⟩
   refine pn pq ?_
   rw [gB7] at h
   exact cls
  rintro x19 l20 k18 t o hlt hx24 hw hd ⟨v16, h, pq⟩
  refine pn pq ?_
  rw [gB7] at h
  exact cls
 rintro t o ⟨q15, rfl, pq⟩
 refine pnq pq ?_
 exact cls
theorem Q77 : OkC [Fi7, Fj7] Fk7 JJ7 JK7 := by
 refine ok fun G H ⟨a0, a1⟩ r h => ?_
 refine st1 fun bs t o => ?_
 dsimp only [qL7] at h
 exact cls
theorem Q87 : OkC [] Fl7 JL7 JM7 := by
 refine ok fun G H ⟨a0, a1⟩ r h => ?_
 refine st1 fun bs t o => ?_
 dsimp only [qM7] at h
 exact cls
theorem Q97 : OkC [Fk7] Fm7 JN7 JO7 := by
 refine ok fun G H ⟨a0, a1⟩ r h => ?_
 refine st1 fun bs t o => ?_
 dsimp only [uB7] at h
 try (refine gx ?_; intros; rename_i h)
 obtain ⟨hf, h⟩ := gd h
 obtain ⟨q15, hq, h⟩ := bnd h
 refine ac7 [] [] (fun K J t o => ∃ q15_, q15 = .inr q15_ ∧ PP ((1, .v (.int .i64 q15_)) :: K) J t o) ?_ ?_
 ·have ho1 := h
  refine ay7 (xs := a0) [0] [] 0 hf (fun K J l20 k18 t o => ∃ v16, gC7 l20 k18 v16 = some q15 ∧ PP ((1, .v (.int .i64 v16)) :: (5, .v (.int .i64 (k18 : Int))) :: K) J t o) ?_ ?_ ?_
  ·exact ⟨_, hq, pin, aH7⟩
  ·rintro k18 t o hlt ⟨v16, h, pq⟩
   refine pn pq ?_
   rw [gC7] at h
   exact cls
  rintro x19 l20 k18 t o hlt hx24 hw hd ⟨v16, h, pq⟩
  refine pn pq ?_
  rw [gC7] at h
  exact cls
 rintro t o ⟨q15, rfl, pq⟩
 refine pnq pq ?_
 exact cls
theorem Ra7 : OkC [Fl7] Fn7 JP7 JQ7 := by
 refine ok fun G H ⟨a0, a1⟩ r h => ?_
 refine st1 fun bs t o => ?_
 dsimp only [uC7] at h
 try (refine gx ?_; intros; rename_i h)
 obtain ⟨hf, h⟩ := gd h
 obtain ⟨q15, hq, h⟩ := bnd h
 refine ac7 [] [] (fun K J t o => ∃ q15_, q15 = .inr q15_ ∧ PP ((1, .v (.int .i64 q15_)) :: K) J t o) ?_ ?_
 ·have ho1 := h
  refine ay7 (xs := a0) [0] [] 0 hf (fun K J l20 k18 t o => ∃ v16, gD7 l20 k18 v16 = some q15 ∧ PP ((1, .v (.int .i64 v16)) :: (5, .v (.int .i64 (k18 : Int))) :: K) J t o) ?_ ?_ ?_
  ·exact ⟨_, hq, pin, aH7⟩
  ·rintro k18 t o hlt ⟨v16, h, pq⟩
   refine pn pq ?_
   rw [gD7] at h
   exact cls
  rintro x19 l20 k18 t o hlt hx24 hw hd ⟨v16, h, pq⟩
  refine pn pq ?_
  rw [gD7] at h
  exact cls
 rintro t o ⟨q15, rfl, pq⟩
 refine pnq pq ?_
 exact cls
theorem Rb7 : OkC [] Fo7 JR7 JS7 := by
 refine ok fun G H a0 r h => ?_
 refine st1 fun bs t o => ?_
 dsimp only [nJ7] at h
 exact cls
theorem Rc7 : OkC [Fo7] Fp7 JT7 JU7 := by
 refine ok fun G H a0 r h => ?_
 refine st1 fun bs t o => ?_
 dsimp only [qN7] at h
 try (refine gx ?_; intros; rename_i h)
 obtain ⟨hf, h⟩ := gd h
 obtain ⟨q24, hq, h⟩ := bnd h
 refine ac7 [0] [] (fun K J t o => ∃ q24_, q24 = .inr q24_ ∧ PP K J t o) ?_ ?_
 ·have ho1 := h
  refine ay7 (xs := a0) [0] [] 0 hf (fun K J l28 k26 t o => dV7 a0 l28 k26  = some q24 ∧ PP ((3, .v (.int .i64 (k26 : Int))) :: K) J t o) ?_ ?_ ?_
  ·exact ⟨hq, pin, aH7⟩
  ·rintro k26 t o hlt ⟨h, pq⟩
   refine pn pq ?_
   rw [dV7] at h
   exact cls
  rintro x27 l28 k26 t o hlt hx32 hw hd ⟨h, pq⟩
  refine pn pq ?_
  rw [dV7] at h
  exact cls
 rintro t o ⟨q24, rfl, pq⟩
 refine pnq pq ?_
 exact cls
theorem Rd7 : OkC [] s97 JV7 JW7 := by
 refine ok fun G H a0 r h => ?_
 refine st1 fun bs t o => ?_
 dsimp only [hc7] at h
 try (refine gx ?_; intros; rename_i h)
 obtain ⟨hf, h⟩ := gd h
 obtain ⟨q8, hq, h⟩ := bnd h
 refine ac7 [0] [] (fun K J t o => ∃ q8_, q8 = .inr q8_ ∧ PP K J t o) ?_ ?_
 ·have ho1 := h
  refine ET7 (xs := a0) [0] [] 0 hf (fun K J l12 k10 t o => e17 l12 k10  = some q8 ∧ PP ((3, .v (.int .i64 (k10 : Int))) :: K) J t o) ?_ ?_ ?_
  ·exact ⟨hq, pin, aH7⟩
  ·rintro k10 t o hlt ⟨h, pq⟩
   refine pn pq ?_
   rw [e17] at h
   exact cls
  rintro x11 l12 k10 t o hlt hx16 hw hd ⟨h, pq⟩
  refine pn pq ?_
  rw [e17] at h
  exact cls
 rintro t o ⟨q8, rfl, pq⟩
 refine pnq pq ?_
 exact cls
theorem Re7 : OkC [Fp7] A37 JX7 JY7 := by
 refine ok fun G H a0 r h => ?_
 refine st1 fun bs t o => ?_
 dsimp only [nK7] at h
 exact cls
theorem Rf7 : OkC [s97] Fq7 JZ7 J07 := by
 refine ok fun G H a0 r h => ?_
 refine st1 fun bs t o => ?_
 dsimp only [qO7] at h
 try (refine gx ?_; intros; rename_i h)
 obtain ⟨hf, h⟩ := gd h
 obtain ⟨q24, hq, h⟩ := bnd h
 refine ac7 [0] [] (fun K J t o => ∃ q24_, q24 = .inr q24_ ∧ PP K J t o) ?_ ?_
 ·have ho1 := h
  refine ay7 (xs := a0) [0] [] 0 hf (fun K J l28 k26 t o => dW7 a0 l28 k26  = some q24 ∧ PP ((3, .v (.int .i64 (k26 : Int))) :: K) J t o) ?_ ?_ ?_
  ·exact ⟨hq, pin, aH7⟩
  ·rintro k26 t o hlt ⟨h, pq⟩
   refine pn pq ?_
   rw [dW7] at h
   exact cls
  rintro x27 l28 k26 t o hlt hx32 hw hd ⟨h, pq⟩
  refine pn pq ?_
  rw [dW7] at h
  exact cls
 rintro t o ⟨q24, rfl, pq⟩
 refine pnq pq ?_
 exact cls
theorem Rg7 : OkC [s97, A37, Fq7] A47 J17 J27 := by
 refine ok fun G H a0 r h => ?_
 refine st1 fun bs t o => ?_
 dsimp only [lt7] at h
 exact cls
theorem Rh7 : OkC [] A57 J37 J47 := by
 refine ok fun G H ⟨a0, a1⟩ r h => ?_
 refine st1 fun bs t o => ?_
 dsimp only [lu7] at h
 try (refine gx ?_; intros; rename_i h)
 obtain ⟨hf, h⟩ := gd h
 obtain ⟨q14, hq, h⟩ := bnd h
 refine ac7 [] [] (fun K J t o => ∃ q14_, q14 = .inr q14_ ∧ PP K J t o) ?_ ?_
 ·have ho1 := h
  refine ay7 (xs := a0) [0, 1] [] 0 hf (fun K J l18 k16 t o => e37 a1 l18 k16  = some q14 ∧ PP ((5, .v (.int .i64 (k16 : Int))) :: K) J t o) ?_ ?_ ?_
  ·exact ⟨hq, pin, aH7⟩
  ·rintro k16 t o hlt ⟨h, pq⟩
   refine pn pq ?_
   rw [e37] at h
   exact cls
  rintro x17 l18 k16 t o hlt hx22 hw hd ⟨h, pq⟩
  refine pn pq ?_
  rw [e37] at h
  exact cls
 rintro t o ⟨q14, rfl, pq⟩
 refine pnq pq ?_
 exact cls
theorem Ri7 : OkC [A57] A67 J57 J67 := by
 refine ok fun G H ⟨a0, a1⟩ r h => ?_
 refine st1 fun bs t o => ?_
 dsimp only [jL7] at h
 exact cls
theorem Rj7 : OkC [] Fr7 J77 J87 := by
 refine ok fun G H ⟨a0, a1⟩ r h => ?_
 refine st1 fun bs t o => ?_
 dsimp only [uD7] at h
 try (refine gx ?_; intros; rename_i h)
 obtain ⟨hf, h⟩ := gd h
 obtain ⟨q14, hq, h⟩ := bnd h
 refine ac7 [] [] (fun K J t o => ∃ q14_, q14 = .inr q14_ ∧ PP K J t o) ?_ ?_
 ·have ho1 := h
  refine ay7 (xs := a0) [0, 1] [] 0 hf (fun K J l18 k16 t o => e47 a1 l18 k16  = some q14 ∧ PP ((5, .v (.int .i64 (k16 : Int))) :: K) J t o) ?_ ?_ ?_
  ·exact ⟨hq, pin, aH7⟩
  ·rintro k16 t o hlt ⟨h, pq⟩
   refine pn pq ?_
   rw [e47] at h
   exact cls
  rintro x17 l18 k16 t o hlt hx22 hw hd ⟨h, pq⟩
  refine pn pq ?_
  rw [e47] at h
  exact cls
 rintro t o ⟨q14, rfl, pq⟩
 refine pnq pq ?_
 exact cls
theorem Rk7 : OkC [A67, Fr7] lv7 J97 Ka7 := by
 refine ok fun G H ⟨a0, a1⟩ r h => ?_
 refine st1 fun bs t o => ?_
 dsimp only [fQ7] at h
 exact cls
theorem Rl7 : OkC [] Fs7 Kb7 Kc7 := by
 refine ok fun G H ⟨a0, a1⟩ r h => ?_
 refine st1 fun bs t o => ?_
 dsimp only [uE7] at h
 try (refine gx ?_; intros; rename_i h)
 obtain ⟨hf, h⟩ := gd h
 obtain ⟨q14, hq, h⟩ := bnd h
 refine ac7 [] [] (fun K J t o => ∃ q14_, q14 = .inr q14_ ∧ PP K J t o) ?_ ?_
 ·have ho1 := h
  refine ay7 (xs := a0) [0, 1] [] 0 hf (fun K J l18 k16 t o => e57 a1 l18 k16  = some q14 ∧ PP ((5, .v (.int .i64 (k16 : Int))) :: K) J t o) ?_ ?_ ?_
  ·exact ⟨hq, pin, aH7⟩
  ·rintro k16 t o hlt ⟨h, pq⟩
   refine pn pq ?_
   rw [e57] at h
   exact cls
  rintro x17 l18 k16 t o hlt hx22 hw hd ⟨h, pq⟩
  refine pn pq ?_
  rw [e57] at h
  exact cls
 rintro t o ⟨q14, rfl, pq⟩
 refine pnq pq ?_
 exact cls
theorem Rm7 : OkC [lv7] Ft7 Kd7 Ke7 := by
 refine ok fun G H ⟨a0, a1⟩ r h => ?_
 refine st1 fun bs t o => ?_
 dsimp only [uF7] at h
 try (refine gx ?_; intros; rename_i h)
 obtain ⟨hf, h⟩ := gd h
 obtain ⟨q20, hq, h⟩ := bnd h
 refine ac7 [] [] (fun K J t o => ∃ q20_, q20 = .inr q20_ ∧ PP K J t o) ?_ ?_
 ·have ho1 := h
  refine ay7 (xs := a0) [0, 1] [] 0 hf (fun K J l24 k22 t o => e67 a1 l24 k22  = some q20 ∧ PP ((5, .v (.int .i64 (k22 : Int))) :: K) J t o) ?_ ?_ ?_
  ·exact ⟨hq, pin, aH7⟩
  ·rintro k22 t o hlt ⟨h, pq⟩
   refine pn pq ?_
   rw [e67] at h
   exact cls
  rintro x23 l24 k22 t o hlt hx28 hw hd ⟨h, pq⟩
  refine pn pq ?_
  rw [e67] at h
  exact cls
 rintro t o ⟨q20, rfl, pq⟩
 refine pnq pq ?_
 exact cls
theorem Rn7 : OkC [Fs7, Ft7] Fu7 Kf7 Kg7 := by
 refine ok fun G H ⟨a0, a1⟩ r h => ?_
 refine st1 fun bs t o => ?_
 dsimp only [qP7] at h
 exact cls
theorem Ro7 : OkC [] Fv7 Kh7 Ki7 := by
 refine ok fun G H ⟨a0, a1⟩ r h => ?_
 refine st1 fun bs t o => ?_
 dsimp only [qQ7] at h
 try (refine gx ?_; intros; rename_i h)
 obtain ⟨hf, h⟩ := gd h
 obtain ⟨q8, hq, h⟩ := bnd h
 refine ac7 [0, 1] [] (fun K J t o => ∃ q8_, q8 = .inr q8_ ∧ PP K J t o) ?_ ?_
 ·have ho1 := h
  refine ay7 (xs := a0) [0, 1] [] 0 hf (fun K J l12 k10 t o => e77 a1 l12 k10  = some q8 ∧ PP ((5, .v (.int .i64 (k10 : Int))) :: K) J t o) ?_ ?_ ?_
  ·exact ⟨hq, pin, aH7⟩
  ·rintro k10 t o hlt ⟨h, pq⟩
   refine pn pq ?_
   rw [e77] at h
   exact cls
  rintro x11 l12 k10 t o hlt hx16 hw hd ⟨h, pq⟩
  refine pn pq ?_
  rw [e77] at h
  exact cls
 rintro t o ⟨q8, rfl, pq⟩
 refine pnq pq ?_
 exact cls
theorem Rp7 : OkC [A47] yS7 Kj7 Kk7 := by
 refine ok fun G H a0 r h => ?_
 refine st1 fun bs t o => ?_
 dsimp only [ib7] at h
 try (refine gx ?_; intros; rename_i h)
 obtain ⟨hf, h⟩ := gd h
 obtain ⟨q18, hq, h⟩ := bnd h
 refine ac7 [0] [] (fun K J t o => ∃ q18_, q18 = .inr q18_ ∧ PP K J t o) ?_ ?_
 ·have ho1 := h
  refine ay7 (xs := a0) [0] [] 0 hf (fun K J l22 k20 t o => dX7 a0 l22 k20  = some q18 ∧ PP ((3, .v (.int .i64 (k20 : Int))) :: K) J t o) ?_ ?_ ?_
  ·exact ⟨hq, pin, aH7⟩
  ·rintro k20 t o hlt ⟨h, pq⟩
   refine pn pq ?_
   rw [dX7] at h
   exact cls
  rintro x21 l22 k20 t o hlt hx26 hw hd ⟨h, pq⟩
  refine pn pq ?_
  rw [dX7] at h
  exact cls
 rintro t o ⟨q18, rfl, pq⟩
 refine pnq pq ?_
 exact cls
theorem Rq7 : OkC [Fu7] yT7 Kl7 Km7 := by
 refine ok fun G H ⟨a0, a1⟩ r h => ?_
 refine st1 fun bs t o => ?_
 dsimp only [lw7] at h
 try (refine gx ?_; intros; rename_i h)
 obtain ⟨hf, h⟩ := gd h
 obtain ⟨q16, hq, h⟩ := bnd h
 refine ac7 [] [] (fun K J t o => ∃ q16_, q16 = .inr q16_ ∧ PP K J t o) ?_ ?_
 ·have ho1 := h
  refine ay7 (xs := a0.commits) [2, 3] [16, 24] 0 hf (fun K J l20 k18 t o => e87 a1 l20 k18  = some q16 ∧ PP ((5, .v (.int .i64 (k18 : Int))) :: K) J t o) ?_ ?_ ?_
  ·exact ⟨hq, pin, aH7⟩
  ·rintro k18 t o hlt ⟨h, pq⟩
   refine pn pq ?_
   rw [e87] at h
   exact cls
  rintro x19 l20 k18 t o hlt hx24 hw hd ⟨h, pq⟩
  refine pn pq ?_
  rw [e87] at h
  exact cls
 rintro t o ⟨q16, rfl, pq⟩
 refine pnq pq ?_
 exact cls
theorem Rr7 : OkC [] wn7 Kn7 Ko7 := by
 refine ok fun G H ⟨a0, a1⟩ r h => ?_
 refine st1 fun bs t o => ?_
 dsimp only [lx7] at h
 try (refine gx ?_; intros; rename_i h)
 obtain ⟨hf, h⟩ := gd h
 obtain ⟨q9, hq, h⟩ := bnd h
 refine ac7 [] [] (fun K J t o => ∃ q9_, q9 = .inr q9_ ∧ PP K J t o) ?_ ?_
 ·have ho1 := h
  refine ay7 (xs := a0.heads) [1, 2] [16] 0 hf (fun K J l13 k11 t o => e97 a1 l13 k11  = some q9 ∧ PP ((5, .v (.int .i64 (k11 : Int))) :: K) J t o) ?_ ?_ ?_
  ·exact ⟨hq, pin, aH7⟩
  ·rintro k11 t o hlt ⟨h, pq⟩
   refine pn pq ?_
   rw [e97] at h
   exact cls
  rintro x12 l13 k11 t o hlt hx17 hw hd ⟨h, pq⟩
  refine pn pq ?_
  rw [e97] at h
  exact cls
 rintro t o ⟨q9, rfl, pq⟩
 refine pnq pq ?_
 exact cls
theorem Rs7 : OkC [] A77 Kp7 Kq7 := by
 refine ok fun G H a0 r h => ?_
 refine st1 fun bs t o => ?_
 dsimp only [ly7] at h
 exact cls
theorem Rt7 : OkC [A77] yU7 Kr7 Ks7 := by
 refine ok fun G H a0 r h => ?_
 refine st1 fun bs t o => ?_
 dsimp only [lz7] at h
 exact cls
theorem Ru7 : OkC [yU7] A87 Kt7 Ku7 := by
 refine ok fun G H a0 r h => ?_
 refine st1 fun bs t o => ?_
 dsimp only [nL7] at h
 try (refine gx ?_; intros; rename_i h)
 obtain ⟨hf, h⟩ := gd h
 obtain ⟨q42, hq, h⟩ := bnd h
 refine ac7 [] [] (fun K J t o => ∃ b67 c68, PP ((3, .ref 40 b67 c68 0 q42.length 100) :: K) ((40, ent b67 c68 100 (List.map (am7 true) q42)) :: J) t o) ?_ ?_
 ·refine ay7 (xs := a0) [0] [] 0 hf (fun K J l49 k47 t o => ∃ v44 b45 c46, gE7 l49 k47 v44 = some q42 ∧ PP ((3, .ref 40 b45 c46 0 v44.length 100) :: (4, .v (.int .i64 (k47 : Int))) :: K) ((40, ent b45 c46 100 (List.map (am7 true) v44)) :: J) t o) ?_ ?_ ?_
  ·exact ⟨_, _, _, hq, pin, aH7⟩
  ·rintro k47 t o hlt ⟨v44, b45, c46, h, pq⟩
   refine pn pq ?_
   rw [gE7] at h
   exact cls
  rintro x48 l49 k47 t o hlt hx53 hw hd ⟨v44, b45, c46, h, pq⟩
  refine pn pq ?_
  rw [gE7] at h
  exact cls
 rintro t o ⟨b67, c68, pq⟩
 refine pnq pq ?_
 exact cls
theorem Rv7 : OkC [A87] A97 Kv7 Kw7 := by
 refine ok fun G H a0 r h => ?_
 refine st1 fun bs t o => ?_
 dsimp only [jM7] at h
 exact cls
theorem Rw7 : OkC [Fv7, yS7, s97, yT7, wn7] yV7 Kx7 Ky7 := by
 refine ok fun G H a0 r h => ?_
 refine st1 fun bs t o => ?_
 dsimp only [nM7] at h
 try (refine gx ?_; intros; rename_i h)
 obtain ⟨hf, h⟩ := gd h
 obtain ⟨q36, hq, h⟩ := bnd h
 refine ac7 [1] [8] (fun K J t o => ∃ q36_, q36 = .inr q36_ ∧ PP K J t o) ?_ ?_
 ·have ho1 := h
  refine ay7 (xs := a0.commits) [1] [8] 0 hf (fun K J l40 k38 t o => dY7 a0 l40 k38  = some q36 ∧ PP ((3, .v (.int .i64 (k38 : Int))) :: K) J t o) ?_ ?_ ?_
  ·exact ⟨hq, pin, aH7⟩
  ·rintro k38 t o hlt ⟨h, pq⟩
   refine pn pq ?_
   rw [dY7] at h
   exact cls
  rintro x39 l40 k38 t o hlt hx44 hw hd ⟨h, pq⟩
  refine pn pq ?_
  rw [dY7] at h
  exact cls
 rintro t o ⟨q36, rfl, pq⟩
 refine pnq pq ?_
 try (refine gx ?_; intros; rename_i h)
 obtain ⟨hf, h⟩ := gd h
 obtain ⟨q78, hq, h⟩ := bnd h
 refine ac7 [] [] (fun K J t o => ∃ q78_, q78 = .inr q78_ ∧ PP K J t o) ?_ ?_
 ·have ho1 := h
  refine ay7 (xs := a0.heads) [1] [8] 0 hf (fun K J l82 k80 t o => dZ7 a0 l82 k80  = some q78 ∧ PP ((5, .v (.int .i64 (k80 : Int))) :: K) J t o) ?_ ?_ ?_
  ·exact ⟨hq, pin, aH7⟩
  ·rintro k80 t o hlt ⟨h, pq⟩
   refine pn pq ?_
   rw [dZ7] at h
   exact cls
  rintro x81 l82 k80 t o hlt hx86 hw hd ⟨h, pq⟩
  refine pn pq ?_
  rw [dZ7] at h
  exact cls
 rintro t o ⟨q78, rfl, pq⟩
 refine pnq pq ?_
 exact cls
theorem Rx7 : OkC [yV7] Ba7 Kz7 KA7 := by
 refine ok fun G H ⟨a0, a1⟩ r h => ?_
 refine st1 fun bs t o => ?_
 dsimp only [jN7] at h
 exact cls
theorem Ry7 : OkC [] Bb7 KB7 KC7 := by
 refine ok fun G H ⟨a0, a1⟩ r h => ?_
 refine st1 fun bs t o => ?_
 dsimp only [jO7] at h
 refine gx fun h4 => ?_; intros; rename_i h
 obtain ⟨hf, h⟩ := gd h
 obtain ⟨q21, hq, h⟩ := bnd h
 refine ac7 [2] [16] (fun K J t o => ∃ b38 c39, PP ((5, .ref 96 b38 c39 0 q21.length 33) :: K) ((96, ent b38 c39 33 (List.map bI7 q21)) :: J) t o) ?_ ?_
 ·refine ay7 (xs := a1) [1, 2] [16] 0 hf (fun K J l28 k26 t o => ∃ v23 b24 c25, fa7 l28 k26 v23 = some q21 ∧ PP ((5, .ref 96 b24 c25 0 v23.length 33) :: (6, .v (.int .i64 (k26 : Int))) :: K) ((96, ent b24 c25 33 (List.map bI7 v23)) :: J) t o) ?_ ?_ ?_
  ·exact ⟨_, _, _, hq, pin, aH7⟩
  ·rintro k26 t o hlt ⟨v23, b24, c25, h, pq⟩
   refine pn pq ?_
   rw [fa7] at h
   exact cls
  rintro x27 l28 k26 t o hlt hx32 hw hd ⟨v23, b24, c25, h, pq⟩
  refine pn pq ?_
  rw [fa7] at h
  refine gx fun x35 h36 => ?_; intros; rename_i h
  refine bu7 (f := bI7) v23 true (aq7 h36).2 ?_
  exact cls
 rintro t o ⟨b38, c39, pq⟩
 refine pnq pq ?_
 try (refine gx ?_; intros; rename_i h)
 obtain ⟨q179, hq, h⟩ := bnd h
 refine ac7 [] [] (fun K J t o => ∃ b231 c232, PP ((5, .ref 96 b231 c232 0 q179.length 33) :: K) ((96, ent b231 c232 33 (List.map bI7 q179)) :: J) t o) ?_ ?_
 ·refine ce7 [2] [16] (fun K J n184 t o => ∃ v180 v181 b182 c183, fb7 a0 n184 v180 v181 = some q179 ∧ PP ((5, .ref 96 b182 c183 0 v181.length 33) :: (7, .v (.int .i64 v180)) :: K) ((96, ent b182 c183 33 (List.map bI7 v181)) :: J) t o) ?_ ?_
  ·exact ⟨_, _, _, _, hq, pin, aH7⟩
  rintro n184 t o ⟨v180, v181, b182, c183, h, pq⟩
  refine pn pq ?_
  cases n184 with
  | zero => rw [fb7] at h; cases h
  | succ n184 =>
   rw [fb7] at h
   try (refine gx ?_; intros; rename_i h)
   obtain ⟨q213, hq, h⟩ := bnd h
   refine ac7 [2, 7] [16] (fun K J t o => ∃ b228 c229, PP ((5, .ref 96 b228 c229 0 q213.length 33) :: K) ((96, ent b228 c229 33 (List.map bI7 q213)) :: J) t o) ?_ ?_
   ·refine ce7 [2, 7] [16] (fun K J n218 t o => ∃ v214 v215 b216 c217, c87 a0 v180 n218 v214 v215 = some q213 ∧ PP ((5, .ref 96 b216 c217 0 v215.length 33) :: (8, .v (.int .i64 v214)) :: K) ((96, ent b216 c217 33 (List.map bI7 v215)) :: J) t o) ?_ ?_
    ·exact ⟨_, _, _, _, hq, pin, aH7⟩
    rintro n218 t o ⟨v214, v215, b216, c217, h, pq⟩
    refine pn pq ?_
    cases n218 with
    | zero => rw [c87] at h; cases h
    | succ n218 =>
     rw [c87] at h
     refine gx fun x219 h220 x221 h222 x223 h224 x225 h226 => ?_; intros; rename_i h
     refine bu7 (f := bI7) v215 true (aq7 h226).2 ?_
     exact cls
   rintro t o ⟨b228, c229, pq⟩
   refine pnq pq ?_
   exact cls
 rintro t o ⟨b231, c232, pq⟩
 refine pnq pq ?_
 exact cls
theorem Rz7 : OkC [Ba7, Bb7] Fw7 KD7 KE7 := by
 refine ok fun G H ⟨a0, a1, a2⟩ r h => ?_
 refine st1 fun bs t o => ?_
 dsimp only [qR7] at h
 refine gx fun x3 h4 x5 h6 x8 h9 x13 h14 h19 => ?_; intros; rename_i h
 obtain ⟨q198, hq, h⟩ := bnd h
 refine ac7 [] [] (fun K J t o => ∃ b265 c266, PP ((7, .ref 104 b265 c266 0 q198.length 17) :: K) ((104, ent b265 c266 17 (List.map be7 q198)) :: J) t o) ?_ ?_
 ·refine ce7 [3, 8, 9] [24, 224, 256] (fun K J n206 t o => ∃ v199 v200 v203 b201 c202 b204 c205, cx7 x8 x13 a0 n206 v199 v200 v203 = some q198 ∧ PP ((7, .ref 104 b201 c202 0 v200.length 17) :: (10, .ref 288 b204 c205 0 v203.length 33) :: (11, .v (.int .i64 v199)) :: K) ((104, ent b201 c202 17 (List.map be7 v200)) :: (288, ent b204 c205 33 (List.map bI7 v203)) :: J) t o) ?_ ?_
  ·exact ⟨_, _, _, _, _, _, _, hq, pin, aH7⟩
  rintro n206 t o ⟨v199, v200, v203, b201, c202, b204, c205, h, pq⟩
  refine pn pq ?_
  cases n206 with
  | zero => rw [cx7] at h; cases h
  | succ n206 =>
   rw [cx7] at h
   refine gx fun x207 h208 x209 h210 => ?_; intros; rename_i h
   obtain ⟨q217, hq, h⟩ := bnd h
   refine a87 [3, 8, 9, 10, 11, 51, 52, 54, 55] [24, 224, 256, 288] (fun K J t o => ∃ b225 c226, PP ((7, .ref 104 b225 c226 0 q217.length 17) :: K) ((104, ent b225 c226 17 (List.map be7 q217)) :: J) t o) ?_ ?_
   ·have h := hq
    exact cls
   rintro t o ⟨b225, c226, pq⟩
   refine pn pq ?_
   try (refine gx ?_; intros; rename_i h)
   obtain ⟨q249, hq, h⟩ := bnd h
   refine ac7 [3, 7, 8, 9, 11, 51, 52, 54, 55] [24, 104, 224, 256] (fun K J t o => ∃ b262 c263, PP ((10, .ref 288 b262 c263 0 q249.length 33) :: K) ((288, ent b262 c263 33 (List.map bI7 q249)) :: J) t o) ?_ ?_
   ·refine ce7 [3, 7, 8, 9, 11, 51, 52, 54, 55] [24, 104, 224, 256] (fun K J n254 t o => ∃ v250 v251 b252 c253, dp7 a0 v199 n254 v250 v251 = some q249 ∧ PP ((10, .ref 288 b252 c253 0 v251.length 33) :: (12, .v (.int .i64 v250)) :: K) ((288, ent b252 c253 33 (List.map bI7 v251)) :: J) t o) ?_ ?_
    ·exact ⟨_, _, _, _, hq, pin, aH7⟩
    rintro n254 t o ⟨v250, v251, b252, c253, h, pq⟩
    refine pn pq ?_
    cases n254 with
    | zero => rw [dp7] at h; cases h
    | succ n254 =>
     rw [dp7] at h
     refine gx fun x255 h256 x257 h258 x259 h260 => ?_; intros; rename_i h
     refine bu7 (f := bI7) v251 true (aq7 h260).2 ?_
     exact cls
   rintro t o ⟨b262, c263, pq⟩
   refine pnq pq ?_
   exact cls
 rintro t o ⟨b265, c266, pq⟩
 refine pnq pq ?_
 exact cls
theorem RA7 : OkC [] Bc7 KF7 KG7 := by
 refine ok fun G H ⟨a0, a1⟩ r h => ?_
 refine st1 fun bs t o => ?_
 dsimp only [nN7] at h
 try (refine gx ?_; intros; rename_i h)
 obtain ⟨hf, h⟩ := gd h
 obtain ⟨q81, hq, h⟩ := bnd h
 refine ac7 [3] [24] (fun K J t o => ∃ b115 c116, PP ((5, .ref 64 b115 c116 0 q81.2.length 100) :: (6, .v (.bool q81.1)) :: K) ((64, ent b115 c116 100 (List.map (am7 false) q81.2)) :: J) t o) ?_ ?_
 ·refine ay7 (xs := a0) [0, 3] [24] 0 hf (fun K J l89 k87 t o => ∃ v82 v84 b85 c86, cy7 a1 l89 k87 v82 v84 = some q81 ∧ PP ((5, .ref 64 b85 c86 0 v84.length 100) :: (6, .v (.bool v82)) :: (7, .v (.int .i64 (k87 : Int))) :: K) ((64, ent b85 c86 100 (List.map (am7 false) v84)) :: J) t o) ?_ ?_ ?_
  ·exact ⟨_, _, _, _, hq, pin, aH7⟩
  ·rintro k87 t o hlt ⟨v82, v84, b85, c86, h, pq⟩
   refine pn pq ?_
   rw [cy7] at h
   exact cls
  rintro x88 l89 k87 t o hlt hx93 hw hd ⟨v82, v84, b85, c86, h, pq⟩
  refine pn pq ?_
  rw [cy7] at h
  try (refine gx ?_; intros; rename_i h)
  obtain ⟨q100, hq, h⟩ := bnd h
  refine a87 [0, 3, 7] [24] (fun K J t o => ∃ b107 c108, PP ((5, .ref 64 b107 c108 0 q100.2.length 100) :: (6, .v (.bool q100.1)) :: K) ((64, ent b107 c108 100 (List.map (am7 false) q100.2)) :: J) t o) ?_ ?_
  ·have h := hq
   exact cls
  rintro t o ⟨b107, c108, pq⟩
  refine pn pq ?_
  exact cls
 rintro t o ⟨b115, c116, pq⟩
 refine pnq pq ?_
 exact cls
theorem RB7 : OkC [Bc7] Fx7 KH7 KI7 := by
 refine ok fun G H ⟨a0, a1⟩ r h => ?_
 refine st1 fun bs t o => ?_
 dsimp only [qS7] at h
 try (refine gx ?_; intros; rename_i h)
 obtain ⟨hf, h⟩ := gd h
 obtain ⟨q21, hq, h⟩ := bnd h
 refine ac7 [] [] (fun K J t o => PP ((5, .ro (List.map (am7 false) q21)) :: K) J t o) ?_ ?_
 ·refine ay7 (xs := a1) [1] [] 0 hf (fun K J l26 k24 t o => ∃ v22, fc7 l26 k24 v22 = some q21 ∧ PP ((5, .ro (List.map (am7 false) v22)) :: (6, .v (.int .i64 (k24 : Int))) :: K) J t o) ?_ ?_ ?_
  ·exact ⟨_, hq, pin, aH7⟩
  ·rintro k24 t o hlt ⟨v22, h, pq⟩
   refine pn pq ?_
   rw [fc7] at h
   exact cls
  rintro x25 l26 k24 t o hlt hx30 hw hd ⟨v22, h, pq⟩
  refine pn pq ?_
  rw [fc7] at h
  exact cls
 rintro t o pq
 refine pnq pq ?_
 try (refine gx ?_; intros; rename_i h)
 obtain ⟨hf, h⟩ := gd h
 obtain ⟨q61, hq, h⟩ := bnd h
 refine ac7 [] [] (fun K J t o => ∃ b80 c81, PP ((7, .ref 176 b80 c81 0 q61.length 49) :: K) ((176, ent b80 c81 49 (List.map ca7 q61)) :: J) t o) ?_ ?_
 ·refine ay7 (xs := q21) [5] [] 0 hf (fun K J l68 k66 t o => ∃ v63 b64 c65, d07 l68 k66 v63 = some q61 ∧ PP ((7, .ref 176 b64 c65 0 v63.length 49) :: (8, .v (.int .i64 (k66 : Int))) :: K) ((176, ent b64 c65 49 (List.map ca7 v63)) :: J) t o) ?_ ?_ ?_
  ·exact ⟨_, _, _, hq, pin, aH7⟩
  ·rintro k66 t o hlt ⟨v63, b64, c65, h, pq⟩
   refine pn pq ?_
   rw [d07] at h
   exact cls
  rintro x67 l68 k66 t o hlt hx72 hw hd ⟨v63, b64, c65, h, pq⟩
  refine pn pq ?_
  rw [d07] at h
  exact cls
 rintro t o ⟨b80, c81, pq⟩
 refine pnq pq ?_
 exact cls
end Go.Proofs.AM
