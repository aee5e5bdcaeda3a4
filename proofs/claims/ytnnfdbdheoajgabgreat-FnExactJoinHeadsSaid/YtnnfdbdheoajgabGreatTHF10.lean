/- Lemmas of the proof (THF10), on an abstract machine. Conditions: none. -/
import Derived.Test.YtnnfdbdheoajgabGreatTHD
set_option linter.unusedVariables false
set_option linter.unusedSimpArgs false
set_option maxRecDepth 100000
set_option maxHeartbeats 4000000
namespace Go.Proofs.AM
attribute [local irreducible] vwp cM7 bF7 fN7 vdo i07 mF7 jF7 eX7 mr7 ku7 bJ7 eO7 j37 dN7 jt7 mq7 my7
theorem Tr7 : OkC [j67, Bz7, BA7] BB7 Oq7 Or7 := by
 refine ok fun G H ⟨a0, a1⟩ r h => ?_
 have H_da9 := H _ (.tail _ (.head _))
 have H_cy9 := H _ (.tail _ (.tail _ (.head _)))
 replace H := jJ7 1 H
 refine st1 fun bs t o => ?_
 dsimp only [ii7] at h
 try (refine gx ?_; intros; rename_i h)
 obtain ⟨q52, hq, h⟩ := bnd h
 refine ac7 [] [] (fun K J t o => PP ((1, .v (.int .i64 q52.1)) :: K) ((0, ent (bs 0).1 (bs 0).2 115 (List.map (af7 true) q52.2)) :: J) t o) ?_ ?_
 ·refine ce7 [] [] (fun K J n56 t o => ∃ v53 v54 v55, cF7 n56 v53 v54 v55 = some q52 ∧ PP ((0, .ref 0 (bs 0).1 (bs 0).2 0 v55.length 115) :: (1, .v (.int .i64 v53)) :: (5, .v (.int .i64 v54)) :: K) ((0, ent (bs 0).1 (bs 0).2 115 (List.map (af7 true) v55)) :: J) t o) ?_ ?_
  ·exact ⟨_, _, _, hq, pin, aH7⟩
  rintro n56 t o ⟨v53, v54, v55, h, pq⟩
  refine pn pq ?_
  cases n56 with
  | zero => rw [cF7] at h; cases h
  | succ n56 =>
   rw [cF7] at h
   refine gx fun x57 h58 => ?_; intros; rename_i h
   refine nD7 (f := (af7 true)) (g := be7) (xs := v55) (x := x57) (ys := x57.up) (aq7 h58).2 rfl rfl rfl fun b59 c60 => ?_
   try (refine gx ?_; intros; rename_i h)
   obtain ⟨x61, h62, h⟩ := bnd h
   have L62 := QX7 h62; (try dsimp only at L62); (first | replace L62 := And.intro L62.1.symm L62.2.symm | replace L62 := L62.symm); (try obtain ⟨L62, M62⟩ := L62); refine bC7 (c := Bz7) (x57.up, v53) H_da9 h62 fun ch => ?_
   try (refine gx ?_; intros; rename_i h)
   refine we7 (f := (af7 true)) (⟨x61.2, x57.sheet, x57.note⟩ : Commit) (aq7 h58).2 ?_
   refine gx fun x63 h64 => ?_; intros; rename_i h
   refine nD7 (f := (af7 true)) (g := (am7 true)) (xs := (List.set v55 v54.toNat (⟨x61.2, x57.sheet, x57.note⟩ : Commit))) (x := x63) (ys := x63.sheet) (aq7 h64).2 rfl rfl rfl fun b65 c66 => ?_
   try (refine gx ?_; intros; rename_i h)
   obtain ⟨x67, h68, h⟩ := bnd h
   have L68 := QY7 h68; (try dsimp only at L68); (first | replace L68 := And.intro L68.1.symm L68.2.symm | replace L68 := L68.symm); (try obtain ⟨L68, M68⟩ := L68); refine bC7 (c := BA7) (x63.sheet, x61.1) H_cy9 h68 fun ch => ?_
   try (refine gx ?_; intros; rename_i h)
   refine we7 (f := (af7 true)) (⟨x63.up, x67.2, x63.note⟩ : Commit) (aq7 h64).2 ?_
   refine gx fun x69 h70 x71 h72 => ?_; intros; rename_i h
   refine bu7 (f := (af7 true)) (List.set (List.set v55 v54.toNat (⟨x61.2, x57.sheet, x57.note⟩ : Commit)) v54.toNat (⟨x63.up, x67.2, x63.note⟩ : Commit)) (⟨x71.up, x71.sheet, x69⟩ : Commit) (aq7 h72).2 ?_
   exact cls
 rintro t o pq
 refine pnq pq ?_
 exact cls
theorem Ts7 : OkC [j67] BC7 Ot7 Ou7 := by
 refine ok fun G H ⟨a0, a1⟩ r h => ?_
 refine st1 fun bs t o => ?_
 dsimp only [ij7] at h
 try (refine gx ?_; intros; rename_i h)
 obtain ⟨q22, hq, h⟩ := bnd h
 refine ac7 [] [] (fun K J t o => PP ((1, .v (.int .i64 q22.1)) :: K) ((0, ent (bs 0).1 (bs 0).2 130 (List.map aw7 q22.2)) :: J) t o) ?_ ?_
 ·refine ce7 [] [] (fun K J n26 t o => ∃ v23 v24 v25, cG7 n26 v23 v24 v25 = some q22 ∧ PP ((0, .ref 0 (bs 0).1 (bs 0).2 0 v25.length 130) :: (1, .v (.int .i64 v23)) :: (5, .v (.int .i64 v24)) :: K) ((0, ent (bs 0).1 (bs 0).2 130 (List.map aw7 v25)) :: J) t o) ?_ ?_
  ·exact ⟨_, _, _, hq, pin, aH7⟩
  rintro n26 t o ⟨v23, v24, v25, h, pq⟩
  refine pn pq ?_
  cases n26 with
  | zero => rw [cG7] at h; cases h
  | succ n26 =>
   rw [cG7] at h
   refine gx fun x27 h28 x29 h30 => ?_; intros; rename_i h
   refine bu7 (f := aw7) v25 (⟨x27, x29.at_⟩ : bg7) (aq7 h30).2 ?_
   refine gx fun x31 h32 => ?_; intros; rename_i h
   refine bu7 (f := aw7) (List.set v25 v24.toNat (⟨x27, x29.at_⟩ : bg7)) (⟨x31.name, (IntKind.i64.wrap (v23 + 1))⟩ : bg7) (aq7 h32).2 ?_
   exact cls
 rintro t o pq
 refine pnq pq ?_
 exact cls
theorem Tt7 : OkC [] GP7 Ow7 Ox7 := by
 refine ok fun G H ⟨a0, a1⟩ r h => ?_
 refine st1 fun bs t o => ?_
 dsimp only [rI7] at h
 try (refine gx ?_; intros; rename_i h)
 obtain ⟨hf, h⟩ := gd h
 obtain ⟨q9, hq, h⟩ := bnd h
 refine ac7 [] [] (fun K J t o => ∃ q9_, q9 = .inr q9_ ∧ PP ((1, .v (.int .i64 q9_)) :: K) J t o) ?_ ?_
 ·have ho1 := h
  refine ay7 (xs := a0) [0] [] 0 hf (fun K J l14 k12 t o => ∃ v10, fx7 l14 k12 v10 = some q9 ∧ PP ((1, .v (.int .i64 v10)) :: (5, .v (.int .i64 (k12 : Int))) :: K) J t o) ?_ ?_ ?_
  ·exact ⟨_, hq, pin, aH7⟩
  ·rintro k12 t o hlt ⟨v10, h, pq⟩
   refine pn pq ?_
   rw [fx7] at h
   exact cls
  rintro x13 l14 k12 t o hlt hx18 hw hd ⟨v10, h, pq⟩
  refine pn pq ?_
  rw [fx7] at h
  exact cls
 rintro t o ⟨q9, rfl, pq⟩
 refine pnq pq ?_
 exact cls
theorem Tu7 : OkC [j67] GQ7 Oy7 Oz7 := by
 refine ok fun G H ⟨a0, a1⟩ r h => ?_
 refine st1 fun bs t o => ?_
 dsimp only [rJ7] at h
 try (refine gx ?_; intros; rename_i h)
 obtain ⟨hf, h⟩ := gd h
 obtain ⟨q21, hq, h⟩ := bnd h
 refine ac7 [] [] (fun K J t o => ∃ q21_, q21 = .inr q21_ ∧ PP ((1, .v (.int .i64 q21_)) :: K) J t o) ?_ ?_
 ·have ho1 := h
  refine ay7 (xs := a0) [0] [] 0 hf (fun K J l26 k24 t o => ∃ v22, fy7 l26 k24 v22 = some q21 ∧ PP ((1, .v (.int .i64 v22)) :: (5, .v (.int .i64 (k24 : Int))) :: K) J t o) ?_ ?_ ?_
  ·exact ⟨_, hq, pin, aH7⟩
  ·rintro k24 t o hlt ⟨v22, h, pq⟩
   refine pn pq ?_
   rw [fy7] at h
   exact cls
  rintro x25 l26 k24 t o hlt hx30 hw hd ⟨v22, h, pq⟩
  refine pn pq ?_
  rw [fy7] at h
  exact cls
 rintro t o ⟨q21, rfl, pq⟩
 refine pnq pq ?_
 exact cls
theorem Tv7 : OkC [] GR7 OA7 OB7 := by
 refine ok fun G H ⟨a0, a1⟩ r h => ?_
 refine st1 fun bs t o => ?_
 dsimp only [n47] at h
 try (refine gx ?_; intros; rename_i h)
 obtain ⟨hf, h⟩ := gd h
 obtain ⟨q11, hq, h⟩ := bnd h
 refine ac7 [] [] (fun K J t o => ∃ q11_, q11 = .inr q11_ ∧ PP ((1, .v (.int .i64 q11_)) :: K) J t o) ?_ ?_
 ·have ho1 := h
  refine ay7 (xs := a0) [0] [] 0 hf (fun K J l16 k14 t o => ∃ v12, fz7 l16 k14 v12 = some q11 ∧ PP ((1, .v (.int .i64 v12)) :: (5, .v (.int .i64 (k14 : Int))) :: K) J t o) ?_ ?_ ?_
  ·exact ⟨_, hq, pin, aH7⟩
  ·rintro k14 t o hlt ⟨v12, h, pq⟩
   refine pn pq ?_
   rw [fz7] at h
   exact cls
  rintro x15 l16 k14 t o hlt hx20 hw hd ⟨v12, h, pq⟩
  refine pn pq ?_
  rw [fz7] at h
  exact cls
 rintro t o ⟨q11, rfl, pq⟩
 refine pnq pq ?_
 exact cls
theorem Tw7 : OkC [j67, GP7, GQ7] GS7 OC7 OD7 := by
 refine ok fun G H ⟨a0, a1⟩ r h => ?_
 refine st1 fun bs t o => ?_
 dsimp only [rK7] at h
 try (refine gx ?_; intros; rename_i h)
 obtain ⟨hf, h⟩ := gd h
 obtain ⟨q27, hq, h⟩ := bnd h
 refine ac7 [] [] (fun K J t o => ∃ q27_, q27 = .inr q27_ ∧ PP ((1, .v (.int .i64 q27_)) :: K) J t o) ?_ ?_
 ·have ho1 := h
  refine ay7 (xs := a0) [0] [] 0 hf (fun K J l32 k30 t o => ∃ v28, fA7 l32 k30 v28 = some q27 ∧ PP ((1, .v (.int .i64 v28)) :: (5, .v (.int .i64 (k30 : Int))) :: K) J t o) ?_ ?_ ?_
  ·exact ⟨_, hq, pin, aH7⟩
  ·rintro k30 t o hlt ⟨v28, h, pq⟩
   refine pn pq ?_
   rw [fA7] at h
   exact cls
  rintro x31 l32 k30 t o hlt hx36 hw hd ⟨v28, h, pq⟩
  refine pn pq ?_
  rw [fA7] at h
  exact cls
 rintro t o ⟨q27, rfl, pq⟩
 refine pnq pq ?_
 exact cls
theorem Tx7 : OkC [GR7, GS7, j67] GT7 OE7 OF7 := by
 refine ok fun G H ⟨a0, a1⟩ r h => ?_
 refine st1 fun bs t o => ?_
 dsimp only [rL7] at h
 try (refine gx ?_; intros; rename_i h)
 obtain ⟨hf, h⟩ := gd h
 obtain ⟨q27, hq, h⟩ := bnd h
 refine ac7 [] [] (fun K J t o => ∃ q27_, q27 = .inr q27_ ∧ PP ((1, .v (.int .i64 q27_)) :: K) J t o) ?_ ?_
 ·have ho1 := h
  refine ay7 (xs := a0) [0] [] 0 hf (fun K J l32 k30 t o => ∃ v28, fB7 l32 k30 v28 = some q27 ∧ PP ((1, .v (.int .i64 v28)) :: (5, .v (.int .i64 (k30 : Int))) :: K) J t o) ?_ ?_ ?_
  ·exact ⟨_, hq, pin, aH7⟩
  ·rintro k30 t o hlt ⟨v28, h, pq⟩
   refine pn pq ?_
   rw [fB7] at h
   exact cls
  rintro x31 l32 k30 t o hlt hx36 hw hd ⟨v28, h, pq⟩
  refine pn pq ?_
  rw [fB7] at h
  exact cls
 rintro t o ⟨q27, rfl, pq⟩
 refine pnq pq ?_
 exact cls
theorem Ty7 : OkC [j67] GU7 OG7 OH7 := by
 refine ok fun G H ⟨a0, a1⟩ r h => ?_
 refine st1 fun bs t o => ?_
 dsimp only [rM7] at h
 try (refine gx ?_; intros; rename_i h)
 obtain ⟨hf, h⟩ := gd h
 obtain ⟨q15, hq, h⟩ := bnd h
 refine ac7 [] [] (fun K J t o => ∃ q15_, q15 = .inr q15_ ∧ PP ((1, .v (.int .i64 q15_)) :: K) J t o) ?_ ?_
 ·have ho1 := h
  refine ay7 (xs := a0) [0] [] 0 hf (fun K J l20 k18 t o => ∃ v16, fC7 l20 k18 v16 = some q15 ∧ PP ((1, .v (.int .i64 v16)) :: (5, .v (.int .i64 (k18 : Int))) :: K) J t o) ?_ ?_ ?_
  ·exact ⟨_, hq, pin, aH7⟩
  ·rintro k18 t o hlt ⟨v16, h, pq⟩
   refine pn pq ?_
   rw [fC7] at h
   exact cls
  rintro x19 l20 k18 t o hlt hx24 hw hd ⟨v16, h, pq⟩
  refine pn pq ?_
  rw [fC7] at h
  exact cls
 rintro t o ⟨q15, rfl, pq⟩
 refine pnq pq ?_
 exact cls
theorem Tz7 : OkC [Fm7, Fn7] BD7 OI7 OJ7 := by
 refine ok fun G H ⟨a0, a1⟩ r h => ?_
 refine st1 fun bs t o => ?_
 dsimp only [rN7] at h
 exact cls
theorem TA7 : OkC [F27, F37] tc7 OK7 OL7 := by
 refine ok fun G H a0 r h => ?_
 refine st1 fun bs t o => ?_
 dsimp only [jS7] at h
 exact cls
theorem TB7 : OkC [yV7, s97, Be7, wn7, yW7, Bf7] BE7 OM7 ON7 := by
 refine ok fun G H ⟨a0, a1, a2, a3⟩ r h => ?_
 have H_fi9 := H _ (.head _)
 have H_fp9 := H _ (.tail _ (.head _))
 have H_gs9 := H _ (.tail _ (.tail _ (.head _)))
 have H_gu9 := H _ (.tail _ (.tail _ (.tail _ (.head _))))
 have H_fg9 := H _ (.tail _ (.tail _ (.tail _ (.tail _ (.head _)))))
 have H_hb9 := H _ (.tail _ (.tail _ (.tail _ (.tail _ (.tail _ (.head _))))))
 refine st1 fun bs t o => ?_
 dsimp only [n67] at h
 obtain ⟨x4, h5, h⟩ := bnd h
 refine go ?_;intros
 refine aC7 (c := yV7) (a0) H_fi9 h5 fun ch => ?_
 refine go ?_;intros
 refine aY7 rfl (fun c => ?_) (fun c => ?_)
 ·replace h := itt h c
  rw [c]
  refine go ?_;intros
  cases h
  exact aU7
 replace h := itf h c
 rw [c]
 obtain ⟨x6, h7, h⟩ := bnd h
 refine go ?_;intros
 refine aC7 (c := s97) (a3) H_fp9 h7 fun ch => ?_
 refine go ?_;intros
 refine aO7 rfl (fun c => ?_) (fun c => ?_)
 ·replace h := itt h c
  try rw [c]
  refine go ?_;intros
  cases h
  exact aU7
 replace h := itf h c
 try rw [c]
 obtain ⟨q8, h53, h⟩ := bnd h
 refine go ?_;intros
 refine fX7 (fun t o => ∃ b16 b17 c18 b19 c20 b21 b22 c23 b25 c26 b28 c29 b30, Pin t (ovr [(1, .v (.string a1)), (2, .v (.string a2)), (3, .v (.string a3)), (4, .ptr 32 b16 210 0 0), (8, .ptr 64 b21 210 0 0), (11, .ref 136 b22 c23 0 0 178), (12, .ptr 96 b30 210 0 0)] t) ∧ ms7 o (ovh [(32, ⟨b16, 1, 210, true, [[.sl false 3 (List.map (af7 false) a0.commits), .sl false 2 (List.map aw7 a0.heads)]]⟩), (1001024, ent b17 c18 115 (List.map (af7 true) [])), (1001025, ent b19 c20 130 (List.map aw7 [])), (64, ⟨b21, 1, 210, true, [[.al 1001024 b17 c18 0 ([] : List Commit).length 115, .al 1001025 b19 c20 0 ([] : List bg7).length 130]]⟩), (136, ent b22 c23 178 (List.map aM7 [])), (1001536, ent b25 c26 115 (List.map (af7 true) q8.1)), (1001537, ent b28 c29 130 (List.map aw7 q8.2)), (96, ⟨b30, 1, 210, true, [[.al 1001536 b25 c26 0 q8.1.length 115, .al 1001537 b28 c29 0 q8.2.length 130]]⟩)] o)) ?_ ?_
 ·obtain ⟨x9, h10, h53⟩ := bnd h53
  refine go ?_;intros
  refine aC7 (c := Be7) (a0) H_gs9 h10 fun ch => ?_
  refine go ?_;intros
  cases h53
  exact f37 ⟨_, _, _, _, _, _, _, _, _, _, _, _, _, pin, aH7⟩
 rintro t o ⟨b16, b17, c18, b19, c20, b21, b22, c23, b25, c26, b28, c29, b30, pq1, pq2⟩
 refine cS7 pq1 pq2 ?_
 obtain ⟨x31, h32, h⟩ := bnd h
 refine go ?_;intros
 refine aC7 (c := wn7) (a0, a1) H_gu9 h32 fun ch => ?_
 obtain ⟨x33, h34, h⟩ := bnd h
 refine go ?_;intros
 refine aC7 (c := wn7) (a0, a2) H_gu9 h34 fun ch => ?_
 refine go ?_;intros
 refine aY7 rfl (fun c => ?_) (fun c => ?_)
 ·replace h := itt h c
  rw [c]
  refine go ?_;intros
  cases h
  exact aU7
 replace h := itf h c
 rw [c]
 refine go ?_;intros
 refine aO7 rfl (fun c => ?_) (fun c => ?_)
 ·replace h := itt h c
  try rw [c]
  refine go ?_;intros
  cases h
  exact aU7
 replace h := itf h c
 try rw [c]
 obtain ⟨x35, h36, h⟩ := bnd h
 refine go ?_;intros
 refine AA7 rfl rfl h36 rfl ?_
 obtain ⟨x37, h38, h⟩ := bnd h
 refine go ?_;intros
 refine AA7 rfl rfl h38 rfl ?_
 obtain ⟨x39, h40, h⟩ := bnd h
 refine go ?_;intros
 refine aC7 (c := yW7) (a0, x37.at_, x35.at_) H_fg9 h40 fun ch => ?_
 refine go ?_;intros
 refine aO7 rfl (fun c => ?_) (fun c => ?_)
 ·replace h := itt h c
  try rw [c]
  refine go ?_;intros
  cases h
  exact aU7
 replace h := itf h c
 try rw [c]
 obtain ⟨x41, h42, h⟩ := bnd h
 refine go ?_;intros
 refine aC7 (c := yW7) (a0, x35.at_, x37.at_) H_fg9 h42 fun ch => ?_
 refine go ?_;intros
 refine aO7 rfl (fun c => ?_) (fun c => ?_)
 ·replace h := itt h c
  try rw [c]
  obtain ⟨x43, h44, h⟩ := bnd h
  refine go ?_;intros
  refine AB7 (xs := q8.2) rfl rfl h44 rfl ?_
  refine go ?_;intros
  refine bu7 (f := aw7) q8.2 (⟨x43.name, x37.at_⟩ : bg7) (aq7 h44).2 ?_
  refine go ?_;intros
  cases h
  exact aU7
 replace h := itf h c
 try rw [c]
 obtain ⟨x45, h46, h⟩ := bnd h
 refine go ?_;intros
 refine bC7 (c := Bf7) ((⟨q8.1, q8.2⟩ : az7), x31, x35.at_, x37.at_, a3) H_hb9 h46 fun ch => ?_
 refine go ?_;intros
 cases h
 exact aU7
theorem TC7 : OkC [Br7, yX7, Gz7, Bn7, yZ7, GA7, GB7] y17 OO7 OP7 := by
 refine ok fun G H ⟨a0, a1, a2, a3⟩ r h => ?_
 refine st1 fun bs t o => ?_
 dsimp only [lK7] at h
 refine gx fun x4 h5 x6 h7 => ?_; intros; rename_i h
 obtain ⟨q8, hq, h⟩ := bnd h
 refine a87 [1, 2, 3, 4, 8, 11] [32, 1001024, 1001025, 64, 160] (fun K J t o => ∃ b17 c18 b20 c21 b22, PP ((12, .ptr 96 b22 210 0 0) :: K) ((1001536, ent b17 c18 115 (List.map (af7 true) q8.1)) :: (1001537, ent b20 c21 130 (List.map aw7 q8.2)) :: (96, ⟨b22, 1, 210, true, [[.al 1001536 b17 c18 0 q8.1.length 115, .al 1001537 b20 c21 0 q8.2.length 130]]⟩) :: J) t o) ?_ ?_
 ·have h := hq
  exact cls
 rintro t o ⟨b17, c18, b20, c21, b22, pq⟩
 refine pn pq ?_
 refine gx fun x23 h24 x25 h26 x27 h28 x29 h30 x31 h32 x35 h36 x37 h38 x41 h42 x43 h44 => ?_; intros; rename_i h
 refine bu7 (f := aw7) q8.2 (⟨x43.name, x29.at_⟩ : bg7) (aq7 h44).2 ?_
 exact cls
theorem TD7 : OkC [GM7, GN7] td7 OQ7 OR7 := by
 refine ok fun G H ⟨a0, a1⟩ r h => ?_
 refine st1 fun bs t o => ?_
 dsimp only [jT7] at h
 exact cls
theorem TE7 : OkC [GO7] ws7 OS7 OT7 := by
 refine ok fun G H ⟨a0, a1⟩ r h => ?_
 refine st1 fun bs t o => ?_
 dsimp only [n77] at h
 try (refine gx ?_; intros; rename_i h)
 obtain ⟨hf, h⟩ := gd h
 obtain ⟨q20, hq, h⟩ := bnd h
 refine ac7 [] [] (fun K J t o => ∃ q20_, q20 = .inr q20_ ∧ PP K J t o) ?_ ?_
 ·have ho1 := h
  refine ay7 (xs := a0) [0, 1] [] 0 hf (fun K J l24 k22 t o => gV7 a1 l24 k22  = some q20 ∧ PP ((5, .v (.int .i64 (k22 : Int))) :: K) J t o) ?_ ?_ ?_
  ·exact ⟨hq, pin, aH7⟩
  ·rintro k22 t o hlt ⟨h, pq⟩
   refine pn pq ?_
   rw [gV7] at h
   exact cls
  rintro x23 l24 k22 t o hlt hx28 hw hd ⟨h, pq⟩
  refine pn pq ?_
  rw [gV7] at h
  exact cls
 rintro t o ⟨q20, rfl, pq⟩
 refine pnq pq ?_
 exact cls
theorem TF7 : OkC [BB7, BC7] y27 OU7 OV7 := by
 refine ok fun G H ⟨a0, a1⟩ r h => ?_
 have H_cx9 := H _ (.head _)
 have H_cz9 := H _ (.tail _ (.head _))
 replace H := jJ7 0 H
 refine st1 fun bs t o => ?_
 dsimp only [hg7] at h
 try (refine gx ?_; intros; rename_i h)
 obtain ⟨x2, h3, h⟩ := bnd h
 have L3 := Os7 h3; (try dsimp only at L3); (first | replace L3 := And.intro L3.1.symm L3.2.symm | replace L3 := L3.symm); (try obtain ⟨L3, M3⟩ := L3); refine bC7 (c := BB7) (a0.commits, a1) H_cx9 h3 fun ch => ?_
 try (refine gx ?_; intros; rename_i h)
 obtain ⟨x4, h5, h⟩ := bnd h
 have L5 := Ov7 h5; (try dsimp only at L5); (first | replace L5 := And.intro L5.1.symm L5.2.symm | replace L5 := L5.symm); (try obtain ⟨L5, M5⟩ := L5); refine bC7 (c := BC7) (a0.heads, x2.1) H_cz9 h5 fun ch => ?_
 exact cls
theorem TG7 : OkC [j67] BF7 OX7 OY7 := by
 refine ok fun G H ⟨a0, a1⟩ r h => ?_
 refine st1 fun bs t o => ?_
 dsimp only [lL7] at h
 try (refine gx ?_; intros; rename_i h)
 obtain ⟨q28, hq, h⟩ := bnd h
 refine ac7 [] [] (fun K J t o => PP ((1, .v (.int .i64 q28.1)) :: K) ((0, ent (bs 0).1 (bs 0).2 178 (List.map aM7 q28.2)) :: J) t o) ?_ ?_
 ·refine ce7 [] [] (fun K J n32 t o => ∃ v29 v30 v31, dv7 n32 v29 v30 v31 = some q28 ∧ PP ((0, .ref 0 (bs 0).1 (bs 0).2 0 v31.length 178) :: (1, .v (.int .i64 v29)) :: (5, .v (.int .i64 v30)) :: K) ((0, ent (bs 0).1 (bs 0).2 178 (List.map aM7 v31)) :: J) t o) ?_ ?_
  ·exact ⟨_, _, _, hq, pin, aH7⟩
  rintro n32 t o ⟨v29, v30, v31, h, pq⟩
  refine pn pq ?_
  cases n32 with
  | zero => rw [dv7] at h; cases h
  | succ n32 =>
   rw [dv7] at h
   refine gx fun x33 h34 x35 h36 => ?_; intros; rename_i h
   refine bu7 (f := aM7) v31 (⟨x33, x35.what⟩ : ap7) (aq7 h36).2 ?_
   refine gx fun x37 h38 x39 h40 => ?_; intros; rename_i h
   refine bu7 (f := aM7) (List.set v31 v30.toNat (⟨x33, x35.what⟩ : ap7)) (⟨x39.id, x37⟩ : ap7) (aq7 h40).2 ?_
   exact cls
 rintro t o pq
 refine pnq pq ?_
 exact cls
theorem TH7 : OkC [GT7, GU7] y37 OZ7 O07 := by
 refine ok fun G H ⟨a0, a1⟩ r h => ?_
 refine st1 fun bs t o => ?_
 dsimp only [n87] at h
 exact cls
theorem TI7 : OkC [j67] y47 O17 O27 := by
 refine ok fun G H ⟨a0, a1⟩ r h => ?_
 refine st1 fun bs t o => ?_
 dsimp only [n97] at h
 try (refine gx ?_; intros; rename_i h)
 obtain ⟨hf, h⟩ := gd h
 obtain ⟨q21, hq, h⟩ := bnd h
 refine ac7 [] [] (fun K J t o => ∃ q21_, q21 = .inr q21_ ∧ PP ((1, .v (.int .i64 q21_)) :: K) J t o) ?_ ?_
 ·have ho1 := h
  refine ay7 (xs := a0) [0] [] 0 hf (fun K J l26 k24 t o => ∃ v22, fD7 l26 k24 v22 = some q21 ∧ PP ((1, .v (.int .i64 v22)) :: (5, .v (.int .i64 (k24 : Int))) :: K) J t o) ?_ ?_ ?_
  ·exact ⟨_, hq, pin, aH7⟩
  ·rintro k24 t o hlt ⟨v22, h, pq⟩
   refine pn pq ?_
   rw [fD7] at h
   exact cls
  rintro x25 l26 k24 t o hlt hx30 hw hd ⟨v22, h, pq⟩
  refine pn pq ?_
  rw [fD7] at h
  exact cls
 rintro t o ⟨q21, rfl, pq⟩
 refine pnq pq ?_
 exact cls
theorem TJ7 : OkC [BD7, tc7, BE7, y17, td7, ws7, y27, BF7, y37, y47] O57 O37 O47 := by
 refine ok fun G H ⟨a0, a1, a2, a3⟩ r h => ?_
 have H_dn9 := H _ (.head _)
 have H_ea9 := H _ (.tail _ (.head _))
 have H_fe9 := H _ (.tail _ (.tail _ (.head _)))
 have H_ah9 := H _ (.tail _ (.tail _ (.tail _ (.head _))))
 have H_ck9 := H _ (.tail _ (.tail _ (.tail _ (.tail _ (.head _)))))
 have H_ca9 := H _ (.tail _ (.tail _ (.tail _ (.tail _ (.tail _ (.head _))))))
 have H_dc9 := H _ (.tail _ (.tail _ (.tail _ (.tail _ (.tail _ (.tail _ (.head _)))))))
 have H_cw9 := H _ (.tail _ (.tail _ (.tail _ (.tail _ (.tail _ (.tail _ (.tail _ (.head _))))))))
 have H_cu9 := H _ (.tail _ (.tail _ (.tail _ (.tail _ (.tail _ (.tail _ (.tail _ (.tail _ (.head _)))))))))
 have H_co9 := H _ (.tail _ (.tail _ (.tail _ (.tail _ (.tail _ (.tail _ (.tail _ (.tail _ (.tail _ (.head _))))))))))
 refine st1 fun bs t o => ?_
 dsimp only [u87] at h
 refine go ?_;intros
 refine aO7 rfl (fun c => ?_) (fun c => ?_)
 ·replace h := itt h c
  try rw [c]
  refine go ?_;intros
  cases h
  exact aU7
 replace h := itf h c
 try rw [c]
 refine go ?_;intros
 refine aO7 rfl (fun c => ?_) (fun c => ?_)
 ·replace h := itt h c
  try rw [c]
  refine go ?_;intros
  cases h
  exact aU7
 replace h := itf h c
 try rw [c]
 refine go ?_;intros
 refine aO7 rfl (fun c => ?_) (fun c => ?_)
 ·replace h := itt h c
  try rw [c]
  refine go ?_;intros
  cases h
  exact aU7
 replace h := itf h c
 try rw [c]
 obtain ⟨x2, h3, h⟩ := bnd h
 refine go ?_;intros
 refine aC7 (c := BD7) (a0, 1048576) H_dn9 h3 fun ch => ?_
 refine go ?_;intros
 refine aO7 rfl (fun c => ?_) (fun c => ?_)
 ·replace h := itt h c
  try rw [c]
  refine go ?_;intros
  cases h
  exact aU7
 replace h := itf h c
 try rw [c]
 obtain ⟨q4, h166, h⟩ := bnd h
 refine go ?_;intros
 refine fX7 (fun t o => ∃ b21 b23 c24 b26 c27 b28 b30 c31, Pin t (ovr [(1, .v (.string a1)), (2, .v (.string a2)), (3, .v (.string a3)), (4, .ptr 32 b21 466 0 0), (10, .ptr 80 b28 210 0 0), (11, .ref 346 b30 c31 0 q4.2.2.2.length 178), (12, .v (.int .i64 q4.1))] t) ∧ ms7 o (ovh [(32, ⟨b21, 1, 466, true, [[.sl false 3 (List.map (af7 false) a0.commits), .sl false 2 (List.map aw7 a0.heads)]]⟩), (1001280, ent b23 c24 115 (List.map (af7 true) q4.2.1)), (1001281, ent b26 c27 130 (List.map aw7 q4.2.2.1)), (80, ⟨b28, 1, 210, true, [[.al 1001280 b23 c24 0 q4.2.1.length 115, .al 1001281 b26 c27 0 q4.2.2.1.length 130]]⟩), (346, ent b30 c31 178 (List.map aM7 q4.2.2.2))] o)) ?_ ?_
 ·obtain ⟨x5, h6, h166⟩ := bnd h166
  refine go ?_;intros
  refine aC7 (c := tc7) (a0) H_ea9 h6 fun ch => ?_
  obtain ⟨x11, h12, h166⟩ := bnd h166
  refine go ?_;intros
  refine aC7 (c := BE7) (x5, a1, a2, a3) H_fe9 h12 fun ch => ?_
  refine go ?_;intros
  cases h166
  exact f37 ⟨_, _, _, _, _, _, _, _, pin, aH7⟩
 rintro t o ⟨b21, b23, c24, b26, c27, b28, b30, c31, pq1, pq2⟩
 refine cS7 pq1 pq2 ?_
 obtain ⟨x32, h33, h⟩ := bnd h
 refine go ?_;intros
 refine aC7 (c := tc7) (a0) H_ea9 h33 fun ch => ?_
 obtain ⟨q39, h167, h⟩ := bnd h
 refine go ?_;intros
 refine fX7 (fun t o => ∃ b50 b51 c52 b53 c54 b55 b56 c57 b58 c59 b60 c61 b62 b64 c65 b67 c68 b69 b71 c72, Pin t (ovr [(1, .v (.string a1)), (2, .v (.string a2)), (3, .v (.string a3)), (4, .ptr 32 b50 466 0 0), (10, .ptr 80 b55 210 0 0), (11, .ref 346 b56 c57 0 q4.2.2.2.length 178), (12, .v (.int .i64 q4.1)), (13, .ptr 104 b62 210 0 0), (14, .ptr 112 b69 210 0 0), (15, .ref 434 b71 c72 0 q39.2.2.2.length 178), (16, .v (.int .i64 q39.1))] t) ∧ ms7 o (ovh [(32, ⟨b50, 1, 466, true, [[.sl false 3 (List.map (af7 false) a0.commits), .sl false 2 (List.map aw7 a0.heads)]]⟩), (1001280, ent b51 c52 115 (List.map (af7 true) q4.2.1)), (1001281, ent b53 c54 130 (List.map aw7 q4.2.2.1)), (80, ⟨b55, 1, 210, true, [[.al 1001280 b51 c52 0 q4.2.1.length 115, .al 1001281 b53 c54 0 q4.2.2.1.length 130]]⟩), (346, ent b56 c57 178 (List.map aM7 q4.2.2.2)), (1001664, ent b58 c59 115 (List.map (af7 true) x32.commits)), (1001665, ent b60 c61 130 (List.map aw7 x32.heads)), (104, ⟨b62, 1, 210, true, [[.al 1001664 b58 c59 0 x32.commits.length 115, .al 1001665 b60 c61 0 x32.heads.length 130]]⟩), (1001792, ent b64 c65 115 (List.map (af7 true) q39.2.1)), (1001793, ent b67 c68 130 (List.map aw7 q39.2.2.1)), (112, ⟨b69, 1, 210, true, [[.al 1001792 b64 c65 0 q39.2.1.length 115, .al 1001793 b67 c68 0 q39.2.2.1.length 130]]⟩), (434, ent b71 c72 178 (List.map aM7 q39.2.2.2))] o)) ?_ ?_
 ·obtain ⟨x40, h41, h167⟩ := bnd h167
  refine go ?_;intros
  refine aC7 (c := y17) (x32, a1, a2, a3) H_ah9 h41 fun ch => ?_
  refine go ?_;intros
  cases h167
  exact f37 ⟨_, _, _, _, _, _, _, _, _, _, _, _, _, _, _, _, _, _, _, _, pin, aH7⟩
 rintro t o ⟨b50, b51, c52, b53, c54, b55, b56, c57, b58, c59, b60, c61, b62, b64, c65, b67, c68, b69, b71, c72, pq1, pq2⟩
 refine cS7 pq1 pq2 ?_
 obtain ⟨x73, h74, h⟩ := bnd h
 refine go ?_;intros
 refine aC7 (c := td7) ((⟨q39.2.1, q39.2.2.1⟩ : az7), (⟨q4.2.1, q4.2.2.1⟩ : az7)) H_ck9 h74 fun ch => ?_
 refine go ?_;intros
 refine aY7 rfl (fun c => ?_) (fun c => ?_)
 ·replace h := itt h c
  rw [c]
  refine go ?_;intros
  cases h
  exact aU7
 replace h := itf h c
 rw [c]
 obtain ⟨x75, h76, h⟩ := bnd h
 refine go ?_;intros
 refine aC7 (c := ws7) (q39.2.2.2, q4.2.2.2) H_ca9 h76 fun ch => ?_
 refine go ?_;intros
 refine aY7 rfl (fun c => ?_) (fun c => ?_)
 ·replace h := itt h c
  rw [c]
  refine go ?_;intros
  cases h
  exact aU7
 replace h := itf h c
 rw [c]
 refine go ?_;intros
 refine aO7 rfl (fun c => ?_) (fun c => ?_)
 ·replace h := itt h c
  try rw [c]
  refine go ?_;intros
  cases h
  exact aU7
 replace h := itf h c
 try rw [c]
 obtain ⟨x77, h78, h⟩ := bnd h
 refine go ?_;intros
 refine aC7 (c := tc7) (a0) H_ea9 h78 fun ch => ?_
 obtain ⟨x83, h84, h⟩ := bnd h
 refine go ?_;intros
 refine aC7 (c := td7) (x32, x77) H_ck9 h84 fun ch => ?_
 refine go ?_;intros
 refine aO7 rfl (fun c => ?_) (fun c => ?_)
 ·replace h := itt h c
  try rw [c]
  refine go ?_;intros
  cases h
  exact aU7
 replace h := itf h c
 try rw [c]
 obtain ⟨x85, h86, h⟩ := bnd h
 refine go ?_;intros
 have L86 := OW7 h86; (try dsimp only at L86); refine bC7 (c := y27) (x32, 1) H_dc9 h86 fun ch => ?_
 refine go ?_;intros
 refine aY7 rfl (fun c => ?_) (fun c => ?_)
 ·replace h := itt h c
  rw [c]
  refine go ?_;intros
  cases h
  exact aU7
 replace h := itf h c
 rw [c]
 obtain ⟨x87, h88, h⟩ := bnd h
 refine go ?_;intros
 refine aC7 (c := td7) ((⟨q39.2.1, q39.2.2.1⟩ : az7), (⟨q4.2.1, q4.2.2.1⟩ : az7)) H_ck9 h88 fun ch => ?_
 refine go ?_;intros
 refine aY7 rfl (fun c => ?_) (fun c => ?_)
 ·replace h := itt h c
  rw [c]
  refine go ?_;intros
  cases h
  exact aU7
 replace h := itf h c
 rw [c]
 obtain ⟨x89, h90, h⟩ := bnd h
 refine go ?_;intros
 refine aC7 (c := ws7) (q39.2.2.2, q4.2.2.2) H_ca9 h90 fun ch => ?_
 refine go ?_;intros
 refine aY7 rfl (fun c => ?_) (fun c => ?_)
 ·replace h := itt h c
  rw [c]
  refine go ?_;intros
  cases h
  exact aU7
 replace h := itf h c
 rw [c]
 refine go ?_;intros
 refine aO7 rfl (fun c => ?_) (fun c => ?_)
 ·replace h := itt h c
  try rw [c]
  refine go ?_;intros
  cases h
  exact aU7
 replace h := itf h c
 try rw [c]
 obtain ⟨x91, h92, h⟩ := bnd h
 refine go ?_;intros
 have L92 := OW7 h92; (try dsimp only at L92); refine bC7 (c := y27) ((⟨q39.2.1, q39.2.2.1⟩ : az7), 1) H_dc9 h92 fun ch => ?_
 obtain ⟨q93, h168, h⟩ := bnd h
 refine go ?_;intros
 refine fX7 (fun t o => ∃ b97 b98 c99 b100 c101 b102 b103 c104 b105 c106 b107 c108 b109 b111 c112, Pin t (ovr [(1, .v (.string a1)), (2, .v (.string a2)), (3, .v (.string a3)), (4, .ptr 32 b97 466 0 0), (10, .ptr 80 b102 210 0 0), (11, .ref 346 b103 c104 0 q4.2.2.2.length 178), (12, .v (.int .i64 q4.1)), (14, .ptr 112 b109 210 0 0), (15, .ref 434 b111 c112 0 q93.2.length 178), (18, .v (.int .i64 q93.1))] t) ∧ ms7 o (ovh [(32, ⟨b97, 1, 466, true, [[.sl false 3 (List.map (af7 false) a0.commits), .sl false 2 (List.map aw7 a0.heads)]]⟩), (1001280, ent b98 c99 115 (List.map (af7 true) q4.2.1)), (1001281, ent b100 c101 130 (List.map aw7 q4.2.2.1)), (80, ⟨b102, 1, 210, true, [[.al 1001280 b98 c99 0 q4.2.1.length 115, .al 1001281 b100 c101 0 q4.2.2.1.length 130]]⟩), (346, ent b103 c104 178 (List.map aM7 q4.2.2.2)), (1001792, ent b105 c106 115 (List.map (af7 true) x91.2.commits)), (1001793, ent b107 c108 130 (List.map aw7 x91.2.heads)), (112, ⟨b109, 1, 210, true, [[.al 1001792 b105 c106 0 x91.2.commits.length 115, .al 1001793 b107 c108 0 x91.2.heads.length 130]]⟩), (434, ent b111 c112 178 (List.map aM7 q93.2))] o)) ?_ ?_
 ·obtain ⟨x94, h95, h168⟩ := bnd h168
  refine go ?_;intros
  have L95 := QZ7 h95; (try dsimp only at L95); refine bC7 (c := BF7) (q39.2.2.2, x91.1) H_cw9 h95 fun ch => ?_
  refine go ?_;intros
  cases h168
  exact f37 ⟨_, _, _, _, _, _, _, _, _, _, _, _, _, _, _, pin, aH7⟩
 rintro t o ⟨b97, b98, c99, b100, c101, b102, b103, c104, b105, c106, b107, c108, b109, b111, c112, pq1, pq2⟩
 refine cS7 pq1 pq2 ?_
 obtain ⟨x113, h114, h⟩ := bnd h
 refine go ?_;intros
 refine aC7 (c := y37) (x91.2, 1) H_cu9 h114 fun ch => ?_
 refine go ?_;intros
 refine aO7 rfl (fun c => ?_) (fun c => ?_)
 ·replace h := itt h c
  try rw [c]
  refine go ?_;intros
  cases h
  exact aU7
 replace h := itf h c
 try rw [c]
 obtain ⟨x115, h116, h⟩ := bnd h
 refine go ?_;intros
 refine aC7 (c := y47) (q93.2, x113) H_co9 h116 fun ch => ?_
 refine go ?_;intros
 refine aO7 rfl (fun c => ?_) (fun c => ?_)
 ·replace h := itt h c
  try rw [c]
  refine go ?_;intros
  cases h
  exact aU7
 replace h := itf h c
 try rw [c]
 refine go ?_;intros
 refine aO7 rfl (fun c => ?_) (fun c => ?_)
 ·replace h := itt h c
  try rw [c]
  refine go ?_;intros
  cases h
  exact aU7
 replace h := itf h c
 try rw [c]
 obtain ⟨q117, h169, h⟩ := bnd h
 refine go ?_;intros
 refine fX7 (fun t o => ∃ b134 c135 b136 c137 b138 b139 c140 b141 c142 b143 c144 b145 b146 c147 b149 c150 b152 c153 b154 b156 c157, Pin t (ovr [(10, .ptr 80 b138 210 0 0), (11, .ref 346 b139 c140 0 q4.2.2.2.length 178), (12, .v (.int .i64 q4.1)), (14, .ptr 112 b145 210 0 0), (15, .ref 434 b146 c147 0 q93.2.length 178), (18, .v (.int .i64 q93.1)), (20, .ptr 160 b154 210 0 0), (21, .ref 1002 b156 c157 0 q117.2.2.2.length 178), (22, .v (.int .i64 q117.1))] t) ∧ ms7 o (ovh [(1001280, ent b134 c135 115 (List.map (af7 true) q4.2.1)), (1001281, ent b136 c137 130 (List.map aw7 q4.2.2.1)), (80, ⟨b138, 1, 210, true, [[.al 1001280 b134 c135 0 q4.2.1.length 115, .al 1001281 b136 c137 0 q4.2.2.1.length 130]]⟩), (346, ent b139 c140 178 (List.map aM7 q4.2.2.2)), (1001792, ent b141 c142 115 (List.map (af7 true) x91.2.commits)), (1001793, ent b143 c144 130 (List.map aw7 x91.2.heads)), (112, ⟨b145, 1, 210, true, [[.al 1001792 b141 c142 0 x91.2.commits.length 115, .al 1001793 b143 c144 0 x91.2.heads.length 130]]⟩), (434, ent b146 c147 178 (List.map aM7 q93.2)), (1002560, ent b149 c150 115 (List.map (af7 true) q117.2.1)), (1002561, ent b152 c153 130 (List.map aw7 q117.2.2.1)), (160, ⟨b154, 1, 210, true, [[.al 1002560 b149 c150 0 q117.2.1.length 115, .al 1002561 b152 c153 0 q117.2.2.1.length 130]]⟩), (1002, ent b156 c157 178 (List.map aM7 q117.2.2.2))] o)) ?_ ?_
 ·obtain ⟨x118, h119, h169⟩ := bnd h169
  refine go ?_;intros
  refine aC7 (c := tc7) (a0) H_ea9 h119 fun ch => ?_
  obtain ⟨x124, h125, h169⟩ := bnd h169
  refine go ?_;intros
  refine aC7 (c := y17) (x118, a1, a2, a3) H_ah9 h125 fun ch => ?_
  refine go ?_;intros
  cases h169
  exact f37 ⟨_, _, _, _, _, _, _, _, _, _, _, _, _, _, _, _, _, _, _, _, _, pin, aH7⟩
 rintro t o ⟨b134, c135, b136, c137, b138, b139, c140, b141, c142, b143, c144, b145, b146, c147, b149, c150, b152, c153, b154, b156, c157, pq1, pq2⟩
 refine cS7 pq1 pq2 ?_
 obtain ⟨x158, h159, h⟩ := bnd h
 refine go ?_;intros
 refine aC7 (c := td7) ((⟨q117.2.1, q117.2.2.1⟩ : az7), (⟨q4.2.1, q4.2.2.1⟩ : az7)) H_ck9 h159 fun ch => ?_
 refine go ?_;intros
 refine aY7 rfl (fun c => ?_) (fun c => ?_)
 ·replace h := itt h c
  rw [c]
  refine go ?_;intros
  cases h
  exact aU7
 replace h := itf h c
 rw [c]
 obtain ⟨x160, h161, h⟩ := bnd h
 refine go ?_;intros
 refine aC7 (c := ws7) (q117.2.2.2, q4.2.2.2) H_ca9 h161 fun ch => ?_
 refine go ?_;intros
 refine aY7 rfl (fun c => ?_) (fun c => ?_)
 ·replace h := itt h c
  rw [c]
  refine go ?_;intros
  cases h
  exact aU7
 replace h := itf h c
 rw [c]
 refine go ?_;intros
 refine aO7 rfl (fun c => ?_) (fun c => ?_)
 ·replace h := itt h c
  try rw [c]
  refine go ?_;intros
  cases h
  exact aU7
 replace h := itf h c
 try rw [c]
 obtain ⟨x162, h163, h⟩ := bnd h
 refine go ?_;intros
 refine aC7 (c := y37) (x91.2, 1) H_cu9 h163 fun ch => ?_
 refine go ?_;intros
 refine aO7 rfl (fun c => ?_) (fun c => ?_)
 ·replace h := itt h c
  try rw [c]
  refine go ?_;intros
  cases h
  exact aU7
 replace h := itf h c
 try rw [c]
 obtain ⟨x164, h165, h⟩ := bnd h
 refine go ?_;intros
 refine aC7 (c := y47) (q93.2, x162) H_co9 h165 fun ch => ?_
 refine go ?_;intros
 refine aO7 rfl (fun c => ?_) (fun c => ?_)
 ·replace h := itt h c
  try rw [c]
  refine go ?_;intros
  cases h
  exact aU7
 replace h := itf h c
 try rw [c]
 refine go ?_;intros
 refine aO7 rfl (fun c => ?_) (fun c => ?_)
 ·replace h := itt h c
  try rw [c]
  refine go ?_;intros
  cases h
  exact aU7
 replace h := itf h c
 try rw [c]
 refine go ?_;intros
 cases h
 exact aU7
end Go.Proofs.AM
