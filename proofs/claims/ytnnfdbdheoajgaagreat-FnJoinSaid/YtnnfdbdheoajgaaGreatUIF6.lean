/- Lemmas of the proof (UIF6), on an abstract machine. Conditions: none. -/
import Derived.Test.YtnnfdbdheoajgaaGreatUID
set_option linter.unusedVariables false
set_option linter.unusedSimpArgs false
set_option maxRecDepth 100000
set_option maxHeartbeats 4000000
namespace Go.Proofs.AM
attribute [local irreducible] vwp cY7 bI7 f97 vdo jn7 mS7 j07 fi7 mG7 kM7 bL7 e87 kt7 dY7 jO7 k37 k27
theorem Pu7 : OkC [EZ7] E17 KF7 KG7 := by
 refine ok fun G H ⟨a0, a1⟩ r h => ?_
 refine st1 fun bs t o => ?_
 dsimp only [lW7] at h
 exact cls
theorem Pv7 : OkC [] vO7 KH7 KI7 := by
 refine ok fun G H ⟨a0, a1⟩ r h => ?_
 refine st1 fun bs t o => ?_
 dsimp only [n37] at h
 exact cls
theorem Pw7 : OkC [ES7, yi7] AB7 KJ7 KK7 := by
 refine ok fun G H a0 r h => ?_
 have H_dd9 := H _ (.tail _ (.head _))
 replace H := mV7 1 H
 refine st1 fun bs t o => ?_
 dsimp only [rl7] at h
 try (refine gx ?_; intros; rename_i h)
 obtain ⟨hf, h⟩ := gd h
 obtain ⟨q153, hq, h⟩ := bnd h
 refine ae7 [] [] (fun K J t o => ∃ b215 c216, PP ((3, .ref 64 b215 c216 0 q153.length 49) :: K) ((64, ent b215 c216 49 (List.map cK7 q153)) :: J) t o) ?_ ?_
 ·refine aQ7 (xs := a0) [9, 10] [] 0 hf (fun K J l160 k158 t o => ∃ v155 b156 c157, g17 l160 k158 v155 = some q153 ∧ PP ((3, .ref 64 b156 c157 0 v155.length 49) :: (11, .v (.int .i64 (k158 : Int))) :: K) ((64, ent b156 c157 49 (List.map cK7 v155)) :: J) t o) ?_ ?_ ?_
  ·exact ⟨_, _, _, hq, pin, aJ7⟩
  ·rintro k158 t o hlt ⟨v155, b156, c157, h, pq⟩
   refine pn pq ?_
   rw [g17] at h
   exact cls
  rintro x159 l160 k158 t o hlt hx164 hw hd ⟨v155, b156, c157, h, pq⟩
  refine pn pq ?_
  rw [g17] at h
  try (refine gx ?_; intros; rename_i h)
  obtain ⟨hf, h⟩ := gd h
  obtain ⟨q192, hq, h⟩ := bnd h
  refine ae7 [9, 10, 11] [] (fun K J t o => ∃ b212 c213, PP ((3, .ref 64 b212 c213 0 q192.length 49) :: K) ((64, ent b212 c213 49 (List.map cK7 q192)) :: J) t o) ?_ ?_
  ·refine aQ7 (xs := x159) [9, 10, 11, 15, 16] [] 0 hf (fun K J l199 k197 t o => ∃ v194 b195 c196, ew7 l199 k197 v194 = some q192 ∧ PP ((3, .ref 64 b195 c196 0 v194.length 49) :: (17, .v (.int .i64 (k197 : Int))) :: K) ((64, ent b195 c196 49 (List.map cK7 v194)) :: J) t o) ?_ ?_ ?_
   ·exact ⟨_, _, _, hq, pin, aJ7⟩
   ·rintro k197 t o hlt ⟨v194, b195, c196, h, pq⟩
    refine pn pq ?_
    rw [ew7] at h
    exact cls
   rintro x198 l199 k197 t o hlt hx203 hw hd ⟨v194, b195, c196, h, pq⟩
   refine pn pq ?_
   rw [ew7] at h
   exact cls
  rintro t o ⟨b212, c213, pq⟩
  refine pnq pq ?_
  exact cls
 rintro t o ⟨b215, c216, pq⟩
 refine pnq pq ?_
 try (refine gx ?_; intros; rename_i h)
 obtain ⟨x217, h218, h⟩ := bnd h
 have L218 := Kg7 h218; (try dsimp only at L218); refine ao7 (c := yi7) (q153) H_dd9 h218 fun ch => ?_; rw [← L218]
 exact cls
theorem Px7 : OkC [EV7] E27 KL7 KM7 := by
 refine ok fun G H ⟨a0, a1⟩ r h => ?_
 refine st1 fun bs t o => ?_
 dsimp only [lX7] at h
 exact cls
theorem Py7 : OkC [yd7] vP7 KN7 KO7 := by
 refine ok fun G H ⟨a0, a1⟩ r h => ?_
 refine st1 fun bs t o => ?_
 dsimp only [lY7] at h
 exact cls
theorem Pz7 : OkC [sX7] E37 KP7 KQ7 := by
 refine ok fun G H ⟨a0, a1, a2⟩ r h => ?_
 have H_ba9 := H _ (.head _)
 replace H := mV7 0 H
 refine st1 fun bs t o => ?_
 dsimp only [rm7] at h
 try (refine gx ?_; intros; rename_i h)
 obtain ⟨x5, h6, h⟩ := bnd h
 refine bF7 (c := sX7) (a1, a0) H_ba9 h6 fun ch => ?_
 try (refine gx ?_; intros; rename_i h)
 obtain ⟨x7, h8, h⟩ := bnd h
 refine bF7 (c := sX7) (a2, a0) H_ba9 h8 fun ch => ?_
 try (refine gx ?_; intros; rename_i h)
 obtain ⟨x9, h10, h⟩ := bnd h
 refine bF7 (c := sX7) (a1, a2) H_ba9 h10 fun ch => ?_
 exact cls
theorem PA7 : OkC [vO7] E47 KR7 KS7 := by
 refine ok fun G H ⟨a0, a1, a2⟩ r h => ?_
 have H_ac9 := H _ (.head _)
 replace H := mV7 0 H
 refine st1 fun bs t o => ?_
 dsimp only [rn7] at h
 try (refine gx ?_; intros; rename_i h)
 obtain ⟨x5, h6, h⟩ := bnd h
 refine bF7 (c := vO7) (a1, a0) H_ac9 h6 fun ch => ?_
 try (refine gx ?_; intros; rename_i h)
 obtain ⟨x7, h8, h⟩ := bnd h
 refine bF7 (c := vO7) (a2, a0) H_ac9 h8 fun ch => ?_
 try (refine gx ?_; intros; rename_i h)
 obtain ⟨x9, h10, h⟩ := bnd h
 refine bF7 (c := vO7) (a1, a2) H_ac9 h10 fun ch => ?_
 exact cls
theorem PB7 : OkC [Ap7, E37, E07, Ao7, Av7, AA7, ES7, E17, E47, vM7, yi7] E57 KT7 KU7 := by
 refine ok fun G H ⟨a0, a1, a2⟩ r h => ?_
 have H_dd9 := H _ (.tail _ (.tail _ (.tail _ (.tail _ (.tail _ (.tail _ (.tail _ (.tail _ (.tail _ (.tail _ (.head _)))))))))))
 replace H := mV7 10 H
 refine st1 fun bs t o => ?_
 dsimp only [ro7] at h
 try (refine gx ?_; intros; rename_i h)
 obtain ⟨q6, hq, h⟩ := bnd h
 refine a97 [3, 4, 5, 6, 8] [24, 32, 40, 1000770, 1000771, 48, 200] (fun K J t o => PP ((52, .v (.bool q6)) :: K) J t o) ?_ ?_
 ·have h := hq
  exact cls
 rintro t o pq
 refine pn pq ?_
 try (refine gx ?_; intros; rename_i h)
 obtain ⟨q16, hq, h⟩ := bnd h
 refine a97 [3, 4, 5, 6, 8, 9] [24, 32, 40, 1000770, 1000771, 48, 200, 1001154, 1001155, 72] (fun K J t o => ∃ b23, PP ((10, .ptr 80 b23 226 0 0) :: (11, .v (.bool q16.1)) :: K) ((80, ⟨b23, 1, 226, true, [[.v (.int .i64 q16.2.1), .sl false 2 (List.map ePt q16.2.2)]]⟩) :: J) t o) ?_ ?_
 ·have h := hq
  exact cls
 rintro t o ⟨b23, pq⟩
 refine pn pq ?_
 try (refine gx ?_; intros; rename_i h)
 obtain ⟨q47, hq, h⟩ := bnd h
 refine a97 [3, 4, 5, 6, 9] [24, 32, 40, 1000770, 1000771, 48, 1001154, 1001155, 72] (fun K J t o => ∃ b72 c73 b76, PP ((8, .ref 200 b72 c73 0 q47.1.length 49) :: (10, .ptr 80 b76 226 0 0) :: K) ((200, ent b72 c73 49 (List.map cK7 q47.1)) :: (80, ⟨b76, 1, 226, true, [[.v (.int .i64 q47.2.1), .sl false 2 (List.map ePt q47.2.2)]]⟩) :: J) t o) ?_ ?_
 ·have h := hq
  try (refine gx ?_; intros; rename_i h)
  obtain ⟨q55, hq, h⟩ := bnd h
  refine a97 [3, 4, 5, 6, 8, 9] [24, 32, 40, 1000770, 1000771, 48, 200, 1001154, 1001155, 72] (fun K J t o => ∃ b66, PP ((10, .ptr 80 b66 226 0 0) :: (12, .v (.bool q55.1)) :: K) ((80, ⟨b66, 1, 226, true, [[.v (.int .i64 q55.2.1), .sl false 2 (List.map ePt q55.2.2)]]⟩) :: J) t o) ?_ ?_
  ·have h := hq
   exact cls
  rintro t o ⟨b66, pq⟩
  refine pn pq ?_
  exact cls
 rintro t o ⟨b72, c73, b76, pq⟩
 refine pn pq ?_
 refine gx fun x77 h78 x83 h84 => ?_; intros; rename_i h
 obtain ⟨hf, h⟩ := gd h
 obtain ⟨q112, hq, h⟩ := bnd h
 refine ae7 [3, 4, 5, 6, 8, 9] [24, 32, 40, 1000770, 1000771, 48, 200, 1001154, 1001155, 72] (fun K J t o => ∃ b132 c133, PP ((16, .ref 952 b132 c133 0 q112.length 49) :: K) ((952, ent b132 c133 49 (List.map cK7 q112)) :: J) t o) ?_ ?_
 ·refine aQ7 (xs := x83) [3, 4, 5, 6, 8, 9, 127, 128] [24, 32, 40, 1000770, 1000771, 48, 200, 1001154, 1001155, 72, 1016] 0 hf (fun K J l119 k117 t o => ∃ v114 b115 c116, ke7 l119 k117 v114 = some q112 ∧ PP ((16, .ref 952 b115 c116 0 v114.length 49) :: (129, .v (.int .i64 (k117 : Int))) :: K) ((952, ent b115 c116 49 (List.map cK7 v114)) :: J) t o) ?_ ?_ ?_
  ·exact ⟨_, _, _, hq, pin, aJ7⟩
  ·rintro k117 t o hlt ⟨v114, b115, c116, h, pq⟩
   refine pn pq ?_
   rw [ke7] at h
   exact cls
  rintro x118 l119 k117 t o hlt hx123 hw hd ⟨v114, b115, c116, h, pq⟩
  refine pn pq ?_
  rw [ke7] at h
  exact cls
 rintro t o ⟨b132, c133, pq⟩
 refine pnq pq ?_
 try (refine gx ?_; intros; rename_i h)
 obtain ⟨x134, h135, h⟩ := bnd h
 have L135 := Kg7 h135; (try dsimp only at L135); refine ao7 (c := yi7) (q112) H_dd9 h135 fun ch => ?_; rw [← L135]
 refine gx fun x136 h137 => ?_; intros; rename_i h
 obtain ⟨hf, h⟩ := gd h
 obtain ⟨q256, hq, h⟩ := bnd h
 refine ae7 [4, 6] [32, 1000770, 1000771, 48] (fun K J t o => ∃ b309 c310 b79 c80 b312 c313 b314, PP ((8, .ref 200 b309 c310 0 q256.1.length 49) :: (9, .ptr 72 b314 100 0 0) :: K) ((200, ent b309 c310 49 (List.map cK7 q256.1)) :: (1001154, ent b79 c80 66 (List.map ePt x77.pts)) :: (1001155, ent b312 c313 82 (List.map bg7 q256.2)) :: (72, ⟨b314, 1, 100, true, [[.v (.string a1.id), .v (.int .i64 x77.kind), .al 1001154 b79 c80 0 x77.pts.length 66, .al 1001155 b312 c313 0 q256.2.length 82]]⟩) :: J) t o) ?_ ?_
 ·refine aQ7 (xs := x136) [3, 4, 5, 6, 142, 143] [24, 32, 40, 1000770, 1000771, 48, 1136] 0 hf (fun K J l267 k265 t o => ∃ v258 v261 b259 c260 b79 c80 b262 c263 b264, dG7 a1 a2 a0 l267 k265 v258 v261 = some q256 ∧ PP ((8, .ref 200 b259 c260 0 v258.length 49) :: (9, .ptr 72 b264 100 0 0) :: (144, .v (.int .i64 (k265 : Int))) :: K) ((200, ent b259 c260 49 (List.map cK7 v258)) :: (1001154, ent b79 c80 66 (List.map ePt x77.pts)) :: (1001155, ent b262 c263 82 (List.map bg7 v261)) :: (72, ⟨b264, 1, 100, true, [[.v (.string a1.id), .v (.int .i64 x77.kind), .al 1001154 b79 c80 0 x77.pts.length 66, .al 1001155 b262 c263 0 v261.length 82]]⟩) :: J) t o) ?_ ?_ ?_
  ·exact ⟨_, _, _, _, _, _, _, _, _, hq, pin, aJ7⟩
  ·rintro k265 t o hlt ⟨v258, v261, b259, c260, b79, c80, b262, c263, b264, h, pq⟩
   refine pn pq ?_
   rw [dG7] at h
   exact cls
  rintro x266 l267 k265 t o hlt hx271 hw hd ⟨v258, v261, b259, c260, b79, c80, b262, c263, b264, h, pq⟩
  refine pn pq ?_
  rw [dG7] at h
  refine gx fun x274 h275 x276 h277 x280 h281 x282 h283 => ?_; intros; rename_i h
  obtain ⟨q291, hq, h⟩ := bnd h
  refine a97 [3, 4, 5, 6, 9, 20, 142, 143, 144] [24, 32, 40, 1000770, 1000771, 48, 1001154, 1001155, 72, 1136] (fun K J t o => ∃ b299 c300 b303, PP ((8, .ref 200 b299 c300 0 q291.1.length 49) :: (23, .ptr 184 b303 306 0 0) :: K) ((200, ent b299 c300 49 (List.map cK7 q291.1)) :: (184, ⟨b303, 1, 306, true, [[.v (.bool q291.2.1), .v (.string q291.2.2)]]⟩) :: J) t o) ?_ ?_
  ·have h := hq
   exact cls
  rintro t o ⟨b299, c300, b303, pq⟩
  refine pn pq ?_
  exact cls
 rintro t o ⟨b309, c310, b79, c80, b312, c313, b314, pq⟩
 refine pnq pq ?_
 exact cls
theorem PC7 : OkC [ER7] yj7 KV7 KW7 := by
 refine ok fun G H ⟨a0, a1, a2⟩ r h => ?_
 refine st1 fun bs t o => ?_
 dsimp only [n47] at h
 exact cls
theorem PD7 : OkC [vP7] E67 KX7 KY7 := by
 refine ok fun G H ⟨a0, a1, a2⟩ r h => ?_
 have H_bx9 := H _ (.head _)
 replace H := mV7 0 H
 refine st1 fun bs t o => ?_
 dsimp only [rp7] at h
 try (refine gx ?_; intros; rename_i h)
 obtain ⟨q5, hq, h⟩ := bnd h
 refine a97 [3, 4, 5, 6, 8] [32, 40, 48, 1001027, 1001028, 64] (fun K J t o => PP ((10, .v (.bool q5)) :: K) J t o) ?_ ?_
 ·have h := hq
  try (refine gx ?_; intros; rename_i h)
  obtain ⟨x6, h7, h⟩ := bnd h
  refine bF7 (c := vP7) (a1, a0) H_bx9 h7 fun ch => ?_
  exact cls
 rintro t o pq
 refine pn pq ?_
 try (refine gx ?_; intros; rename_i h)
 obtain ⟨x9, h10, h⟩ := bnd h
 refine bF7 (c := vP7) (a2, a0) H_bx9 h10 fun ch => ?_
 try (refine gx ?_; intros; rename_i h)
 obtain ⟨x11, h12, h⟩ := bnd h
 refine bF7 (c := vP7) (a1, a2) H_bx9 h12 fun ch => ?_
 exact cls
theorem PE7 : OkC [Ar7, AB7, E27, E67, E57, vM7] yk7 KZ7 K07 := by
 refine ok fun G H ⟨a0, a1, a2⟩ r h => ?_
 refine st1 fun bs t o => ?_
 dsimp only [n67] at h
 refine gx fun x3 h4 x5 h6 x7 h8 x10 h11 => ?_; intros; rename_i h
 obtain ⟨hf, h⟩ := gd h
 obtain ⟨q714, hq, h⟩ := bnd h
 refine ae7 [] [] (fun K J t o => ∃ b961 c962 b964 c965, PP ((9, .ref 176 b961 c962 0 q714.1.length 178) :: (10, .ref 184 b964 c965 0 q714.2.length 100) :: K) ((176, ent b961 c962 178 (List.map bc7 q714.1)) :: (184, ent b964 c965 100 (List.map (ak7 true) q714.2)) :: J) t o) ?_ ?_
 ·refine aQ7 (xs := x10) [0, 1, 2, 43, 44] [344] 0 hf (fun K J l724 k722 t o => ∃ v716 v719 b717 c718 b720 c721, dH7 a0 a1 a2 l724 k722 v716 v719 = some q714 ∧ PP ((9, .ref 176 b717 c718 0 v716.length 178) :: (10, .ref 184 b720 c721 0 v719.length 100) :: (45, .v (.int .i64 (k722 : Int))) :: K) ((176, ent b717 c718 178 (List.map bc7 v716)) :: (184, ent b720 c721 100 (List.map (ak7 true) v719)) :: J) t o) ?_ ?_ ?_
  ·exact ⟨_, _, _, _, _, _, hq, pin, aJ7⟩
  ·rintro k722 t o hlt ⟨v716, v719, b717, c718, b720, c721, h, pq⟩
   refine pn pq ?_
   rw [dH7] at h
   exact cls
  rintro x723 l724 k722 t o hlt hx728 hw hd ⟨v716, v719, b717, c718, b720, c721, h, pq⟩
  refine pn pq ?_
  rw [dH7] at h
  try (refine gx ?_; intros; rename_i h)
  obtain ⟨q731, hq, h⟩ := bnd h
  refine a97 [0, 1, 2, 9, 10, 12, 43, 44, 45] [176, 184, 344] (fun K J t o => ∃ b758 b764 b770, PP ((13, .ptr 104 b758 325 0 0) :: (14, .ptr 112 b764 325 0 0) :: (15, .ptr 120 b770 325 0 0) :: K) ((104, ⟨b758, 1, 325, true, [[.v (.bool q731.1), .v (.string q731.2.1), .v (.int .i64 q731.2.2.1), .sl false 2 (List.map ePt q731.2.2.2.1), .sl false 2 (List.map bg7 q731.2.2.2.2.1)]]⟩) :: (112, ⟨b764, 1, 325, true, [[.v (.bool q731.2.2.2.2.2.1), .v (.string q731.2.2.2.2.2.2.1), .v (.int .i64 q731.2.2.2.2.2.2.2.1), .sl false 2 (List.map ePt q731.2.2.2.2.2.2.2.2.1), .sl false 2 (List.map bg7 q731.2.2.2.2.2.2.2.2.2.1)]]⟩) :: (120, ⟨b770, 1, 325, true, [[.v (.bool q731.2.2.2.2.2.2.2.2.2.2.1), .v (.string q731.2.2.2.2.2.2.2.2.2.2.2.1), .v (.int .i64 q731.2.2.2.2.2.2.2.2.2.2.2.2.1), .sl false 2 (List.map ePt q731.2.2.2.2.2.2.2.2.2.2.2.2.2.1), .sl false 2 (List.map bg7 q731.2.2.2.2.2.2.2.2.2.2.2.2.2.2)]]⟩) :: J) t o) ?_ ?_
  ·have h := hq
   exact cls
  rintro t o ⟨b758, b764, b770, pq⟩
  refine pn pq ?_
  refine gx fun x771 h772 => ?_; intros; rename_i h
  obtain ⟨q857, hq, h⟩ := bnd h
  refine a97 [0, 1, 2, 10, 43, 44, 45] [184, 344] (fun K J t o => ∃ b942 c943 b949, PP ((9, .ref 176 b942 c943 0 q857.1.length 178) :: (16, .ptr 128 b949 325 0 0) :: K) ((176, ent b942 c943 178 (List.map bc7 q857.1)) :: (128, ⟨b949, 1, 325, true, [[.v (.bool q857.2.1), .v (.string q857.2.2.1), .v (.int .i64 q857.2.2.2.1), .sl false 2 (List.map ePt q857.2.2.2.2.1), .sl false 2 (List.map bg7 q857.2.2.2.2.2)]]⟩) :: J) t o) ?_ ?_
  ·have h := hq
   try (refine gx ?_; intros; rename_i h)
   refine ME7 h rfl rfl (fun h c => ?_) fun h c => ?_
   ·try rw [c]
    try (refine gx ?_; intros; rename_i h)
    obtain ⟨q858, hq, h⟩ := bnd h
    refine a97 [0, 1, 2, 9, 10, 12, 14, 15, 43, 44, 45] [176, 184, 112, 120, 344] (fun K J t o => ∃ b859, PP ((16, .ptr 128 b859 325 0 0) :: K) ((128, ⟨b859, 1, 325, true, [[.v (.bool q731.2.2.2.2.2.1), .v (.string q731.2.2.2.2.2.2.1), .v (.int .i64 q731.2.2.2.2.2.2.2.1), .sl false 2 (List.map ePt q731.2.2.2.2.2.2.2.2.1), .sl false 2 (List.map bg7 q731.2.2.2.2.2.2.2.2.2.1)]]⟩) :: J) t o) ?_ ?_
    ·have h := hq
     exact cls
    rintro t o ⟨b859, pq⟩
    refine pn pq ?_
    exact cls
   try rw [c]
   try (refine gx ?_; intros; rename_i h)
   refine cnd h rfl rfl (fun h c => ?_) fun h c => ?_
   ·try rw [c]
    try (refine gx ?_; intros; rename_i h)
    obtain ⟨q868, hq, h⟩ := bnd h
    refine a97 [0, 1, 2, 9, 10, 12, 14, 15, 43, 44, 45, 97, 98, 99] [176, 184, 112, 120, 344] (fun K J t o => ∃ b869, PP ((16, .ptr 128 b869 325 0 0) :: K) ((128, ⟨b869, 1, 325, true, [[.v (.bool q731.2.2.2.2.2.1), .v (.string q731.2.2.2.2.2.2.1), .v (.int .i64 q731.2.2.2.2.2.2.2.1), .sl false 2 (List.map ePt q731.2.2.2.2.2.2.2.2.1), .sl false 2 (List.map bg7 q731.2.2.2.2.2.2.2.2.2.1)]]⟩) :: J) t o) ?_ ?_
    ·have h := hq
     exact cls
    rintro t o ⟨b869, pq⟩
    refine pn pq ?_
    exact cls
   try rw [c]
   try (refine gx ?_; intros; rename_i h)
   obtain ⟨q882, hq, h⟩ := bnd h
   refine a97 [0, 1, 2, 9, 10, 12, 16, 43, 44, 45, 97, 98, 99] [176, 184, 128, 344, 120] (fun K J t o => ∃ b897, PP ((18, .ptr 144 b897 100 0 0) :: (19, .ro (List.map cK7 q882.1)) :: K) ((144, ⟨b897, 1, 100, true, [[.v (.string q882.2.1), .v (.int .i64 q882.2.2.1), .sl false 2 (List.map ePt q882.2.2.2.1), .sl false 2 (List.map bg7 q882.2.2.2.2)]]⟩) :: J) t o) ?_ ?_
   ·have h := hq
    exact cls
   rintro t o ⟨b897, pq⟩
   refine pn pq ?_
   try (refine gx ?_; intros; rename_i h)
   obtain ⟨hf, h⟩ := gd h
   obtain ⟨q920, hq, h⟩ := bnd h
   refine ae7 [0, 1, 2, 10, 16, 43, 44, 45, 97, 98, 99] [184, 128, 344, 120] (fun K J t o => ∃ b939 c940, PP ((9, .ref 176 b939 c940 0 q920.length 178) :: K) ((176, ent b939 c940 178 (List.map bc7 q920)) :: J) t o) ?_ ?_
   ·refine aQ7 (xs := q882.1) [0, 1, 2, 10, 12, 16, 43, 44, 45, 77, 78, 97, 98, 99] [184, 128, 344, 120] 0 hf (fun K J l927 k925 t o => ∃ v922 b923 c924, ex7 x723 l927 k925 v922 = some q920 ∧ PP ((9, .ref 176 b923 c924 0 v922.length 178) :: (79, .v (.int .i64 (k925 : Int))) :: K) ((176, ent b923 c924 178 (List.map bc7 v922)) :: J) t o) ?_ ?_ ?_
    ·exact ⟨_, _, _, hq, pin, aJ7⟩
    ·rintro k925 t o hlt ⟨v922, b923, c924, h, pq⟩
     refine pn pq ?_
     rw [ex7] at h
     exact cls
    rintro x926 l927 k925 t o hlt hx931 hw hd ⟨v922, b923, c924, h, pq⟩
    refine pn pq ?_
    rw [ex7] at h
    exact cls
   rintro t o ⟨b939, c940, pq⟩
   refine pnq pq ?_
   exact cls
  rintro t o ⟨b942, c943, b949, pq⟩
  refine pn pq ?_
  exact cls
 rintro t o ⟨b961, c962, b964, c965, pq⟩
 refine pnq pq ?_
 exact cls
theorem PF7 : OkC [Aw7] E77 K17 K27 := by
 refine ok fun G H a0 r h => ?_
 refine st1 fun bs t o => ?_
 dsimp only [rq7] at h
 refine gx fun h7 => ?_; intros; rename_i h
 obtain ⟨hf, h⟩ := gd h
 obtain ⟨q53, hq, h⟩ := bnd h
 refine ae7 [2] [1000256, 1000257, 16] (fun K J t o => ∃ b80 c81 b5 c6 b82, PP ((3, .ptr 24 b82 210 0 0) :: K) ((1000384, ent b80 c81 115 (List.map (af7 true) q53)) :: (1000385, ent b5 c6 130 (List.map az7 ([] ++ a0.heads))) :: (24, ⟨b82, 1, 210, true, [[.al 1000384 b80 c81 0 q53.length 115, .al 1000385 b5 c6 0 ([] ++ a0.heads).length 130]]⟩) :: J) t o) ?_ ?_
 ·refine aQ7 (xs := a0.commits) [2, 13, 14] [1000256, 1000257, 16] 0 hf (fun K J l61 k59 t o => ∃ v55 b56 c57 b5 c6 b58, g27 l61 k59 v55 = some q53 ∧ PP ((3, .ptr 24 b58 210 0 0) :: (15, .v (.int .i64 (k59 : Int))) :: K) ((1000384, ent b56 c57 115 (List.map (af7 true) v55)) :: (1000385, ent b5 c6 130 (List.map az7 ([] ++ a0.heads))) :: (24, ⟨b58, 1, 210, true, [[.al 1000384 b56 c57 0 v55.length 115, .al 1000385 b5 c6 0 ([] ++ a0.heads).length 130]]⟩) :: J) t o) ?_ ?_ ?_
  ·exact ⟨_, _, _, _, _, _, hq, pin, aJ7⟩
  ·rintro k59 t o hlt ⟨v55, b56, c57, b5, c6, b58, h, pq⟩
   refine pn pq ?_
   rw [g27] at h
   exact cls
  rintro x60 l61 k59 t o hlt hx65 hw hd ⟨v55, b56, c57, b5, c6, b58, h, pq⟩
  refine pn pq ?_
  rw [g27] at h
  exact cls
 rintro t o ⟨b80, c81, b5, c6, b82, pq⟩
 refine pnq pq ?_
 exact cls
theorem PG7 : OkC [yj7, yk7] E87 K37 K47 := by
 refine ok fun G H ⟨a0, a1, a2⟩ r h => ?_
 refine st1 fun bs t o => ?_
 dsimp only [n77] at h
 exact cls
theorem PH7 : OkC [At7, Aw7] E97 K57 K67 := by
 refine ok fun G H ⟨a0, a1, a2⟩ r h => ?_
 refine st1 fun bs t o => ?_
 dsimp only [rr7] at h
 refine gx fun x6 h7 => ?_; intros; rename_i h
 refine cnd h rfl rfl (fun h c => ?_) fun h c => ?_
 ·try rw [c]
  refine gx fun x8 h9 h17 x18 h19 => ?_; intros; rename_i h
  refine cI7 (f := az7) a0.heads (⟨x18.name, (a0.commits.length : Int)⟩ : Head) (aF7 h19).2 ?_
  exact cls
 try rw [c]
 refine gx fun x20 h21 => ?_; intros; rename_i h
 refine cI7 (f := az7) a0.heads (⟨x20.name, x6⟩ : Head) (aF7 h21).2 ?_
 exact cls
theorem PI7 : OkC [vJ7, o17, sV7, o27, yb7, An7] AC7 K77 K87 := by
 refine ok fun G H ⟨a0, a1, a2, a3⟩ r h => ?_
 have H_do9 := H _ (.head _)
 have H_dv9 := H _ (.tail _ (.head _))
 have H_fs9 := H _ (.tail _ (.tail _ (.head _)))
 have H_fv9 := H _ (.tail _ (.tail _ (.tail _ (.head _))))
 have H_dk9 := H _ (.tail _ (.tail _ (.tail _ (.tail _ (.head _)))))
 have H_gf9 := H _ (.tail _ (.tail _ (.tail _ (.tail _ (.tail _ (.head _))))))
 refine st1 fun bs t o => ?_
 dsimp only [n87] at h
 obtain ⟨x4, h5, h⟩ := bnd h
 refine go ?_;intros
 refine an7 (c := vJ7) (a0) H_do9 h5 fun ch => ?_
 refine go ?_;intros
 refine aw7 rfl (fun c => ?_) (fun c => ?_)
 ·replace h := itt h c
  rw [c]
  refine go ?_;intros
  cases h
  exact aX7
 replace h := itf h c
 rw [c]
 obtain ⟨x6, h7, h⟩ := bnd h
 refine go ?_;intros
 refine an7 (c := o17) (a3) H_dv9 h7 fun ch => ?_
 refine go ?_;intros
 refine as7 rfl (fun c => ?_) (fun c => ?_)
 ·replace h := itt h c
  try rw [c]
  refine go ?_;intros
  cases h
  exact aX7
 replace h := itf h c
 try rw [c]
 obtain ⟨q8, h53, h⟩ := bnd h
 refine go ?_;intros
 refine dA7 (fun t o => ∃ b16 b17 c18 b19 c20 b21 b22 c23 b25 c26 b28 c29 b30, Pin t (ovr [(1, .v (.string a1)), (2, .v (.string a2)), (3, .v (.string a3)), (4, .ptr 32 b16 210 0 0), (8, .ptr 64 b21 210 0 0), (11, .ref 136 b22 c23 0 0 178), (12, .ptr 96 b30 210 0 0)] t) ∧ e97 o (ovh [(32, ⟨b16, 1, 210, true, [[.sl false 3 (List.map (af7 false) a0.commits), .sl false 2 (List.map az7 a0.heads)]]⟩), (1001024, ent b17 c18 115 (List.map (af7 true) [])), (1001025, ent b19 c20 130 (List.map az7 [])), (64, ⟨b21, 1, 210, true, [[.al 1001024 b17 c18 0 ([] : List Commit).length 115, .al 1001025 b19 c20 0 ([] : List Head).length 130]]⟩), (136, ent b22 c23 178 (List.map bc7 [])), (1001536, ent b25 c26 115 (List.map (af7 true) q8.1)), (1001537, ent b28 c29 130 (List.map az7 q8.2)), (96, ⟨b30, 1, 210, true, [[.al 1001536 b25 c26 0 q8.1.length 115, .al 1001537 b28 c29 0 q8.2.length 130]]⟩)] o)) ?_ ?_
 ·obtain ⟨x9, h10, h53⟩ := bnd h53
  refine go ?_;intros
  refine an7 (c := sV7) (a0) H_fs9 h10 fun ch => ?_
  refine go ?_;intros
  cases h53
  exact dd7 ⟨_, _, _, _, _, _, _, _, _, _, _, _, _, pin, aJ7⟩
 rintro t o ⟨b16, b17, c18, b19, c20, b21, b22, c23, b25, c26, b28, c29, b30, pq1, pq2⟩
 refine bz7 pq1 pq2 ?_
 obtain ⟨x31, h32, h⟩ := bnd h
 refine go ?_;intros
 refine an7 (c := o27) (a0, a1) H_fv9 h32 fun ch => ?_
 obtain ⟨x33, h34, h⟩ := bnd h
 refine go ?_;intros
 refine an7 (c := o27) (a0, a2) H_fv9 h34 fun ch => ?_
 refine go ?_;intros
 refine aw7 rfl (fun c => ?_) (fun c => ?_)
 ·replace h := itt h c
  rw [c]
  refine go ?_;intros
  cases h
  exact aX7
 replace h := itf h c
 rw [c]
 refine go ?_;intros
 refine as7 rfl (fun c => ?_) (fun c => ?_)
 ·replace h := itt h c
  try rw [c]
  refine go ?_;intros
  cases h
  exact aX7
 replace h := itf h c
 try rw [c]
 obtain ⟨x35, h36, h⟩ := bnd h
 refine go ?_;intros
 refine dp7 rfl rfl h36 rfl ?_
 obtain ⟨x37, h38, h⟩ := bnd h
 refine go ?_;intros
 refine dp7 rfl rfl h38 rfl ?_
 obtain ⟨x39, h40, h⟩ := bnd h
 refine go ?_;intros
 refine an7 (c := yb7) (a0, x37.at_, x35.at_) H_dk9 h40 fun ch => ?_
 refine go ?_;intros
 refine as7 rfl (fun c => ?_) (fun c => ?_)
 ·replace h := itt h c
  try rw [c]
  refine go ?_;intros
  cases h
  exact aX7
 replace h := itf h c
 try rw [c]
 obtain ⟨x41, h42, h⟩ := bnd h
 refine go ?_;intros
 refine an7 (c := yb7) (a0, x35.at_, x37.at_) H_dk9 h42 fun ch => ?_
 refine go ?_;intros
 refine as7 rfl (fun c => ?_) (fun c => ?_)
 ·replace h := itt h c
  try rw [c]
  obtain ⟨x43, h44, h⟩ := bnd h
  refine go ?_;intros
  refine eK7 (xs := q8.2) rfl rfl h44 rfl ?_
  refine go ?_;intros
  refine cI7 (f := az7) q8.2 (⟨x43.name, x37.at_⟩ : Head) (aF7 h44).2 ?_
  refine go ?_;intros
  cases h
  exact aX7
 replace h := itf h c
 try rw [c]
 obtain ⟨x45, h46, h⟩ := bnd h
 refine go ?_;intros
 refine ao7 (c := An7) ((⟨q8.1, q8.2⟩ : am7), x31, x35.at_, x37.at_, a3) H_gf9 h46 fun ch => ?_
 refine go ?_;intros
 cases h
 exact aX7
theorem PJ7 : OkC [rc7, yc7, E77, yg7, vN7, E87, E97] AD7 K97 La7 := by
 refine ok fun G H ⟨a0, a1, a2, a3⟩ r h => ?_
 refine st1 fun bs t o => ?_
 dsimp only [n97] at h
 refine gx fun x4 h5 x6 h7 => ?_; intros; rename_i h
 obtain ⟨q8, hq, h⟩ := bnd h
 refine a97 [1, 2, 3, 4, 8, 11] [32, 1001024, 1001025, 64, 160] (fun K J t o => ∃ b17 c18 b20 c21 b22, PP ((12, .ptr 96 b22 210 0 0) :: K) ((1001536, ent b17 c18 115 (List.map (af7 true) q8.1)) :: (1001537, ent b20 c21 130 (List.map az7 q8.2)) :: (96, ⟨b22, 1, 210, true, [[.al 1001536 b17 c18 0 q8.1.length 115, .al 1001537 b20 c21 0 q8.2.length 130]]⟩) :: J) t o) ?_ ?_
 ·have h := hq
  exact cls
 rintro t o ⟨b17, c18, b20, c21, b22, pq⟩
 refine pn pq ?_
 refine gx fun x23 h24 x25 h26 x27 h28 x29 h30 x31 h32 x35 h36 x37 h38 x41 h42 x43 h44 => ?_; intros; rename_i h
 refine cI7 (f := az7) q8.2 (⟨x43.name, x29.at_⟩ : Head) (aF7 h44).2 ?_
 exact cls
theorem PK7 : OkC [] Fa7 Lb7 Lc7 := by
 refine ok fun G H ⟨a0, g0, g1⟩ r h => ?_
 refine st1 fun bs t o => ?_
 dsimp only [rs7] at h
 try (refine gx ?_; intros; rename_i h)
 obtain ⟨x1, h2, h⟩ := bnd h
 refine tQ7 (f := eU8) rfl rfl rfl h2 ?_
 exact cls
theorem PL7 : OkC [] cm7 Ld7 Le7 := by
 refine ok fun G H ⟨a0, a1, g0, g1⟩ r h => ?_
 refine st1 fun bs t o => ?_
 dsimp only [bJ7] at h
 refine go ?_;intros
 refine aw7 rfl (fun c => ?_) (fun c => ?_)
 ·replace h := itt h c
  rw [c]
  refine go ?_;intros
  cases h
  exact aY7
 replace h := itf h c
 rw [c]
 refine go ?_;intros
 refine as7 rfl (fun c => ?_) (fun c => ?_)
 ·replace h := itt h (by first | exact c | (have c2 := c; simp only [List.length_map] at c2; exact c2))
  try rw [c]
  refine go ?_;intros
  cases h
  exact aY7
 replace h := itf h (by first | exact c | (have c2 := c; simp only [List.length_map] at c2; exact c2))
 try rw [c]
 refine go ?_;intros
 refine as7 rfl (fun c => ?_) (fun c => ?_)
 ·replace h := itt h (by first | exact c | (have c2 := c; simp only [List.length_map] at c2; exact c2))
  try rw [c]
  obtain ⟨x1, h2, h⟩ := bnd h
  refine go ?_;intros
  refine dp7 rfl rfl h2 rfl ?_
  obtain ⟨x3, h4, h⟩ := bnd h
  refine go ?_;intros
  refine im7 rfl rfl h4 ?_
  refine go ?_;intros
  cases h
  exact aY7
 replace h := itf h (by first | exact c | (have c2 := c; simp only [List.length_map] at c2; exact c2))
 try rw [c]
 obtain ⟨x5, h6, h⟩ := bnd h
 refine go ?_;intros
 refine im7 rfl rfl h6 ?_
 obtain ⟨x7, h8, h⟩ := bnd h
 refine go ?_;intros
 refine dp7 rfl rfl h8 rfl ?_
 obtain ⟨x9, h10, h⟩ := bnd h
 refine go ?_;intros
 refine im7 rfl rfl h10 ?_
 obtain ⟨x11, h12, h⟩ := bnd h
 refine go ?_;intros
 refine dp7 rfl rfl h12 rfl ?_
 obtain ⟨x13, h14, h⟩ := bnd h
 refine go ?_;intros
 refine xd7 rfl rfl h14 ?_
 refine go ?_;intros
 refine xe7 rfl rfl ?_
 obtain ⟨x15, h16, h⟩ := bnd h
 refine go ?_;intros
 refine im7 rfl rfl h16 ?_
 refine go ?_;intros
 cases h
 exact aY7
theorem PM7 : OkC [cm7] lZ7 Lf7 Lg7 := by
 refine ok fun G H ⟨a0, a1, g0, g1⟩ r h => ?_
 refine st1 fun bs t o => ?_
 dsimp only [ge7] at h
 exact cls
theorem PN7 : OkC [lZ7] sY7 Lh7 Li7 := by
 refine ok fun G H ⟨a0, g0, g1⟩ r h => ?_
 refine st1 fun bs t o => ?_
 dsimp only [l07] at h
 exact cls
theorem PO7 : OkC [lZ7] yl7 Lj7 Lk7 := by
 refine ok fun G H ⟨a0, g0, g1⟩ r h => ?_
 refine st1 fun bs t o => ?_
 dsimp only [oa7] at h
 exact cls
theorem PP7 : OkC [lZ7] ym7 Ll7 Lm7 := by
 refine ok fun G H ⟨a0, g0, g1⟩ r h => ?_
 refine st1 fun bs t o => ?_
 dsimp only [ob7] at h
 exact cls
theorem PQ7 : OkC [cm7] mY7 Ln7 Lo7 := by
 refine ok fun G H ⟨a0, a1, g0, g1⟩ r h => ?_
 refine st1 fun bs t o => ?_
 dsimp only [iC7] at h
 exact cls
theorem PR7 : OkC [cm7, mY7] rt7 Lp7 Lq7 := by
 refine ok fun G H ⟨a0, g0, g1⟩ r h => ?_
 refine st1 fun bs t o => ?_
 dsimp only [hs7] at h
 exact cls
theorem PS7 : OkC [] AE7 Lr7 Ls7 := by
 refine ok fun G H ⟨a0, a1⟩ r h => ?_
 refine st1 fun bs t o => ?_
 dsimp only [ru7] at h
 exact cls
theorem PT7 : OkC [mY7, cm7, AE7, rt7, qM7] yn7 Lt7 Lu7 := by
 refine ok fun G H ⟨a0, g0, g1⟩ r h => ?_
 have H_dx9 := H _ (.head _)
 have H_dz9 := H _ (.tail _ (.head _))
 have H_ed9 := H _ (.tail _ (.tail _ (.head _)))
 have H_ef9 := H _ (.tail _ (.tail _ (.tail _ (.head _))))
 have H_dq9 := H _ (.tail _ (.tail _ (.tail _ (.tail _ (.head _)))))
 refine st1 fun bs t o => ?_
 dsimp only [oc7] at h
 obtain ⟨x3, h4, h⟩ := bnd h
 refine go ?_;intros
 refine ao7 (c := mY7) (a0, ([1, 2, 2, 3, 3] : (List Int)), g0, g1) H_dx9 h4 fun ch => ?_
 obtain ⟨x6, h7, h⟩ := bnd h
 refine go ?_;intros
 refine ao7 (c := cm7) ((⟨a0.b, x3.2⟩ : Rd), 4, g0, g1) H_dz9 h7 fun ch => ?_
 obtain ⟨q8, h159, h⟩ := bnd h
 refine go ?_;intros
 refine dA7 (fun t o => ∃ b10 c11 b12 b13 c14 b15, Pin t (ovr [(0, .ptr 0 (bs 0).1 290 0 0), (2, .ptr 16 b12 226 0 0), (3, .ptr 24 b15 226 0 0), (4, .v (.int .i64 q8))] t) ∧ e97 o (ovh [(0, ⟨(bs 0).1, (bs 0).2, 290, true, [[.rw g0 g1 (List.map eU8 a0.b), .v (.int .i64 x6.2)]]⟩), (1000257, ent b10 c11 66 (List.map ePt [])), (16, ⟨b12, 1, 226, true, [[.v (.int .i64 0), .al 1000257 b10 c11 0 ([] : List Pt).length 66]]⟩), (1000385, ent b13 c14 66 (List.map ePt [])), (24, ⟨b15, 1, 226, true, [[.v (.int .i64 x3.1), .al 1000385 b13 c14 0 ([] : List Pt).length 66]]⟩)] o)) ?_ ?_
 ·refine go ?_;intros
  refine as7 rfl (fun c => ?_) (fun c => ?_)
  ·replace h159 := itt h159 c
   try rw [c]
   refine go ?_;intros
   cases h159
   exact dd7 ⟨_, _, _, _, _, _, pin, aJ7⟩
  replace h159 := itf h159 c
  try rw [c]
  refine go ?_;intros
  cases h159
  exact dd7 ⟨_, _, _, _, _, _, pin, aJ7⟩
 rintro t o ⟨b10, c11, b12, b13, c14, b15, pq1, pq2⟩
 refine bz7 pq1 pq2 ?_
 obtain ⟨q109, h160, h⟩ := bnd h
 refine go ?_;intros
 refine lA7 (fun t o => ∃ b147 c148 b149 b151 c152 b153, Pin t (ovr [(0, .ptr 0 (bs 0).1 290 0 0), (2, .ptr 16 b149 226 0 0), (3, .ptr 24 b153 226 0 0)] t) ∧ e97 o (ovh [(0, ⟨(bs 0).1, (bs 0).2, 290, true, [[.rw g0 g1 (List.map eU8 a0.b), .v (.int .i64 q109.1)]]⟩), (1000257, ent b147 c148 66 (List.map ePt [])), (16, ⟨b149, 1, 226, true, [[.v (.int .i64 0), .al 1000257 b147 c148 0 ([] : List Pt).length 66]]⟩), (1000385, ent b151 c152 66 (List.map ePt q109.2)), (24, ⟨b153, 1, 226, true, [[.v (.int .i64 x3.1), .al 1000385 b151 c152 0 q109.2.length 66]]⟩)] o)) ?_ ?_
 ·refine fl7 (fun n t o => ∃ n119 v110 v111 v115 b112 c113 b114 b116 c117 b118, dI7 q8 a0 x3 n119 v110 v111 v115 = some q109 ∧ n119 = n ∧ Pin t (ovr [(0, .ptr 0 (bs 0).1 290 0 0), (2, .ptr 16 b114 226 0 0), (3, .ptr 24 b118 226 0 0), (4, .v (.int .i64 q8)), (5, .v (.int .i64 v110))] t) ∧ e97 o (ovh [(0, ⟨(bs 0).1, (bs 0).2, 290, true, [[.rw g0 g1 (List.map eU8 a0.b), .v (.int .i64 v111)]]⟩), (1000257, ent b112 c113 66 (List.map ePt [])), (16, ⟨b114, 1, 226, true, [[.v (.int .i64 0), .al 1000257 b112 c113 0 ([] : List Pt).length 66]]⟩), (1000385, ent b116 c117 66 (List.map ePt v115)), (24, ⟨b118, 1, 226, true, [[.v (.int .i64 x3.1), .al 1000385 b116 c117 0 v115.length 66]]⟩)] o)) _ ⟨_, _, _, _, _, _, _, _, _, _, h160, rfl, pin, aJ7⟩ ?_
  rintro n t o ⟨n119, v110, v111, v115, b112, c113, b114, b116, c117, b118, h160, rfl, pq1, pq2⟩
  refine bz7 pq1 pq2 ?_
  cases n119 with
  | zero => rw [dI7] at h160; cases h160
  | succ n119 =>
   rw [dI7] at h160
   refine go ?_;intros
   refine aw7 rfl (fun c => ?_) (fun c => ?_)
   ·replace h160 := itt h160 c
    rw [c]
    obtain ⟨x120, h121, h160⟩ := bnd h160
    refine go ?_;intros
    refine an7 (c := AE7) (q8, 6) H_ed9 h121 fun ch => ?_
    refine go ?_;intros
    refine as7 rfl (fun c => ?_) (fun c => ?_)
    ·replace h160 := itt h160 (by first | exact c | (have c2 := c; simp only [List.length_map] at c2; exact c2))
     try rw [c]
     obtain ⟨x122, h123, h160⟩ := bnd h160
     refine go ?_;intros
     refine ao7 (c := rt7) ((⟨a0.b, v111⟩ : Rd), g0, g1) H_ef9 h123 fun ch => ?_
     obtain ⟨q129, h161, h160⟩ := bnd h160
     refine go ?_;intros
     refine dA7 (fun t o => ∃ b135 c136 b137 b138 c139 b140 b141, Pin t (ovr [(0, .ptr 0 (bs 0).1 290 0 0), (2, .ptr 16 b137 226 0 0), (3, .ptr 24 b140 226 0 0), (4, .v (.int .i64 q8)), (5, .v (.int .i64 v110)), (6, .ptr 48 b141 66 0 0), (23, .ptr 24 b140 226 0 1), (24, .ref 1000385 b138 c139 0 v115.length 66), (25, .v (.int .i64 (v115.length : Int))), (26, .v (.int .i64 q8)), (27, .v (.int .i64 x120)), (28, .v (.bool true)), (61, .v (.bool q129))] t) ∧ e97 o (ovh [(0, ⟨(bs 0).1, (bs 0).2, 290, true, [[.rw g0 g1 (List.map eU8 a0.b), .v (.int .i64 x122.2)]]⟩), (1000257, ent b135 c136 66 (List.map ePt [])), (16, ⟨b137, 1, 226, true, [[.v (.int .i64 0), .al 1000257 b135 c136 0 ([] : List Pt).length 66]]⟩), (1000385, ent b138 c139 66 (List.map ePt v115)), (24, ⟨b140, 1, 226, true, [[.v (.int .i64 x3.1), .al 1000385 b138 c139 0 v115.length 66]]⟩), (48, ⟨b141, 1, 66, true, [[.v (.int .i64 x122.1.x), .v (.int .i64 x122.1.y)]]⟩)] o)) ?_ ?_
     ·refine go ?_;intros
      refine aw7 rfl (fun c => ?_) (fun c => ?_)
      ·replace h161 := itt h161 (by first | exact c | (have c2 := c; simp only [List.length_map] at c2; exact c2))
       rw [c]
       refine go ?_;intros
       cases h161
       exact dd7 ⟨_, _, _, _, _, _, _, pin, aJ7⟩
      replace h161 := itf h161 (by first | exact c | (have c2 := c; simp only [List.length_map] at c2; exact c2))
      rw [c]
      obtain ⟨x130, h131, h161⟩ := bnd h161
      refine go ?_;intros
      refine eK7 (xs := v115) rfl rfl h131 rfl ?_
      refine go ?_;intros
      refine oL7 (f := ePt) (xs := v115) (x := x130) rfl rfl (aF7 h131).2 rfl rfl rfl ?_
      refine go ?_;intros
      refine aw7 rfl (fun c => ?_) (fun c => ?_)
      ·replace h161 := itt h161 c
       rw [c]
       refine go ?_;intros
       refine aw7 rfl (fun c => ?_) (fun c => ?_)
       ·replace h161 := itt h161 c
        rw [c]
        refine go ?_;intros
        cases h161
        exact dd7 ⟨_, _, _, _, _, _, _, pin, aJ7⟩
       replace h161 := itf h161 c
       rw [c]
       obtain ⟨x132, h133, h161⟩ := bnd h161
       refine go ?_;intros
       refine eK7 (xs := v115) rfl rfl h133 rfl ?_
       refine go ?_;intros
       refine oL7 (f := ePt) (xs := v115) (x := x132) rfl rfl (aF7 h133).2 rfl rfl rfl ?_
       refine go ?_;intros
       cases h161
       exact dd7 ⟨_, _, _, _, _, _, _, pin, aJ7⟩
      replace h161 := itf h161 c
      rw [c]
      refine go ?_;intros
      cases h161
      exact dd7 ⟨_, _, _, _, _, _, _, pin, aJ7⟩
     rintro t o ⟨b135, c136, b137, b138, c139, b140, b141, pq1, pq2⟩
     refine bz7 pq1 pq2 ?_
     refine go ?_;intros
     refine as7 rfl (fun c => ?_) (fun c => ?_)
     ·replace h160 := itt h160 c
      try rw [c]
      obtain ⟨h145, h160⟩ := gd h160
      refine go ?_;intros
      refine d37 (f := ePt) (xs := v115) (ys := ([x122.1] : (List Pt))) rfl (eW7 rfl rfl (by first | rfl | simp)) rfl rfl (by first | rfl | simp) h145 fun b143 c144 => ?_
      refine go ?_;intros
      exact gy7 _ (Nat.lt_succ_self _) ⟨_, _, _, _, _, _, _, _, _, _, h160, rfl, pin, aJ7⟩
     replace h160 := itf h160 c
     try rw [c]
     refine go ?_;intros
     exact gy7 _ (Nat.lt_succ_self _) ⟨_, _, _, _, _, _, _, _, _, _, h160, rfl, pin, aJ7⟩
    replace h160 := itf h160 (by first | exact c | (have c2 := c; simp only [List.length_map] at c2; exact c2))
    try rw [c]
    refine go ?_;intros
    cases h160
    exact dd7 ⟨_, _, _, _, _, _, pin, aJ7⟩
   replace h160 := itf h160 c
   rw [c]
   refine go ?_;intros
   cases h160
   exact dd7 ⟨_, _, _, _, _, _, pin, aJ7⟩
 rintro t o ⟨b147, c148, b149, b151, c152, b153, pq1, pq2⟩
 refine hQ7 pq1 pq2 ?_
 obtain ⟨x154, h155, h⟩ := bnd h
 refine go ?_;intros
 refine an7 (c := qM7) ((⟨x3.1, q109.2⟩ : aL7)) H_dq9 h155 fun ch => ?_
 refine go ?_;intros
 refine as7 rfl (fun c => ?_) (fun c => ?_)
 ·replace h := itt h c
  try rw [c]
  obtain ⟨x156, h157, h⟩ := bnd h
  refine go ?_;intros
  refine ao7 (c := rt7) ((⟨a0.b, q109.1⟩ : Rd), g0, g1) H_ef9 h157 fun ch => ?_
  refine go ?_;intros
  cases h
  exact aY7
 replace h := itf h c
 try rw [c]
 refine go ?_;intros
 cases h
 exact aY7
end Go.Proofs.AM
