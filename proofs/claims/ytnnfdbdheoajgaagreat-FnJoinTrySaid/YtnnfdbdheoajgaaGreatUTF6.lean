/- Lemmas of the proof (UTF6), on an abstract machine. Conditions: none. -/
import Derived.Test.YtnnfdbdheoajgaaGreatUTD
set_option linter.unusedVariables false
set_option linter.unusedSimpArgs false
set_option maxRecDepth 100000
set_option maxHeartbeats 4000000
namespace Go.Proofs.AM
attribute [local irreducible] vwp c27 bH7 f37 vdo jL7 na7 j57 f47 mn7 lg7 bO7 e17 kj7 fd7 j47 mc7 mb7
theorem O37 : OkC [sA7] EH7 Kt7 Ku7 := by
 refine ok fun G H ⟨a0, a1, a2⟩ r h => ?_
 have H_aw9 := H _ (.head _)
 replace H := oo7 0 H
 refine st1 fun bs t o => ?_
 dsimp only [qT7] at h
 try (refine gx ?_; intros; rename_i h)
 obtain ⟨x5, h6, h⟩ := bnd h
 refine bX7 (c := sA7) (a1, a0) H_aw9 h6 fun ch => ?_
 try (refine gx ?_; intros; rename_i h)
 obtain ⟨x7, h8, h⟩ := bnd h
 refine bX7 (c := sA7) (a2, a0) H_aw9 h8 fun ch => ?_
 try (refine gx ?_; intros; rename_i h)
 obtain ⟨x9, h10, h⟩ := bnd h
 refine bX7 (c := sA7) (a1, a2) H_aw9 h10 fun ch => ?_
 exact cls
theorem O47 : OkC [vy7] EI7 Kv7 Kw7 := by
 refine ok fun G H ⟨a0, a1, a2⟩ r h => ?_
 have H_ac9 := H _ (.head _)
 replace H := oo7 0 H
 refine st1 fun bs t o => ?_
 dsimp only [qU7] at h
 try (refine gx ?_; intros; rename_i h)
 obtain ⟨x5, h6, h⟩ := bnd h
 refine bX7 (c := vy7) (a1, a0) H_ac9 h6 fun ch => ?_
 try (refine gx ?_; intros; rename_i h)
 obtain ⟨x7, h8, h⟩ := bnd h
 refine bX7 (c := vy7) (a2, a0) H_ac9 h8 fun ch => ?_
 try (refine gx ?_; intros; rename_i h)
 obtain ⟨x9, h10, h⟩ := bnd h
 refine bX7 (c := vy7) (a1, a2) H_ac9 h10 fun ch => ?_
 exact cls
theorem O57 : OkC [z97, EH7, EE7, z87, Ae7, Aj7, Ew7, EF7, EI7, xQ7, xS7] EJ7 Kx7 Ky7 := by
 refine ok fun G H ⟨a0, a1, a2⟩ r h => ?_
 have H_ct9 := H _ (.tail _ (.tail _ (.tail _ (.tail _ (.tail _ (.tail _ (.tail _ (.tail _ (.tail _ (.tail _ (.head _)))))))))))
 replace H := oo7 10 H
 refine st1 fun bs t o => ?_
 dsimp only [qV7] at h
 try (refine gx ?_; intros; rename_i h)
 obtain ⟨q6, hq, h⟩ := bnd h
 refine bi7 [3, 4, 5, 6, 8] [24, 32, 40, 1000770, 1000771, 48, 200] (fun K J t o => PP ((52, .v (.bool q6)) :: K) J t o) ?_ ?_
 ·have h := hq
  exact cls
 rintro t o pq
 refine pn pq ?_
 try (refine gx ?_; intros; rename_i h)
 obtain ⟨q16, hq, h⟩ := bnd h
 refine bi7 [3, 4, 5, 6, 8, 9] [24, 32, 40, 1000770, 1000771, 48, 200, 1001154, 1001155, 72] (fun K J t o => ∃ b23, PP ((10, .ptr 80 b23 226 0 0) :: (11, .v (.bool q16.1)) :: K) ((80, ⟨b23, 1, 226, true, [[.v (.int .i64 q16.2.1), .sl false 2 (List.map ePt q16.2.2)]]⟩) :: J) t o) ?_ ?_
 ·have h := hq
  exact cls
 rintro t o ⟨b23, pq⟩
 refine pn pq ?_
 try (refine gx ?_; intros; rename_i h)
 obtain ⟨q47, hq, h⟩ := bnd h
 refine bi7 [3, 4, 5, 6, 9] [24, 32, 40, 1000770, 1000771, 48, 1001154, 1001155, 72] (fun K J t o => ∃ b72 c73 b76, PP ((8, .ref 200 b72 c73 0 q47.1.length 49) :: (10, .ptr 80 b76 226 0 0) :: K) ((200, ent b72 c73 49 (List.map cv7 q47.1)) :: (80, ⟨b76, 1, 226, true, [[.v (.int .i64 q47.2.1), .sl false 2 (List.map ePt q47.2.2)]]⟩) :: J) t o) ?_ ?_
 ·have h := hq
  try (refine gx ?_; intros; rename_i h)
  obtain ⟨q55, hq, h⟩ := bnd h
  refine bi7 [3, 4, 5, 6, 8, 9] [24, 32, 40, 1000770, 1000771, 48, 200, 1001154, 1001155, 72] (fun K J t o => ∃ b66, PP ((10, .ptr 80 b66 226 0 0) :: (12, .v (.bool q55.1)) :: K) ((80, ⟨b66, 1, 226, true, [[.v (.int .i64 q55.2.1), .sl false 2 (List.map ePt q55.2.2)]]⟩) :: J) t o) ?_ ?_
  ·have h := hq
   exact cls
  rintro t o ⟨b66, pq⟩
  refine pn pq ?_
  exact cls
 rintro t o ⟨b72, c73, b76, pq⟩
 refine pn pq ?_
 refine gx fun x77 h78 x83 h84 => ?_; intros; rename_i h
 obtain ⟨hf, h⟩ := gd h
 obtain ⟨q112, hq, h⟩ := bnd h
 refine ae7 [3, 4, 5, 6, 8, 9] [24, 32, 40, 1000770, 1000771, 48, 200, 1001154, 1001155, 72] (fun K J t o => ∃ b132 c133, PP ((16, .ref 952 b132 c133 0 q112.length 49) :: K) ((952, ent b132 c133 49 (List.map cv7 q112)) :: J) t o) ?_ ?_
 ·refine aR7 (xs := x83) [3, 4, 5, 6, 8, 9, 127, 128] [24, 32, 40, 1000770, 1000771, 48, 200, 1001154, 1001155, 72, 1016] 0 hf (fun K J l119 k117 t o => ∃ v114 b115 c116, jW7 l119 k117 v114 = some q112 ∧ PP ((16, .ref 952 b115 c116 0 v114.length 49) :: (129, .v (.int .i64 (k117 : Int))) :: K) ((952, ent b115 c116 49 (List.map cv7 v114)) :: J) t o) ?_ ?_ ?_
  ·exact ⟨_, _, _, hq, pin, aE7⟩
  ·rintro k117 t o hlt ⟨v114, b115, c116, h, pq⟩
   refine pn pq ?_
   rw [jW7] at h
   exact cls
  rintro x118 l119 k117 t o hlt hx123 hw hd ⟨v114, b115, c116, h, pq⟩
  refine pn pq ?_
  rw [jW7] at h
  exact cls
 rintro t o ⟨b132, c133, pq⟩
 refine pnq pq ?_
 try (refine gx ?_; intros; rename_i h)
 obtain ⟨x134, h135, h⟩ := bnd h
 have L135 := JU7 h135; (try dsimp only at L135); refine al7 (c := xS7) (q112) H_ct9 h135 fun ch => ?_; rw [← L135]
 refine gx fun x136 h137 => ?_; intros; rename_i h
 obtain ⟨hf, h⟩ := gd h
 obtain ⟨q256, hq, h⟩ := bnd h
 refine ae7 [4, 6] [32, 1000770, 1000771, 48] (fun K J t o => ∃ b309 c310 b79 c80 b312 c313 b314, PP ((8, .ref 200 b309 c310 0 q256.1.length 49) :: (9, .ptr 72 b314 100 0 0) :: K) ((200, ent b309 c310 49 (List.map cv7 q256.1)) :: (1001154, ent b79 c80 66 (List.map ePt x77.pts)) :: (1001155, ent b312 c313 82 (List.map bb7 q256.2)) :: (72, ⟨b314, 1, 100, true, [[.v (.string a1.id), .v (.int .i64 x77.kind), .al 1001154 b79 c80 0 x77.pts.length 66, .al 1001155 b312 c313 0 q256.2.length 82]]⟩) :: J) t o) ?_ ?_
 ·refine aR7 (xs := x136) [3, 4, 5, 6, 142, 143] [24, 32, 40, 1000770, 1000771, 48, 1136] 0 hf (fun K J l267 k265 t o => ∃ v258 v261 b259 c260 b79 c80 b262 c263 b264, dD7 a1 a2 a0 l267 k265 v258 v261 = some q256 ∧ PP ((8, .ref 200 b259 c260 0 v258.length 49) :: (9, .ptr 72 b264 100 0 0) :: (144, .v (.int .i64 (k265 : Int))) :: K) ((200, ent b259 c260 49 (List.map cv7 v258)) :: (1001154, ent b79 c80 66 (List.map ePt x77.pts)) :: (1001155, ent b262 c263 82 (List.map bb7 v261)) :: (72, ⟨b264, 1, 100, true, [[.v (.string a1.id), .v (.int .i64 x77.kind), .al 1001154 b79 c80 0 x77.pts.length 66, .al 1001155 b262 c263 0 v261.length 82]]⟩) :: J) t o) ?_ ?_ ?_
  ·exact ⟨_, _, _, _, _, _, _, _, _, hq, pin, aE7⟩
  ·rintro k265 t o hlt ⟨v258, v261, b259, c260, b79, c80, b262, c263, b264, h, pq⟩
   refine pn pq ?_
   rw [dD7] at h
   exact cls
  rintro x266 l267 k265 t o hlt hx271 hw hd ⟨v258, v261, b259, c260, b79, c80, b262, c263, b264, h, pq⟩
  refine pn pq ?_
  rw [dD7] at h
  refine gx fun x274 h275 x276 h277 x280 h281 x282 h283 => ?_; intros; rename_i h
  obtain ⟨q291, hq, h⟩ := bnd h
  refine bi7 [3, 4, 5, 6, 9, 20, 142, 143, 144] [24, 32, 40, 1000770, 1000771, 48, 1001154, 1001155, 72, 1136] (fun K J t o => ∃ b299 c300 b303, PP ((8, .ref 200 b299 c300 0 q291.1.length 49) :: (23, .ptr 184 b303 306 0 0) :: K) ((200, ent b299 c300 49 (List.map cv7 q291.1)) :: (184, ⟨b303, 1, 306, true, [[.v (.bool q291.2.1), .v (.string q291.2.2)]]⟩) :: J) t o) ?_ ?_
  ·have h := hq
   exact cls
  rintro t o ⟨b299, c300, b303, pq⟩
  refine pn pq ?_
  exact cls
 rintro t o ⟨b309, c310, b79, c80, b312, c313, b314, pq⟩
 refine pnq pq ?_
 exact cls
theorem O67 : OkC [Ev7] vA7 Kz7 KA7 := by
 refine ok fun G H ⟨a0, a1, a2⟩ r h => ?_
 refine st1 fun bs t o => ?_
 dsimp only [lG7] at h
 exact cls
theorem O77 : OkC [vz7] EK7 KB7 KC7 := by
 refine ok fun G H ⟨a0, a1, a2⟩ r h => ?_
 have H_bq9 := H _ (.head _)
 replace H := oo7 0 H
 refine st1 fun bs t o => ?_
 dsimp only [qW7] at h
 try (refine gx ?_; intros; rename_i h)
 obtain ⟨q5, hq, h⟩ := bnd h
 refine bi7 [3, 4, 5, 6, 8] [32, 40, 48, 1001027, 1001028, 64] (fun K J t o => PP ((10, .v (.bool q5)) :: K) J t o) ?_ ?_
 ·have h := hq
  try (refine gx ?_; intros; rename_i h)
  obtain ⟨x6, h7, h⟩ := bnd h
  refine bX7 (c := vz7) (a1, a0) H_bq9 h7 fun ch => ?_
  exact cls
 rintro t o pq
 refine pn pq ?_
 try (refine gx ?_; intros; rename_i h)
 obtain ⟨x9, h10, h⟩ := bnd h
 refine bX7 (c := vz7) (a2, a0) H_bq9 h10 fun ch => ?_
 try (refine gx ?_; intros; rename_i h)
 obtain ⟨x11, h12, h⟩ := bnd h
 refine bX7 (c := vz7) (a1, a2) H_bq9 h12 fun ch => ?_
 exact cls
theorem O87 : OkC [Ab7, Ak7, EG7, EK7, EJ7, xQ7] EL7 KD7 KE7 := by
 refine ok fun G H ⟨a0, a1, a2⟩ r h => ?_
 refine st1 fun bs t o => ?_
 dsimp only [qX7] at h
 refine gx fun x3 h4 x5 h6 x7 h8 x10 h11 => ?_; intros; rename_i h
 obtain ⟨hf, h⟩ := gd h
 obtain ⟨q714, hq, h⟩ := bnd h
 refine ae7 [] [] (fun K J t o => ∃ b961 c962 b964 c965, PP ((9, .ref 176 b961 c962 0 q714.1.length 178) :: (10, .ref 184 b964 c965 0 q714.2.length 100) :: K) ((176, ent b961 c962 178 (List.map bh7 q714.1)) :: (184, ent b964 c965 100 (List.map (aj7 true) q714.2)) :: J) t o) ?_ ?_
 ·refine aR7 (xs := x10) [0, 1, 2, 43, 44] [344] 0 hf (fun K J l724 k722 t o => ∃ v716 v719 b717 c718 b720 c721, dE7 a0 a1 a2 l724 k722 v716 v719 = some q714 ∧ PP ((9, .ref 176 b717 c718 0 v716.length 178) :: (10, .ref 184 b720 c721 0 v719.length 100) :: (45, .v (.int .i64 (k722 : Int))) :: K) ((176, ent b717 c718 178 (List.map bh7 v716)) :: (184, ent b720 c721 100 (List.map (aj7 true) v719)) :: J) t o) ?_ ?_ ?_
  ·exact ⟨_, _, _, _, _, _, hq, pin, aE7⟩
  ·rintro k722 t o hlt ⟨v716, v719, b717, c718, b720, c721, h, pq⟩
   refine pn pq ?_
   rw [dE7] at h
   exact cls
  rintro x723 l724 k722 t o hlt hx728 hw hd ⟨v716, v719, b717, c718, b720, c721, h, pq⟩
  refine pn pq ?_
  rw [dE7] at h
  try (refine gx ?_; intros; rename_i h)
  obtain ⟨q731, hq, h⟩ := bnd h
  refine bi7 [0, 1, 2, 9, 10, 12, 43, 44, 45] [176, 184, 344] (fun K J t o => ∃ b758 b764 b770, PP ((13, .ptr 104 b758 325 0 0) :: (14, .ptr 112 b764 325 0 0) :: (15, .ptr 120 b770 325 0 0) :: K) ((104, ⟨b758, 1, 325, true, [[.v (.bool q731.1), .v (.string q731.2.1), .v (.int .i64 q731.2.2.1), .sl false 2 (List.map ePt q731.2.2.2.1), .sl false 2 (List.map bb7 q731.2.2.2.2.1)]]⟩) :: (112, ⟨b764, 1, 325, true, [[.v (.bool q731.2.2.2.2.2.1), .v (.string q731.2.2.2.2.2.2.1), .v (.int .i64 q731.2.2.2.2.2.2.2.1), .sl false 2 (List.map ePt q731.2.2.2.2.2.2.2.2.1), .sl false 2 (List.map bb7 q731.2.2.2.2.2.2.2.2.2.1)]]⟩) :: (120, ⟨b770, 1, 325, true, [[.v (.bool q731.2.2.2.2.2.2.2.2.2.2.1), .v (.string q731.2.2.2.2.2.2.2.2.2.2.2.1), .v (.int .i64 q731.2.2.2.2.2.2.2.2.2.2.2.2.1), .sl false 2 (List.map ePt q731.2.2.2.2.2.2.2.2.2.2.2.2.2.1), .sl false 2 (List.map bb7 q731.2.2.2.2.2.2.2.2.2.2.2.2.2.2)]]⟩) :: J) t o) ?_ ?_
  ·have h := hq
   exact cls
  rintro t o ⟨b758, b764, b770, pq⟩
  refine pn pq ?_
  refine gx fun x771 h772 => ?_; intros; rename_i h
  obtain ⟨q857, hq, h⟩ := bnd h
  refine bi7 [0, 1, 2, 10, 43, 44, 45] [184, 344] (fun K J t o => ∃ b942 c943 b949, PP ((9, .ref 176 b942 c943 0 q857.1.length 178) :: (16, .ptr 128 b949 325 0 0) :: K) ((176, ent b942 c943 178 (List.map bh7 q857.1)) :: (128, ⟨b949, 1, 325, true, [[.v (.bool q857.2.1), .v (.string q857.2.2.1), .v (.int .i64 q857.2.2.2.1), .sl false 2 (List.map ePt q857.2.2.2.2.1), .sl false 2 (List.map bb7 q857.2.2.2.2.2)]]⟩) :: J) t o) ?_ ?_
  ·have h := hq
   try (refine gx ?_; intros; rename_i h)
   refine L87 h rfl rfl (fun h c => ?_) fun h c => ?_
   ·try rw [c]
    try (refine gx ?_; intros; rename_i h)
    obtain ⟨q858, hq, h⟩ := bnd h
    refine bi7 [0, 1, 2, 9, 10, 12, 14, 15, 43, 44, 45] [176, 184, 112, 120, 344] (fun K J t o => ∃ b859, PP ((16, .ptr 128 b859 325 0 0) :: K) ((128, ⟨b859, 1, 325, true, [[.v (.bool q731.2.2.2.2.2.1), .v (.string q731.2.2.2.2.2.2.1), .v (.int .i64 q731.2.2.2.2.2.2.2.1), .sl false 2 (List.map ePt q731.2.2.2.2.2.2.2.2.1), .sl false 2 (List.map bb7 q731.2.2.2.2.2.2.2.2.2.1)]]⟩) :: J) t o) ?_ ?_
    ·have h := hq
     exact cls
    rintro t o ⟨b859, pq⟩
    refine pn pq ?_
    exact cls
   try rw [c]
   try (refine gx ?_; intros; rename_i h)
   refine cnd h rfl rfl (fun h c => ?_) fun h c => ?_
   ·try rw [c]
    try (refine gx ?_; intros; rename_i h)
    obtain ⟨q868, hq, h⟩ := bnd h
    refine bi7 [0, 1, 2, 9, 10, 12, 14, 15, 43, 44, 45, 97, 98, 99] [176, 184, 112, 120, 344] (fun K J t o => ∃ b869, PP ((16, .ptr 128 b869 325 0 0) :: K) ((128, ⟨b869, 1, 325, true, [[.v (.bool q731.2.2.2.2.2.1), .v (.string q731.2.2.2.2.2.2.1), .v (.int .i64 q731.2.2.2.2.2.2.2.1), .sl false 2 (List.map ePt q731.2.2.2.2.2.2.2.2.1), .sl false 2 (List.map bb7 q731.2.2.2.2.2.2.2.2.2.1)]]⟩) :: J) t o) ?_ ?_
    ·have h := hq
     exact cls
    rintro t o ⟨b869, pq⟩
    refine pn pq ?_
    exact cls
   try rw [c]
   try (refine gx ?_; intros; rename_i h)
   obtain ⟨q882, hq, h⟩ := bnd h
   refine bi7 [0, 1, 2, 9, 10, 12, 16, 43, 44, 45, 97, 98, 99] [176, 184, 128, 344, 120] (fun K J t o => ∃ b897, PP ((18, .ptr 144 b897 100 0 0) :: (19, .ro (List.map cv7 q882.1)) :: K) ((144, ⟨b897, 1, 100, true, [[.v (.string q882.2.1), .v (.int .i64 q882.2.2.1), .sl false 2 (List.map ePt q882.2.2.2.1), .sl false 2 (List.map bb7 q882.2.2.2.2)]]⟩) :: J) t o) ?_ ?_
   ·have h := hq
    exact cls
   rintro t o ⟨b897, pq⟩
   refine pn pq ?_
   try (refine gx ?_; intros; rename_i h)
   obtain ⟨hf, h⟩ := gd h
   obtain ⟨q920, hq, h⟩ := bnd h
   refine ae7 [0, 1, 2, 10, 16, 43, 44, 45, 97, 98, 99] [184, 128, 344, 120] (fun K J t o => ∃ b939 c940, PP ((9, .ref 176 b939 c940 0 q920.length 178) :: K) ((176, ent b939 c940 178 (List.map bh7 q920)) :: J) t o) ?_ ?_
   ·refine aR7 (xs := q882.1) [0, 1, 2, 10, 12, 16, 43, 44, 45, 77, 78, 97, 98, 99] [184, 128, 344, 120] 0 hf (fun K J l927 k925 t o => ∃ v922 b923 c924, eq7 x723 l927 k925 v922 = some q920 ∧ PP ((9, .ref 176 b923 c924 0 v922.length 178) :: (79, .v (.int .i64 (k925 : Int))) :: K) ((176, ent b923 c924 178 (List.map bh7 v922)) :: J) t o) ?_ ?_ ?_
    ·exact ⟨_, _, _, hq, pin, aE7⟩
    ·rintro k925 t o hlt ⟨v922, b923, c924, h, pq⟩
     refine pn pq ?_
     rw [eq7] at h
     exact cls
    rintro x926 l927 k925 t o hlt hx931 hw hd ⟨v922, b923, c924, h, pq⟩
    refine pn pq ?_
    rw [eq7] at h
    exact cls
   rintro t o ⟨b939, c940, pq⟩
   refine pnq pq ?_
   exact cls
  rintro t o ⟨b942, c943, b949, pq⟩
  refine pn pq ?_
  exact cls
 rintro t o ⟨b961, c962, b964, c965, pq⟩
 refine pnq pq ?_
 exact cls
theorem O97 : OkC [vA7, EL7] xT7 KF7 KG7 := by
 refine ok fun G H ⟨a0, a1, a2⟩ r h => ?_
 refine st1 fun bs t o => ?_
 dsimp only [nE7] at h
 exact cls
theorem Pa7 : OkC [] EM7 KH7 KI7 := by
 refine ok fun G H ⟨a0, g0, g1⟩ r h => ?_
 refine st1 fun bs t o => ?_
 dsimp only [qY7] at h
 try (refine gx ?_; intros; rename_i h)
 obtain ⟨x1, h2, h⟩ := bnd h
 refine tx7 (f := eU8) rfl rfl rfl h2 ?_
 exact cls
theorem Pb7 : OkC [] cg7 KJ7 KK7 := by
 refine ok fun G H ⟨a0, a1, g0, g1⟩ r h => ?_
 refine st1 fun bs t o => ?_
 dsimp only [bv7] at h
 refine go ?_;intros
 refine aG7 rfl (fun c => ?_) (fun c => ?_)
 ·replace h := itt h c
  rw [c]
  refine go ?_;intros
  cases h
  exact aV7
 replace h := itf h c
 rw [c]
 refine go ?_;intros
 refine au7 rfl (fun c => ?_) (fun c => ?_)
 ·replace h := itt h (by first | exact c | (have c2 := c; simp only [List.length_map] at c2; exact c2))
  try rw [c]
  refine go ?_;intros
  cases h
  exact aV7
 replace h := itf h (by first | exact c | (have c2 := c; simp only [List.length_map] at c2; exact c2))
 try rw [c]
 refine go ?_;intros
 refine au7 rfl (fun c => ?_) (fun c => ?_)
 ·replace h := itt h (by first | exact c | (have c2 := c; simp only [List.length_map] at c2; exact c2))
  try rw [c]
  obtain ⟨x1, h2, h⟩ := bnd h
  refine go ?_;intros
  refine f57 rfl rfl h2 rfl ?_
  obtain ⟨x3, h4, h⟩ := bnd h
  refine go ?_;intros
  refine h07 rfl rfl h4 ?_
  refine go ?_;intros
  cases h
  exact aV7
 replace h := itf h (by first | exact c | (have c2 := c; simp only [List.length_map] at c2; exact c2))
 try rw [c]
 obtain ⟨x5, h6, h⟩ := bnd h
 refine go ?_;intros
 refine h07 rfl rfl h6 ?_
 obtain ⟨x7, h8, h⟩ := bnd h
 refine go ?_;intros
 refine f57 rfl rfl h8 rfl ?_
 obtain ⟨x9, h10, h⟩ := bnd h
 refine go ?_;intros
 refine h07 rfl rfl h10 ?_
 obtain ⟨x11, h12, h⟩ := bnd h
 refine go ?_;intros
 refine f57 rfl rfl h12 rfl ?_
 obtain ⟨x13, h14, h⟩ := bnd h
 refine go ?_;intros
 refine w17 rfl rfl h14 ?_
 refine go ?_;intros
 refine w27 rfl rfl ?_
 obtain ⟨x15, h16, h⟩ := bnd h
 refine go ?_;intros
 refine h07 rfl rfl h16 ?_
 refine go ?_;intros
 cases h
 exact aV7
theorem Pc7 : OkC [cg7] ms7 KL7 KM7 := by
 refine ok fun G H ⟨a0, a1, g0, g1⟩ r h => ?_
 refine st1 fun bs t o => ?_
 dsimp only [gq7] at h
 exact cls
theorem Pd7 : OkC [ms7] sC7 KN7 KO7 := by
 refine ok fun G H ⟨a0, g0, g1⟩ r h => ?_
 refine st1 fun bs t o => ?_
 dsimp only [lH7] at h
 exact cls
theorem Pe7 : OkC [ms7] xU7 KP7 KQ7 := by
 refine ok fun G H ⟨a0, g0, g1⟩ r h => ?_
 refine st1 fun bs t o => ?_
 dsimp only [nF7] at h
 exact cls
theorem Pf7 : OkC [ms7] xV7 KR7 KS7 := by
 refine ok fun G H ⟨a0, g0, g1⟩ r h => ?_
 refine st1 fun bs t o => ?_
 dsimp only [nG7] at h
 exact cls
theorem Pg7 : OkC [cg7] mt7 KT7 KU7 := by
 refine ok fun G H ⟨a0, a1, g0, g1⟩ r h => ?_
 refine st1 fun bs t o => ?_
 dsimp only [in7] at h
 exact cls
theorem Ph7 : OkC [cg7, mt7] qZ7 KV7 KW7 := by
 refine ok fun G H ⟨a0, g0, g1⟩ r h => ?_
 refine st1 fun bs t o => ?_
 dsimp only [hc7] at h
 exact cls
theorem Pi7 : OkC [] Al7 KX7 KY7 := by
 refine ok fun G H ⟨a0, a1⟩ r h => ?_
 refine st1 fun bs t o => ?_
 dsimp only [q07] at h
 exact cls
theorem Pj7 : OkC [mt7, cg7, Al7, qZ7, qj7] xW7 KZ7 K07 := by
 refine ok fun G H ⟨a0, g0, g1⟩ r h => ?_
 have H_dl9 := H _ (.head _)
 have H_dn9 := H _ (.tail _ (.head _))
 have H_dr9 := H _ (.tail _ (.tail _ (.head _)))
 have H_dt9 := H _ (.tail _ (.tail _ (.tail _ (.head _))))
 have H_de9 := H _ (.tail _ (.tail _ (.tail _ (.tail _ (.head _)))))
 refine st1 fun bs t o => ?_
 dsimp only [nH7] at h
 obtain ⟨x3, h4, h⟩ := bnd h
 refine go ?_;intros
 refine al7 (c := mt7) (a0, ([1, 2, 2, 3, 3] : (List Int)), g0, g1) H_dl9 h4 fun ch => ?_
 obtain ⟨x6, h7, h⟩ := bnd h
 refine go ?_;intros
 refine al7 (c := cg7) ((⟨a0.b, x3.2⟩ : Rd), 4, g0, g1) H_dn9 h7 fun ch => ?_
 obtain ⟨q8, h159, h⟩ := bnd h
 refine go ?_;intros
 refine dv7 (fun t o => ∃ b10 c11 b12 b13 c14 b15, Pin t (ovr [(0, .ptr 0 (bs 0).1 290 0 0), (2, .ptr 16 b12 226 0 0), (3, .ptr 24 b15 226 0 0), (4, .v (.int .i64 q8))] t) ∧ eY7 o (ovh [(0, ⟨(bs 0).1, (bs 0).2, 290, true, [[.rw g0 g1 (List.map eU8 a0.b), .v (.int .i64 x6.2)]]⟩), (1000257, ent b10 c11 66 (List.map ePt [])), (16, ⟨b12, 1, 226, true, [[.v (.int .i64 0), .al 1000257 b10 c11 0 ([] : List Pt).length 66]]⟩), (1000385, ent b13 c14 66 (List.map ePt [])), (24, ⟨b15, 1, 226, true, [[.v (.int .i64 x3.1), .al 1000385 b13 c14 0 ([] : List Pt).length 66]]⟩)] o)) ?_ ?_
 ·refine go ?_;intros
  refine au7 rfl (fun c => ?_) (fun c => ?_)
  ·replace h159 := itt h159 c
   try rw [c]
   refine go ?_;intros
   cases h159
   exact cL7 ⟨_, _, _, _, _, _, pin, aE7⟩
  replace h159 := itf h159 c
  try rw [c]
  refine go ?_;intros
  cases h159
  exact cL7 ⟨_, _, _, _, _, _, pin, aE7⟩
 rintro t o ⟨b10, c11, b12, b13, c14, b15, pq1, pq2⟩
 refine bA7 pq1 pq2 ?_
 obtain ⟨q109, h160, h⟩ := bnd h
 refine go ?_;intros
 refine lh7 (fun t o => ∃ b147 c148 b149 b151 c152 b153, Pin t (ovr [(0, .ptr 0 (bs 0).1 290 0 0), (2, .ptr 16 b149 226 0 0), (3, .ptr 24 b153 226 0 0)] t) ∧ eY7 o (ovh [(0, ⟨(bs 0).1, (bs 0).2, 290, true, [[.rw g0 g1 (List.map eU8 a0.b), .v (.int .i64 q109.1)]]⟩), (1000257, ent b147 c148 66 (List.map ePt [])), (16, ⟨b149, 1, 226, true, [[.v (.int .i64 0), .al 1000257 b147 c148 0 ([] : List Pt).length 66]]⟩), (1000385, ent b151 c152 66 (List.map ePt q109.2)), (24, ⟨b153, 1, 226, true, [[.v (.int .i64 x3.1), .al 1000385 b151 c152 0 q109.2.length 66]]⟩)] o)) ?_ ?_
 ·refine fe7 (fun n t o => ∃ n119 v110 v111 v115 b112 c113 b114 b116 c117 b118, dF7 q8 a0 x3 n119 v110 v111 v115 = some q109 ∧ n119 = n ∧ Pin t (ovr [(0, .ptr 0 (bs 0).1 290 0 0), (2, .ptr 16 b114 226 0 0), (3, .ptr 24 b118 226 0 0), (4, .v (.int .i64 q8)), (5, .v (.int .i64 v110))] t) ∧ eY7 o (ovh [(0, ⟨(bs 0).1, (bs 0).2, 290, true, [[.rw g0 g1 (List.map eU8 a0.b), .v (.int .i64 v111)]]⟩), (1000257, ent b112 c113 66 (List.map ePt [])), (16, ⟨b114, 1, 226, true, [[.v (.int .i64 0), .al 1000257 b112 c113 0 ([] : List Pt).length 66]]⟩), (1000385, ent b116 c117 66 (List.map ePt v115)), (24, ⟨b118, 1, 226, true, [[.v (.int .i64 x3.1), .al 1000385 b116 c117 0 v115.length 66]]⟩)] o)) _ ⟨_, _, _, _, _, _, _, _, _, _, h160, rfl, pin, aE7⟩ ?_
  rintro n t o ⟨n119, v110, v111, v115, b112, c113, b114, b116, c117, b118, h160, rfl, pq1, pq2⟩
  refine bA7 pq1 pq2 ?_
  cases n119 with
  | zero => rw [dF7] at h160; cases h160
  | succ n119 =>
   rw [dF7] at h160
   refine go ?_;intros
   refine aG7 rfl (fun c => ?_) (fun c => ?_)
   ·replace h160 := itt h160 c
    rw [c]
    obtain ⟨x120, h121, h160⟩ := bnd h160
    refine go ?_;intros
    refine az7 (c := Al7) (q8, 6) H_dr9 h121 fun ch => ?_
    refine go ?_;intros
    refine au7 rfl (fun c => ?_) (fun c => ?_)
    ·replace h160 := itt h160 (by first | exact c | (have c2 := c; simp only [List.length_map] at c2; exact c2))
     try rw [c]
     obtain ⟨x122, h123, h160⟩ := bnd h160
     refine go ?_;intros
     refine al7 (c := qZ7) ((⟨a0.b, v111⟩ : Rd), g0, g1) H_dt9 h123 fun ch => ?_
     obtain ⟨q129, h161, h160⟩ := bnd h160
     refine go ?_;intros
     refine dv7 (fun t o => ∃ b135 c136 b137 b138 c139 b140 b141, Pin t (ovr [(0, .ptr 0 (bs 0).1 290 0 0), (2, .ptr 16 b137 226 0 0), (3, .ptr 24 b140 226 0 0), (4, .v (.int .i64 q8)), (5, .v (.int .i64 v110)), (6, .ptr 48 b141 66 0 0), (23, .ptr 24 b140 226 0 1), (24, .ref 1000385 b138 c139 0 v115.length 66), (25, .v (.int .i64 (v115.length : Int))), (26, .v (.int .i64 q8)), (27, .v (.int .i64 x120)), (28, .v (.bool true)), (61, .v (.bool q129))] t) ∧ eY7 o (ovh [(0, ⟨(bs 0).1, (bs 0).2, 290, true, [[.rw g0 g1 (List.map eU8 a0.b), .v (.int .i64 x122.2)]]⟩), (1000257, ent b135 c136 66 (List.map ePt [])), (16, ⟨b137, 1, 226, true, [[.v (.int .i64 0), .al 1000257 b135 c136 0 ([] : List Pt).length 66]]⟩), (1000385, ent b138 c139 66 (List.map ePt v115)), (24, ⟨b140, 1, 226, true, [[.v (.int .i64 x3.1), .al 1000385 b138 c139 0 v115.length 66]]⟩), (48, ⟨b141, 1, 66, true, [[.v (.int .i64 x122.1.x), .v (.int .i64 x122.1.y)]]⟩)] o)) ?_ ?_
     ·refine go ?_;intros
      refine aG7 rfl (fun c => ?_) (fun c => ?_)
      ·replace h161 := itt h161 (by first | exact c | (have c2 := c; simp only [List.length_map] at c2; exact c2))
       rw [c]
       refine go ?_;intros
       cases h161
       exact cL7 ⟨_, _, _, _, _, _, _, pin, aE7⟩
      replace h161 := itf h161 (by first | exact c | (have c2 := c; simp only [List.length_map] at c2; exact c2))
      rw [c]
      obtain ⟨x130, h131, h161⟩ := bnd h161
      refine go ?_;intros
      refine gk7 (xs := v115) rfl rfl h131 rfl ?_
      refine go ?_;intros
      refine oi7 (f := ePt) (xs := v115) (x := x130) rfl rfl (a17 h131).2 rfl rfl rfl ?_
      refine go ?_;intros
      refine aG7 rfl (fun c => ?_) (fun c => ?_)
      ·replace h161 := itt h161 c
       rw [c]
       refine go ?_;intros
       refine aG7 rfl (fun c => ?_) (fun c => ?_)
       ·replace h161 := itt h161 c
        rw [c]
        refine go ?_;intros
        cases h161
        exact cL7 ⟨_, _, _, _, _, _, _, pin, aE7⟩
       replace h161 := itf h161 c
       rw [c]
       obtain ⟨x132, h133, h161⟩ := bnd h161
       refine go ?_;intros
       refine gk7 (xs := v115) rfl rfl h133 rfl ?_
       refine go ?_;intros
       refine oi7 (f := ePt) (xs := v115) (x := x132) rfl rfl (a17 h133).2 rfl rfl rfl ?_
       refine go ?_;intros
       cases h161
       exact cL7 ⟨_, _, _, _, _, _, _, pin, aE7⟩
      replace h161 := itf h161 c
      rw [c]
      refine go ?_;intros
      cases h161
      exact cL7 ⟨_, _, _, _, _, _, _, pin, aE7⟩
     rintro t o ⟨b135, c136, b137, b138, c139, b140, b141, pq1, pq2⟩
     refine bA7 pq1 pq2 ?_
     refine go ?_;intros
     refine au7 rfl (fun c => ?_) (fun c => ?_)
     ·replace h160 := itt h160 c
      try rw [c]
      obtain ⟨h145, h160⟩ := gd h160
      refine go ?_;intros
      refine dX7 (f := ePt) (xs := v115) (ys := ([x122.1] : (List Pt))) rfl (eN7 rfl rfl (by first | rfl | simp)) rfl rfl (by first | rfl | simp) h145 fun b143 c144 => ?_
      refine go ?_;intros
      exact gl7 _ (Nat.lt_succ_self _) ⟨_, _, _, _, _, _, _, _, _, _, h160, rfl, pin, aE7⟩
     replace h160 := itf h160 c
     try rw [c]
     refine go ?_;intros
     exact gl7 _ (Nat.lt_succ_self _) ⟨_, _, _, _, _, _, _, _, _, _, h160, rfl, pin, aE7⟩
    replace h160 := itf h160 (by first | exact c | (have c2 := c; simp only [List.length_map] at c2; exact c2))
    try rw [c]
    refine go ?_;intros
    cases h160
    exact cL7 ⟨_, _, _, _, _, _, pin, aE7⟩
   replace h160 := itf h160 c
   rw [c]
   refine go ?_;intros
   cases h160
   exact cL7 ⟨_, _, _, _, _, _, pin, aE7⟩
 rintro t o ⟨b147, c148, b149, b151, c152, b153, pq1, pq2⟩
 refine hA7 pq1 pq2 ?_
 obtain ⟨x154, h155, h⟩ := bnd h
 refine go ?_;intros
 refine az7 (c := qj7) ((⟨x3.1, q109.2⟩ : aD7)) H_de9 h155 fun ch => ?_
 refine go ?_;intros
 refine au7 rfl (fun c => ?_) (fun c => ?_)
 ·replace h := itt h c
  try rw [c]
  obtain ⟨x156, h157, h⟩ := bnd h
  refine go ?_;intros
  refine al7 (c := qZ7) ((⟨a0.b, q109.1⟩ : Rd), g0, g1) H_dt9 h157 fun ch => ?_
  refine go ?_;intros
  cases h
  exact aV7
 replace h := itf h c
 try rw [c]
 refine go ?_;intros
 cases h
 exact aV7
theorem Pk7 : OkC [xW7, cg7, xU7, xV7, vw7] sD7 K17 K27 := by
 refine ok fun G H ⟨a0, a1, g0, g1⟩ r h => ?_
 refine st1 fun bs t o => ?_
 dsimp only [lI7] at h
 refine gx fun x2 h3 x7 h8 => ?_; intros; rename_i h
 obtain ⟨q39, hq, h⟩ := bnd h
 refine ae7 [4] [1000514, 1000515, 32] (fun K J t o => ∃ b4 c5 b56 c57 b58, PP ((5, .ptr 40 b58 100 0 0) :: K) ((1000642, ent b4 c5 66 (List.map ePt x2.1.pts)) :: (1000643, ent b56 c57 82 (List.map bb7 q39.1)) :: (40, ⟨b58, 1, 100, true, [[.v (.string a1), .v (.int .i64 x2.1.kind), .al 1000642 b4 c5 0 x2.1.pts.length 66, .al 1000643 b56 c57 0 q39.1.length 82]]⟩) :: (0, ⟨(bs 0).1, (bs 0).2, 290, true, [[.rw g0 g1 (List.map eU8 a0.b), .v (.int .i64 q39.2)]]⟩) :: J) t o) ?_ ?_
 ·refine dw7 [4] [1000514, 1000515, 32] (fun K J n46 t o => ∃ v40 v41 v42 b4 c5 b43 c44 b45, er7 a0 n46 v40 v41 v42 = some q39 ∧ PP ((0, .ptr 0 (bs 0).1 290 0 0) :: (5, .ptr 40 b45 100 0 0) :: (6, .v (.int .i64 v40)) :: K) ((0, ⟨(bs 0).1, (bs 0).2, 290, true, [[.rw g0 g1 (List.map eU8 a0.b), .v (.int .i64 v41)]]⟩) :: (1000642, ent b4 c5 66 (List.map ePt x2.1.pts)) :: (1000643, ent b43 c44 82 (List.map bb7 v42)) :: (40, ⟨b45, 1, 100, true, [[.v (.string a1), .v (.int .i64 x2.1.kind), .al 1000642 b4 c5 0 x2.1.pts.length 66, .al 1000643 b43 c44 0 v42.length 82]]⟩) :: J) t o) ?_ ?_
  ·exact ⟨_, _, _, _, _, _, _, _, hq, pin, aE7⟩
  rintro n46 t o ⟨v40, v41, v42, b4, c5, b43, c44, b45, h, pq⟩
  refine pn pq ?_
  cases n46 with
  | zero => rw [er7] at h; cases h
  | succ n46 =>
   rw [er7] at h
   exact cls
 rintro t o ⟨b4, c5, b56, c57, b58, pq⟩
 refine pnq pq ?_
 exact cls
end Go.Proofs.AM
