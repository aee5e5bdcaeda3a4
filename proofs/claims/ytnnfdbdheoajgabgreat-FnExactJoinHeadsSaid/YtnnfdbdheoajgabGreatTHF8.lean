/- Lemmas of the proof (THF8), on an abstract machine. Conditions: none. -/
import Derived.Test.YtnnfdbdheoajgabGreatTHD
set_option linter.unusedVariables false
set_option linter.unusedSimpArgs false
set_option maxRecDepth 100000
set_option maxHeartbeats 4000000
namespace Go.Proofs.AM
attribute [local irreducible] vwp cM7 bF7 fN7 vdo i07 mF7 jF7 eX7 mr7 ku7 bJ7 eO7 j37 dN7 jt7 mq7 my7
theorem S27 : OkC [Bh7, Gt7, Gq7, Bg7, Bp7, Bv7, Gi7, Gr7, Gu7, wp7, y07] Gv7 NC7 ND7 := by
 refine ok fun G H ⟨a0, a1, a2⟩ r h => ?_
 have H_fa9 := H _ (.tail _ (.tail _ (.tail _ (.tail _ (.tail _ (.tail _ (.tail _ (.tail _ (.tail _ (.tail _ (.head _)))))))))))
 replace H := jJ7 10 H
 refine st1 fun bs t o => ?_
 dsimp only [rv7] at h
 try (refine gx ?_; intros; rename_i h)
 obtain ⟨q6, hq, h⟩ := bnd h
 refine a87 [3, 4, 5, 6, 8] [24, 32, 40, 1000770, 1000771, 48, 200] (fun K J t o => PP ((52, .v (.bool q6)) :: K) J t o) ?_ ?_
 ·have h := hq
  exact cls
 rintro t o pq
 refine pn pq ?_
 try (refine gx ?_; intros; rename_i h)
 obtain ⟨q16, hq, h⟩ := bnd h
 refine a87 [3, 4, 5, 6, 8, 9] [24, 32, 40, 1000770, 1000771, 48, 200, 1001154, 1001155, 72] (fun K J t o => ∃ b23, PP ((10, .ptr 80 b23 226 0 0) :: (11, .v (.bool q16.1)) :: K) ((80, ⟨b23, 1, 226, true, [[.v (.int .i64 q16.2.1), .sl false 2 (List.map ePt q16.2.2)]]⟩) :: J) t o) ?_ ?_
 ·have h := hq
  exact cls
 rintro t o ⟨b23, pq⟩
 refine pn pq ?_
 try (refine gx ?_; intros; rename_i h)
 obtain ⟨q47, hq, h⟩ := bnd h
 refine a87 [3, 4, 5, 6, 9] [24, 32, 40, 1000770, 1000771, 48, 1001154, 1001155, 72] (fun K J t o => ∃ b72 c73 b76, PP ((8, .ref 200 b72 c73 0 q47.1.length 49) :: (10, .ptr 80 b76 226 0 0) :: K) ((200, ent b72 c73 49 (List.map ca7 q47.1)) :: (80, ⟨b76, 1, 226, true, [[.v (.int .i64 q47.2.1), .sl false 2 (List.map ePt q47.2.2)]]⟩) :: J) t o) ?_ ?_
 ·have h := hq
  try (refine gx ?_; intros; rename_i h)
  obtain ⟨q55, hq, h⟩ := bnd h
  refine a87 [3, 4, 5, 6, 8, 9] [24, 32, 40, 1000770, 1000771, 48, 200, 1001154, 1001155, 72] (fun K J t o => ∃ b66, PP ((10, .ptr 80 b66 226 0 0) :: (12, .v (.bool q55.1)) :: K) ((80, ⟨b66, 1, 226, true, [[.v (.int .i64 q55.2.1), .sl false 2 (List.map ePt q55.2.2)]]⟩) :: J) t o) ?_ ?_
  ·have h := hq
   exact cls
  rintro t o ⟨b66, pq⟩
  refine pn pq ?_
  exact cls
 rintro t o ⟨b72, c73, b76, pq⟩
 refine pn pq ?_
 refine gx fun x77 h78 x83 h84 => ?_; intros; rename_i h
 obtain ⟨hf, h⟩ := gd h
 obtain ⟨q112, hq, h⟩ := bnd h
 refine ac7 [3, 4, 5, 6, 8, 9] [24, 32, 40, 1000770, 1000771, 48, 200, 1001154, 1001155, 72] (fun K J t o => ∃ b132 c133, PP ((16, .ref 952 b132 c133 0 q112.length 49) :: K) ((952, ent b132 c133 49 (List.map ca7 q112)) :: J) t o) ?_ ?_
 ·refine ay7 (xs := x83) [3, 4, 5, 6, 8, 9, 127, 128] [24, 32, 40, 1000770, 1000771, 48, 200, 1001154, 1001155, 72, 1016] 0 hf (fun K J l119 k117 t o => ∃ v114 b115 c116, jR7 l119 k117 v114 = some q112 ∧ PP ((16, .ref 952 b115 c116 0 v114.length 49) :: (129, .v (.int .i64 (k117 : Int))) :: K) ((952, ent b115 c116 49 (List.map ca7 v114)) :: J) t o) ?_ ?_ ?_
  ·exact ⟨_, _, _, hq, pin, aH7⟩
  ·rintro k117 t o hlt ⟨v114, b115, c116, h, pq⟩
   refine pn pq ?_
   rw [jR7] at h
   exact cls
  rintro x118 l119 k117 t o hlt hx123 hw hd ⟨v114, b115, c116, h, pq⟩
  refine pn pq ?_
  rw [jR7] at h
  exact cls
 rintro t o ⟨b132, c133, pq⟩
 refine pnq pq ?_
 try (refine gx ?_; intros; rename_i h)
 obtain ⟨x134, h135, h⟩ := bnd h
 have L135 := MZ7 h135; (try dsimp only at L135); refine bC7 (c := y07) (q112) H_fa9 h135 fun ch => ?_; rw [← L135]
 refine gx fun x136 h137 => ?_; intros; rename_i h
 obtain ⟨hf, h⟩ := gd h
 obtain ⟨q256, hq, h⟩ := bnd h
 refine ac7 [4, 6] [32, 1000770, 1000771, 48] (fun K J t o => ∃ b309 c310 b79 c80 b312 c313 b314, PP ((8, .ref 200 b309 c310 0 q256.1.length 49) :: (9, .ptr 72 b314 100 0 0) :: K) ((200, ent b309 c310 49 (List.map ca7 q256.1)) :: (1001154, ent b79 c80 66 (List.map ePt x77.pts)) :: (1001155, ent b312 c313 82 (List.map aX7 q256.2)) :: (72, ⟨b314, 1, 100, true, [[.v (.string a1.id), .v (.int .i64 x77.kind), .al 1001154 b79 c80 0 x77.pts.length 66, .al 1001155 b312 c313 0 q256.2.length 82]]⟩) :: J) t o) ?_ ?_
 ·refine ay7 (xs := x136) [3, 4, 5, 6, 142, 143] [24, 32, 40, 1000770, 1000771, 48, 1136] 0 hf (fun K J l267 k265 t o => ∃ v258 v261 b259 c260 b79 c80 b262 c263 b264, dt7 a1 a2 a0 l267 k265 v258 v261 = some q256 ∧ PP ((8, .ref 200 b259 c260 0 v258.length 49) :: (9, .ptr 72 b264 100 0 0) :: (144, .v (.int .i64 (k265 : Int))) :: K) ((200, ent b259 c260 49 (List.map ca7 v258)) :: (1001154, ent b79 c80 66 (List.map ePt x77.pts)) :: (1001155, ent b262 c263 82 (List.map aX7 v261)) :: (72, ⟨b264, 1, 100, true, [[.v (.string a1.id), .v (.int .i64 x77.kind), .al 1001154 b79 c80 0 x77.pts.length 66, .al 1001155 b262 c263 0 v261.length 82]]⟩) :: J) t o) ?_ ?_ ?_
  ·exact ⟨_, _, _, _, _, _, _, _, _, hq, pin, aH7⟩
  ·rintro k265 t o hlt ⟨v258, v261, b259, c260, b79, c80, b262, c263, b264, h, pq⟩
   refine pn pq ?_
   rw [dt7] at h
   exact cls
  rintro x266 l267 k265 t o hlt hx271 hw hd ⟨v258, v261, b259, c260, b79, c80, b262, c263, b264, h, pq⟩
  refine pn pq ?_
  rw [dt7] at h
  refine gx fun x274 h275 x276 h277 x280 h281 x282 h283 => ?_; intros; rename_i h
  obtain ⟨q291, hq, h⟩ := bnd h
  refine a87 [3, 4, 5, 6, 9, 20, 142, 143, 144] [24, 32, 40, 1000770, 1000771, 48, 1001154, 1001155, 72, 1136] (fun K J t o => ∃ b299 c300 b303, PP ((8, .ref 200 b299 c300 0 q291.1.length 49) :: (23, .ptr 184 b303 306 0 0) :: K) ((200, ent b299 c300 49 (List.map ca7 q291.1)) :: (184, ⟨b303, 1, 306, true, [[.v (.bool q291.2.1), .v (.string q291.2.2)]]⟩) :: J) t o) ?_ ?_
  ·have h := hq
   exact cls
  rintro t o ⟨b299, c300, b303, pq⟩
  refine pn pq ?_
  exact cls
 rintro t o ⟨b309, c310, b79, c80, b312, c313, b314, pq⟩
 refine pnq pq ?_
 exact cls
theorem S37 : OkC [Gh7] Gw7 NE7 NF7 := by
 refine ok fun G H ⟨a0, a1, a2⟩ r h => ?_
 refine st1 fun bs t o => ?_
 dsimp only [rw7] at h
 exact cls
theorem S47 : OkC [wr7] Gx7 NG7 NH7 := by
 refine ok fun G H ⟨a0, a1, a2⟩ r h => ?_
 have H_bt9 := H _ (.head _)
 replace H := jJ7 0 H
 refine st1 fun bs t o => ?_
 dsimp only [rx7] at h
 try (refine gx ?_; intros; rename_i h)
 obtain ⟨q5, hq, h⟩ := bnd h
 refine a87 [3, 4, 5, 6, 8] [32, 40, 48, 1001027, 1001028, 64] (fun K J t o => PP ((10, .v (.bool q5)) :: K) J t o) ?_ ?_
 ·have h := hq
  try (refine gx ?_; intros; rename_i h)
  obtain ⟨x6, h7, h⟩ := bnd h
  refine bm7 (c := wr7) (a1, a0) H_bt9 h7 fun ch => ?_
  exact cls
 rintro t o pq
 refine pn pq ?_
 try (refine gx ?_; intros; rename_i h)
 obtain ⟨x9, h10, h⟩ := bnd h
 refine bm7 (c := wr7) (a2, a0) H_bt9 h10 fun ch => ?_
 try (refine gx ?_; intros; rename_i h)
 obtain ⟨x11, h12, h⟩ := bnd h
 refine bm7 (c := wr7) (a1, a2) H_bt9 h12 fun ch => ?_
 exact cls
theorem S57 : OkC [Bj7, Bw7, Gs7, Gx7, Gv7, wp7] Gy7 NI7 NJ7 := by
 refine ok fun G H ⟨a0, a1, a2⟩ r h => ?_
 refine st1 fun bs t o => ?_
 dsimp only [ry7] at h
 refine gx fun x3 h4 x5 h6 x7 h8 x10 h11 => ?_; intros; rename_i h
 obtain ⟨hf, h⟩ := gd h
 obtain ⟨q714, hq, h⟩ := bnd h
 refine ac7 [] [] (fun K J t o => ∃ b961 c962 b964 c965, PP ((9, .ref 176 b961 c962 0 q714.1.length 178) :: (10, .ref 184 b964 c965 0 q714.2.length 100) :: K) ((176, ent b961 c962 178 (List.map aM7 q714.1)) :: (184, ent b964 c965 100 (List.map (am7 true) q714.2)) :: J) t o) ?_ ?_
 ·refine ay7 (xs := x10) [0, 1, 2, 43, 44] [344] 0 hf (fun K J l724 k722 t o => ∃ v716 v719 b717 c718 b720 c721, du7 a0 a1 a2 l724 k722 v716 v719 = some q714 ∧ PP ((9, .ref 176 b717 c718 0 v716.length 178) :: (10, .ref 184 b720 c721 0 v719.length 100) :: (45, .v (.int .i64 (k722 : Int))) :: K) ((176, ent b717 c718 178 (List.map aM7 v716)) :: (184, ent b720 c721 100 (List.map (am7 true) v719)) :: J) t o) ?_ ?_ ?_
  ·exact ⟨_, _, _, _, _, _, hq, pin, aH7⟩
  ·rintro k722 t o hlt ⟨v716, v719, b717, c718, b720, c721, h, pq⟩
   refine pn pq ?_
   rw [du7] at h
   exact cls
  rintro x723 l724 k722 t o hlt hx728 hw hd ⟨v716, v719, b717, c718, b720, c721, h, pq⟩
  refine pn pq ?_
  rw [du7] at h
  try (refine gx ?_; intros; rename_i h)
  obtain ⟨q731, hq, h⟩ := bnd h
  refine a87 [0, 1, 2, 9, 10, 12, 43, 44, 45] [176, 184, 344] (fun K J t o => ∃ b758 b764 b770, PP ((13, .ptr 104 b758 325 0 0) :: (14, .ptr 112 b764 325 0 0) :: (15, .ptr 120 b770 325 0 0) :: K) ((104, ⟨b758, 1, 325, true, [[.v (.bool q731.1), .v (.string q731.2.1), .v (.int .i64 q731.2.2.1), .sl false 2 (List.map ePt q731.2.2.2.1), .sl false 2 (List.map aX7 q731.2.2.2.2.1)]]⟩) :: (112, ⟨b764, 1, 325, true, [[.v (.bool q731.2.2.2.2.2.1), .v (.string q731.2.2.2.2.2.2.1), .v (.int .i64 q731.2.2.2.2.2.2.2.1), .sl false 2 (List.map ePt q731.2.2.2.2.2.2.2.2.1), .sl false 2 (List.map aX7 q731.2.2.2.2.2.2.2.2.2.1)]]⟩) :: (120, ⟨b770, 1, 325, true, [[.v (.bool q731.2.2.2.2.2.2.2.2.2.2.1), .v (.string q731.2.2.2.2.2.2.2.2.2.2.2.1), .v (.int .i64 q731.2.2.2.2.2.2.2.2.2.2.2.2.1), .sl false 2 (List.map ePt q731.2.2.2.2.2.2.2.2.2.2.2.2.2.1), .sl false 2 (List.map aX7 q731.2.2.2.2.2.2.2.2.2.2.2.2.2.2)]]⟩) :: J) t o) ?_ ?_
  ·have h := hq
   exact cls
  rintro t o ⟨b758, b764, b770, pq⟩
  refine pn pq ?_
  refine gx fun x771 h772 => ?_; intros; rename_i h
  obtain ⟨q857, hq, h⟩ := bnd h
  refine a87 [0, 1, 2, 10, 43, 44, 45] [184, 344] (fun K J t o => ∃ b942 c943 b949, PP ((9, .ref 176 b942 c943 0 q857.1.length 178) :: (16, .ptr 128 b949 325 0 0) :: K) ((176, ent b942 c943 178 (List.map aM7 q857.1)) :: (128, ⟨b949, 1, 325, true, [[.v (.bool q857.2.1), .v (.string q857.2.2.1), .v (.int .i64 q857.2.2.2.1), .sl false 2 (List.map ePt q857.2.2.2.2.1), .sl false 2 (List.map aX7 q857.2.2.2.2.2)]]⟩) :: J) t o) ?_ ?_
  ·have h := hq
   try (refine gx ?_; intros; rename_i h)
   refine Pq7 h rfl rfl (fun h c => ?_) fun h c => ?_
   ·try rw [c]
    try (refine gx ?_; intros; rename_i h)
    obtain ⟨q858, hq, h⟩ := bnd h
    refine a87 [0, 1, 2, 9, 10, 12, 14, 15, 43, 44, 45] [176, 184, 112, 120, 344] (fun K J t o => ∃ b859, PP ((16, .ptr 128 b859 325 0 0) :: K) ((128, ⟨b859, 1, 325, true, [[.v (.bool q731.2.2.2.2.2.1), .v (.string q731.2.2.2.2.2.2.1), .v (.int .i64 q731.2.2.2.2.2.2.2.1), .sl false 2 (List.map ePt q731.2.2.2.2.2.2.2.2.1), .sl false 2 (List.map aX7 q731.2.2.2.2.2.2.2.2.2.1)]]⟩) :: J) t o) ?_ ?_
    ·have h := hq
     exact cls
    rintro t o ⟨b859, pq⟩
    refine pn pq ?_
    exact cls
   try rw [c]
   try (refine gx ?_; intros; rename_i h)
   refine cnd h rfl rfl (fun h c => ?_) fun h c => ?_
   ·try rw [c]
    try (refine gx ?_; intros; rename_i h)
    obtain ⟨q868, hq, h⟩ := bnd h
    refine a87 [0, 1, 2, 9, 10, 12, 14, 15, 43, 44, 45, 97, 98, 99] [176, 184, 112, 120, 344] (fun K J t o => ∃ b869, PP ((16, .ptr 128 b869 325 0 0) :: K) ((128, ⟨b869, 1, 325, true, [[.v (.bool q731.2.2.2.2.2.1), .v (.string q731.2.2.2.2.2.2.1), .v (.int .i64 q731.2.2.2.2.2.2.2.1), .sl false 2 (List.map ePt q731.2.2.2.2.2.2.2.2.1), .sl false 2 (List.map aX7 q731.2.2.2.2.2.2.2.2.2.1)]]⟩) :: J) t o) ?_ ?_
    ·have h := hq
     exact cls
    rintro t o ⟨b869, pq⟩
    refine pn pq ?_
    exact cls
   try rw [c]
   try (refine gx ?_; intros; rename_i h)
   obtain ⟨q882, hq, h⟩ := bnd h
   refine a87 [0, 1, 2, 9, 10, 12, 16, 43, 44, 45, 97, 98, 99] [176, 184, 128, 344, 120] (fun K J t o => ∃ b897, PP ((18, .ptr 144 b897 100 0 0) :: (19, .ro (List.map ca7 q882.1)) :: K) ((144, ⟨b897, 1, 100, true, [[.v (.string q882.2.1), .v (.int .i64 q882.2.2.1), .sl false 2 (List.map ePt q882.2.2.2.1), .sl false 2 (List.map aX7 q882.2.2.2.2)]]⟩) :: J) t o) ?_ ?_
   ·have h := hq
    exact cls
   rintro t o ⟨b897, pq⟩
   refine pn pq ?_
   try (refine gx ?_; intros; rename_i h)
   obtain ⟨hf, h⟩ := gd h
   obtain ⟨q920, hq, h⟩ := bnd h
   refine ac7 [0, 1, 2, 10, 16, 43, 44, 45, 97, 98, 99] [184, 128, 344, 120] (fun K J t o => ∃ b939 c940, PP ((9, .ref 176 b939 c940 0 q920.length 178) :: K) ((176, ent b939 c940 178 (List.map aM7 q920)) :: J) t o) ?_ ?_
   ·refine ay7 (xs := q882.1) [0, 1, 2, 10, 12, 16, 43, 44, 45, 77, 78, 97, 98, 99] [184, 128, 344, 120] 0 hf (fun K J l927 k925 t o => ∃ v922 b923 c924, eh7 x723 l927 k925 v922 = some q920 ∧ PP ((9, .ref 176 b923 c924 0 v922.length 178) :: (79, .v (.int .i64 (k925 : Int))) :: K) ((176, ent b923 c924 178 (List.map aM7 v922)) :: J) t o) ?_ ?_ ?_
    ·exact ⟨_, _, _, hq, pin, aH7⟩
    ·rintro k925 t o hlt ⟨v922, b923, c924, h, pq⟩
     refine pn pq ?_
     rw [eh7] at h
     exact cls
    rintro x926 l927 k925 t o hlt hx931 hw hd ⟨v922, b923, c924, h, pq⟩
    refine pn pq ?_
    rw [eh7] at h
    exact cls
   rintro t o ⟨b939, c940, pq⟩
   refine pnq pq ?_
   exact cls
  rintro t o ⟨b942, c943, b949, pq⟩
  refine pn pq ?_
  exact cls
 rintro t o ⟨b961, c962, b964, c965, pq⟩
 refine pnq pq ?_
 exact cls
theorem S67 : OkC [Bq7] Gz7 NK7 NL7 := by
 refine ok fun G H a0 r h => ?_
 refine st1 fun bs t o => ?_
 dsimp only [rz7] at h
 refine gx fun h7 => ?_; intros; rename_i h
 obtain ⟨hf, h⟩ := gd h
 obtain ⟨q53, hq, h⟩ := bnd h
 refine ac7 [2] [1000256, 1000257, 16] (fun K J t o => ∃ b80 c81 b5 c6 b82, PP ((3, .ptr 24 b82 210 0 0) :: K) ((1000384, ent b80 c81 115 (List.map (af7 true) q53)) :: (1000385, ent b5 c6 130 (List.map aw7 ([] ++ a0.heads))) :: (24, ⟨b82, 1, 210, true, [[.al 1000384 b80 c81 0 q53.length 115, .al 1000385 b5 c6 0 ([] ++ a0.heads).length 130]]⟩) :: J) t o) ?_ ?_
 ·refine ay7 (xs := a0.commits) [2, 13, 14] [1000256, 1000257, 16] 0 hf (fun K J l61 k59 t o => ∃ v55 b56 c57 b5 c6 b58, gO7 l61 k59 v55 = some q53 ∧ PP ((3, .ptr 24 b58 210 0 0) :: (15, .v (.int .i64 (k59 : Int))) :: K) ((1000384, ent b56 c57 115 (List.map (af7 true) v55)) :: (1000385, ent b5 c6 130 (List.map aw7 ([] ++ a0.heads))) :: (24, ⟨b58, 1, 210, true, [[.al 1000384 b56 c57 0 v55.length 115, .al 1000385 b5 c6 0 ([] ++ a0.heads).length 130]]⟩) :: J) t o) ?_ ?_ ?_
  ·exact ⟨_, _, _, _, _, _, hq, pin, aH7⟩
  ·rintro k59 t o hlt ⟨v55, b56, c57, b5, c6, b58, h, pq⟩
   refine pn pq ?_
   rw [gO7] at h
   exact cls
  rintro x60 l61 k59 t o hlt hx65 hw hd ⟨v55, b56, c57, b5, c6, b58, h, pq⟩
  refine pn pq ?_
  rw [gO7] at h
  exact cls
 rintro t o ⟨b80, c81, b5, c6, b82, pq⟩
 refine pnq pq ?_
 exact cls
theorem S77 : OkC [Gw7, Gy7] GA7 NM7 NN7 := by
 refine ok fun G H ⟨a0, a1, a2⟩ r h => ?_
 refine st1 fun bs t o => ?_
 dsimp only [n37] at h
 exact cls
theorem S87 : OkC [Bl7, Bq7] GB7 NO7 NP7 := by
 refine ok fun G H ⟨a0, a1, a2⟩ r h => ?_
 refine st1 fun bs t o => ?_
 dsimp only [rA7] at h
 refine gx fun x6 h7 => ?_; intros; rename_i h
 refine cnd h rfl rfl (fun h c => ?_) fun h c => ?_
 ·try rw [c]
  refine gx fun x8 h9 h17 x18 h19 => ?_; intros; rename_i h
  refine bu7 (f := aw7) a0.heads (⟨x18.name, (a0.commits.length : Int)⟩ : bg7) (aq7 h19).2 ?_
  exact cls
 try rw [c]
 refine gx fun x20 h21 => ?_; intros; rename_i h
 refine bu7 (f := aw7) a0.heads (⟨x20.name, x6⟩ : bg7) (aq7 h21).2 ?_
 exact cls
theorem S97 : OkC [] GC7 NQ7 NR7 := by
 refine ok fun G H ⟨a0, a1⟩ r h => ?_
 refine st1 fun bs t o => ?_
 dsimp only [rB7] at h
 exact cls
theorem Ta7 : OkC [GC7] GD7 NS7 NT7 := by
 refine ok fun G H ⟨a0, a1⟩ r h => ?_
 refine st1 fun bs t o => ?_
 dsimp only [u27] at h
 try (refine gx ?_; intros; rename_i h)
 obtain ⟨hf, h⟩ := gd h
 obtain ⟨q20, hq, h⟩ := bnd h
 refine ac7 [] [] (fun K J t o => ∃ q20_, q20 = .inr q20_ ∧ PP K J t o) ?_ ?_
 ·have ho1 := h
  refine ay7 (xs := a0) [0, 1] [] 0 hf (fun K J l24 k22 t o => gP7 a1 l24 k22  = some q20 ∧ PP ((5, .v (.int .i64 (k22 : Int))) :: K) J t o) ?_ ?_ ?_
  ·exact ⟨hq, pin, aH7⟩
  ·rintro k22 t o hlt ⟨h, pq⟩
   refine pn pq ?_
   rw [gP7] at h
   exact cls
  rintro x23 l24 k22 t o hlt hx28 hw hd ⟨h, pq⟩
  refine pn pq ?_
  rw [gP7] at h
  exact cls
 rintro t o ⟨q20, rfl, pq⟩
 refine pnq pq ?_
 exact cls
theorem Tb7 : OkC [] GE7 NU7 NV7 := by
 refine ok fun G H ⟨a0, a1⟩ r h => ?_
 refine st1 fun bs t o => ?_
 dsimp only [rC7] at h
 exact cls
theorem Tc7 : OkC [GD7] GF7 NW7 NX7 := by
 refine ok fun G H ⟨a0, a1⟩ r h => ?_
 refine st1 fun bs t o => ?_
 dsimp only [rD7] at h
 exact cls
theorem Td7 : OkC [GE7] GG7 NY7 NZ7 := by
 refine ok fun G H ⟨a0, a1⟩ r h => ?_
 refine st1 fun bs t o => ?_
 dsimp only [u37] at h
 try (refine gx ?_; intros; rename_i h)
 obtain ⟨hf, h⟩ := gd h
 obtain ⟨q20, hq, h⟩ := bnd h
 refine ac7 [] [] (fun K J t o => ∃ q20_, q20 = .inr q20_ ∧ PP K J t o) ?_ ?_
 ·have ho1 := h
  refine ay7 (xs := a0) [0, 1] [] 0 hf (fun K J l24 k22 t o => gQ7 a1 l24 k22  = some q20 ∧ PP ((5, .v (.int .i64 (k22 : Int))) :: K) J t o) ?_ ?_ ?_
  ·exact ⟨hq, pin, aH7⟩
  ·rintro k22 t o hlt ⟨h, pq⟩
   refine pn pq ?_
   rw [gQ7] at h
   exact cls
  rintro x23 l24 k22 t o hlt hx28 hw hd ⟨h, pq⟩
  refine pn pq ?_
  rw [gQ7] at h
  exact cls
 rintro t o ⟨q20, rfl, pq⟩
 refine pnq pq ?_
 exact cls
theorem Te7 : OkC [GF7, GG7] GH7 N07 N17 := by
 refine ok fun G H ⟨a0, a1⟩ r h => ?_
 refine st1 fun bs t o => ?_
 dsimp only [rE7] at h
 exact cls
theorem Tf7 : OkC [] GI7 N27 N37 := by
 refine ok fun G H ⟨a0, a1⟩ r h => ?_
 refine st1 fun bs t o => ?_
 dsimp only [u47] at h
 try (refine gx ?_; intros; rename_i h)
 obtain ⟨hf, h⟩ := gd h
 obtain ⟨q14, hq, h⟩ := bnd h
 refine ac7 [] [] (fun K J t o => ∃ q14_, q14 = .inr q14_ ∧ PP K J t o) ?_ ?_
 ·have ho1 := h
  refine ay7 (xs := a0) [0, 1] [] 0 hf (fun K J l18 k16 t o => gR7 a1 l18 k16  = some q14 ∧ PP ((5, .v (.int .i64 (k16 : Int))) :: K) J t o) ?_ ?_ ?_
  ·exact ⟨hq, pin, aH7⟩
  ·rintro k16 t o hlt ⟨h, pq⟩
   refine pn pq ?_
   rw [gR7] at h
   exact cls
  rintro x17 l18 k16 t o hlt hx22 hw hd ⟨h, pq⟩
  refine pn pq ?_
  rw [gR7] at h
  exact cls
 rintro t o ⟨q14, rfl, pq⟩
 refine pnq pq ?_
 exact cls
theorem Tg7 : OkC [GH7] GJ7 N47 N57 := by
 refine ok fun G H ⟨a0, a1⟩ r h => ?_
 refine st1 fun bs t o => ?_
 dsimp only [u57] at h
 try (refine gx ?_; intros; rename_i h)
 obtain ⟨hf, h⟩ := gd h
 obtain ⟨q20, hq, h⟩ := bnd h
 refine ac7 [] [] (fun K J t o => ∃ q20_, q20 = .inr q20_ ∧ PP K J t o) ?_ ?_
 ·have ho1 := h
  refine ay7 (xs := a0) [0, 1] [] 0 hf (fun K J l24 k22 t o => gS7 a1 l24 k22  = some q20 ∧ PP ((5, .v (.int .i64 (k22 : Int))) :: K) J t o) ?_ ?_ ?_
  ·exact ⟨hq, pin, aH7⟩
  ·rintro k22 t o hlt ⟨h, pq⟩
   refine pn pq ?_
   rw [gS7] at h
   exact cls
  rintro x23 l24 k22 t o hlt hx28 hw hd ⟨h, pq⟩
  refine pn pq ?_
  rw [gS7] at h
  exact cls
 rintro t o ⟨q20, rfl, pq⟩
 refine pnq pq ?_
 exact cls
theorem Th7 : OkC [GI7, GJ7] GK7 N67 N77 := by
 refine ok fun G H ⟨a0, a1⟩ r h => ?_
 refine st1 fun bs t o => ?_
 dsimp only [rF7] at h
 exact cls
theorem Ti7 : OkC [] GL7 N87 N97 := by
 refine ok fun G H ⟨a0, a1⟩ r h => ?_
 refine st1 fun bs t o => ?_
 dsimp only [rG7] at h
 exact cls
theorem Tj7 : OkC [GK7] GM7 Oa7 Ob7 := by
 refine ok fun G H ⟨a0, a1⟩ r h => ?_
 refine st1 fun bs t o => ?_
 dsimp only [u67] at h
 try (refine gx ?_; intros; rename_i h)
 obtain ⟨hf, h⟩ := gd h
 obtain ⟨q20, hq, h⟩ := bnd h
 refine ac7 [] [] (fun K J t o => ∃ q20_, q20 = .inr q20_ ∧ PP K J t o) ?_ ?_
 ·have ho1 := h
  refine ay7 (xs := a0) [0, 1] [] 0 hf (fun K J l24 k22 t o => gT7 a1 l24 k22  = some q20 ∧ PP ((5, .v (.int .i64 (k22 : Int))) :: K) J t o) ?_ ?_ ?_
  ·exact ⟨hq, pin, aH7⟩
  ·rintro k22 t o hlt ⟨h, pq⟩
   refine pn pq ?_
   rw [gT7] at h
   exact cls
  rintro x23 l24 k22 t o hlt hx28 hw hd ⟨h, pq⟩
  refine pn pq ?_
  rw [gT7] at h
  exact cls
 rintro t o ⟨q20, rfl, pq⟩
 refine pnq pq ?_
 exact cls
theorem Tk7 : OkC [GL7] GN7 Oc7 Od7 := by
 refine ok fun G H ⟨a0, a1⟩ r h => ?_
 refine st1 fun bs t o => ?_
 dsimp only [u77] at h
 try (refine gx ?_; intros; rename_i h)
 obtain ⟨hf, h⟩ := gd h
 obtain ⟨q20, hq, h⟩ := bnd h
 refine ac7 [] [] (fun K J t o => ∃ q20_, q20 = .inr q20_ ∧ PP K J t o) ?_ ?_
 ·have ho1 := h
  refine ay7 (xs := a0) [0, 1] [] 0 hf (fun K J l24 k22 t o => gU7 a1 l24 k22  = some q20 ∧ PP ((5, .v (.int .i64 (k22 : Int))) :: K) J t o) ?_ ?_ ?_
  ·exact ⟨hq, pin, aH7⟩
  ·rintro k22 t o hlt ⟨h, pq⟩
   refine pn pq ?_
   rw [gU7] at h
   exact cls
  rintro x23 l24 k22 t o hlt hx28 hw hd ⟨h, pq⟩
  refine pn pq ?_
  rw [gU7] at h
  exact cls
 rintro t o ⟨q20, rfl, pq⟩
 refine pnq pq ?_
 exact cls
theorem Tl7 : OkC [] GO7 Oe7 Of7 := by
 refine ok fun G H ⟨a0, a1⟩ r h => ?_
 refine st1 fun bs t o => ?_
 dsimp only [rH7] at h
 exact cls
theorem Tm7 : OkC [] j67 Og7 Oh7 := by
 refine ok fun G H a0 r h => ?_
 refine st1 fun bs t o => ?_
 dsimp only [cT7] at h
 try (refine gx ?_; intros; rename_i h)
 obtain ⟨q9, hq, h⟩ := bnd h
 refine a87 [] [] (fun K J t o => PP ((3, .v (.string q9)) :: K) J t o) ?_ ?_
 ·refine lf7 ?_
  refine ce7 [] [] (fun K J n12 t o => ∃ v10 v11, fw7 n12 v10 v11 = some q9 ∧ PP ((0, .v (.int .i64 v10)) :: (3, .v (.string v11)) :: K) J t o) ?_ ?_
  ·exact ⟨_, _, hq, pin, aH7⟩
  rintro n12 t o ⟨v10, v11, h, pq⟩
  refine pn pq ?_
  cases n12 with
  | zero => rw [fw7] at h; cases h
  | succ n12 =>
   rw [fw7] at h
   try (refine gx ?_; intros; rename_i h)
   refine yd7 (xs := ([(IntKind.u8.wrap (IntKind.i64.wrap (48 + (Int.tmod v10 10))))] : (List Int))) rfl rfl (by first | rfl | simp) rfl ?_
   exact cls
 rintro t o pq
 refine pn pq ?_
 exact cls
theorem Tn7 : OkC [] Bx7 Oi7 Oj7 := by
 refine ok fun G H ⟨a0, a1⟩ r h => ?_
 refine st1 fun bs t o => ?_
 dsimp only [if7] at h
 try (refine gx ?_; intros; rename_i h)
 obtain ⟨q16, hq, h⟩ := bnd h
 refine ac7 [] [] (fun K J t o => PP ((1, .v (.int .i64 q16.1)) :: K) ((0, ent (bs 0).1 (bs 0).2 66 (List.map ePt q16.2)) :: J) t o) ?_ ?_
 ·refine ce7 [] [] (fun K J n20 t o => ∃ v17 v18 v19, cB7 n20 v17 v18 v19 = some q16 ∧ PP ((0, .ref 0 (bs 0).1 (bs 0).2 0 v19.length 66) :: (1, .v (.int .i64 v17)) :: (5, .v (.int .i64 v18)) :: K) ((0, ent (bs 0).1 (bs 0).2 66 (List.map ePt v19)) :: J) t o) ?_ ?_
  ·exact ⟨_, _, _, hq, pin, aH7⟩
  rintro n20 t o ⟨v17, v18, v19, h, pq⟩
  refine pn pq ?_
  cases n20 with
  | zero => rw [cB7] at h; cases h
  | succ n20 =>
   rw [cB7] at h
   refine gx fun x21 h22 => ?_; intros; rename_i h
   refine bu7 (f := ePt) v19 (⟨v17, x21.y⟩ : Pt) (aq7 h22).2 ?_
   refine gx fun x23 h24 => ?_; intros; rename_i h
   refine bu7 (f := ePt) (List.set v19 v18.toNat (⟨v17, x21.y⟩ : Pt)) (⟨x23.x, (IntKind.i64.wrap (v17 + 1))⟩ : Pt) (aq7 h24).2 ?_
   exact cls
 rintro t o pq
 refine pnq pq ?_
 exact cls
theorem To7 : OkC [j67] By7 Ok7 Ol7 := by
 refine ok fun G H ⟨a0, a1⟩ r h => ?_
 refine st1 fun bs t o => ?_
 dsimp only [ig7] at h
 try (refine gx ?_; intros; rename_i h)
 obtain ⟨q28, hq, h⟩ := bnd h
 refine ac7 [] [] (fun K J t o => PP ((1, .v (.int .i64 q28.1)) :: K) ((0, ent (bs 0).1 (bs 0).2 82 (List.map aX7 q28.2)) :: J) t o) ?_ ?_
 ·refine ce7 [] [] (fun K J n32 t o => ∃ v29 v30 v31, cC7 n32 v29 v30 v31 = some q28 ∧ PP ((0, .ref 0 (bs 0).1 (bs 0).2 0 v31.length 82) :: (1, .v (.int .i64 v29)) :: (5, .v (.int .i64 v30)) :: K) ((0, ent (bs 0).1 (bs 0).2 82 (List.map aX7 v31)) :: J) t o) ?_ ?_
  ·exact ⟨_, _, _, hq, pin, aH7⟩
  rintro n32 t o ⟨v29, v30, v31, h, pq⟩
  refine pn pq ?_
  cases n32 with
  | zero => rw [cC7] at h; cases h
  | succ n32 =>
   rw [cC7] at h
   refine gx fun x33 h34 x35 h36 => ?_; intros; rename_i h
   refine bu7 (f := aX7) v31 (⟨x33, x35.val⟩ : Tag) (aq7 h36).2 ?_
   refine gx fun x37 h38 x39 h40 => ?_; intros; rename_i h
   refine bu7 (f := aX7) (List.set v31 v30.toNat (⟨x33, x35.val⟩ : Tag)) (⟨x39.key, x37⟩ : Tag) (aq7 h40).2 ?_
   exact cls
 rintro t o pq
 refine pnq pq ?_
 exact cls
theorem Tp7 : OkC [] Bz7 Om7 On7 := by
 refine ok fun G H ⟨a0, a1⟩ r h => ?_
 refine st1 fun bs t o => ?_
 dsimp only [hf7] at h
 try (refine gx ?_; intros; rename_i h)
 obtain ⟨q12, hq, h⟩ := bnd h
 refine ac7 [] [] (fun K J t o => PP ((1, .v (.int .i64 q12.1)) :: K) ((0, ent (bs 0).1 (bs 0).2 17 (List.map be7 q12.2)) :: J) t o) ?_ ?_
 ·refine ce7 [] [] (fun K J n16 t o => ∃ v13 v14 v15, cD7 n16 v13 v14 v15 = some q12 ∧ PP ((0, .ref 0 (bs 0).1 (bs 0).2 0 v15.length 17) :: (1, .v (.int .i64 v13)) :: (5, .v (.int .i64 v14)) :: K) ((0, ent (bs 0).1 (bs 0).2 17 (List.map be7 v15)) :: J) t o) ?_ ?_
  ·exact ⟨_, _, _, hq, pin, aH7⟩
  rintro n16 t o ⟨v13, v14, v15, h, pq⟩
  refine pn pq ?_
  cases n16 with
  | zero => rw [cD7] at h; cases h
  | succ n16 =>
   rw [cD7] at h
   refine gx fun x17 h18 => ?_; intros; rename_i h
   refine bu7 (f := be7) v15 v13 (aq7 h18).2 ?_
   exact cls
 rintro t o pq
 refine pnq pq ?_
 exact cls
theorem Tq7 : OkC [j67, Bx7, By7] BA7 Oo7 Op7 := by
 refine ok fun G H ⟨a0, a1⟩ r h => ?_
 have H_db9 := H _ (.tail _ (.head _))
 have H_dd9 := H _ (.tail _ (.tail _ (.head _)))
 replace H := jJ7 1 H
 refine st1 fun bs t o => ?_
 dsimp only [ih7] at h
 try (refine gx ?_; intros; rename_i h)
 obtain ⟨q58, hq, h⟩ := bnd h
 refine ac7 [] [] (fun K J t o => PP ((1, .v (.int .i64 q58.1)) :: K) ((0, ent (bs 0).1 (bs 0).2 100 (List.map (am7 true) q58.2)) :: J) t o) ?_ ?_
 ·refine ce7 [] [] (fun K J n62 t o => ∃ v59 v60 v61, cE7 n62 v59 v60 v61 = some q58 ∧ PP ((0, .ref 0 (bs 0).1 (bs 0).2 0 v61.length 100) :: (1, .v (.int .i64 v59)) :: (5, .v (.int .i64 v60)) :: K) ((0, ent (bs 0).1 (bs 0).2 100 (List.map (am7 true) v61)) :: J) t o) ?_ ?_
  ·exact ⟨_, _, _, hq, pin, aH7⟩
  rintro n62 t o ⟨v59, v60, v61, h, pq⟩
  refine pn pq ?_
  cases n62 with
  | zero => rw [cE7] at h; cases h
  | succ n62 =>
   rw [cE7] at h
   refine gx fun x63 h64 x65 h66 => ?_; intros; rename_i h
   refine bu7 (f := (am7 true)) v61 (⟨x63, x65.shape, x65.tags⟩ : Feat) (aq7 h66).2 ?_
   refine gx fun x67 h68 => ?_; intros; rename_i h
   refine bu7 (f := (am7 true)) (List.set v61 v60.toNat (⟨x63, x65.shape, x65.tags⟩ : Feat)) (⟨x67.id, ⟨(IntKind.i64.wrap (v59 + 1)), x67.shape.pts⟩, x67.tags⟩ : Feat) (aq7 h68).2 ?_
   refine gx fun x69 h70 => ?_; intros; rename_i h
   refine nD7 (f := (am7 true)) (g := ePt) (xs := (List.set (List.set v61 v60.toNat (⟨x63, x65.shape, x65.tags⟩ : Feat)) v60.toNat (⟨x67.id, ⟨(IntKind.i64.wrap (v59 + 1)), x67.shape.pts⟩, x67.tags⟩ : Feat))) (x := x69) (ys := x69.shape.pts) (aq7 h70).2 rfl rfl rfl fun b71 c72 => ?_
   try (refine gx ?_; intros; rename_i h)
   obtain ⟨x73, h74, h⟩ := bnd h
   have L74 := QV7 h74; (try dsimp only at L74); (first | replace L74 := And.intro L74.1.symm L74.2.symm | replace L74 := L74.symm); (try obtain ⟨L74, M74⟩ := L74); refine bC7 (c := Bx7) (x69.shape.pts, (IntKind.i64.wrap ((IntKind.i64.wrap (v59 + 1)) + 1))) H_db9 h74 fun ch => ?_
   try (refine gx ?_; intros; rename_i h)
   refine we7 (f := (am7 true)) (⟨x69.id, ⟨x69.shape.kind, x73.2⟩, x69.tags⟩ : Feat) (aq7 h70).2 ?_
   refine gx fun x75 h76 => ?_; intros; rename_i h
   refine nD7 (f := (am7 true)) (g := aX7) (xs := (List.set (List.set (List.set v61 v60.toNat (⟨x63, x65.shape, x65.tags⟩ : Feat)) v60.toNat (⟨x67.id, ⟨(IntKind.i64.wrap (v59 + 1)), x67.shape.pts⟩, x67.tags⟩ : Feat)) v60.toNat (⟨x69.id, ⟨x69.shape.kind, x73.2⟩, x69.tags⟩ : Feat))) (x := x75) (ys := x75.tags) (aq7 h76).2 rfl rfl rfl fun b77 c78 => ?_
   try (refine gx ?_; intros; rename_i h)
   obtain ⟨x79, h80, h⟩ := bnd h
   have L80 := QW7 h80; (try dsimp only at L80); (first | replace L80 := And.intro L80.1.symm L80.2.symm | replace L80 := L80.symm); (try obtain ⟨L80, M80⟩ := L80); refine bC7 (c := By7) (x75.tags, x73.1) H_dd9 h80 fun ch => ?_
   try (refine gx ?_; intros; rename_i h)
   refine we7 (f := (am7 true)) (⟨x75.id, x75.shape, x79.2⟩ : Feat) (aq7 h76).2 ?_
   exact cls
 rintro t o pq
 refine pnq pq ?_
 exact cls
end Go.Proofs.AM
