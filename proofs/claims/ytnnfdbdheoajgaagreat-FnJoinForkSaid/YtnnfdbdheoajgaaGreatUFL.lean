/- Lemmas of the proof (UFL), on an abstract machine. Conditions: none. -/
import Derived.Test.YtnnfdbdheoajgaaGreatHV
import Derived.Test.YtnnfdbdheoajgaaGreatHG
import Derived.Test.YtnnfdbdheoajgaaGreatHU
import Derived.Shelf.SlSortCmp.NoneTotal
import Derived.Test.YtnnfdbdheoajgaaGreatRows
import Derived.Test.YtnnfdbdheoajgaaGreatHN4
import Derived.Test.YtnnfdbdheoajgaaGreatUFF0
import Derived.Test.YtnnfdbdheoajgaaGreatUFF2
import Derived.Test.YtnnfdbdheoajgaaGreatUFF4
import Derived.Test.YtnnfdbdheoajgaaGreatUFF6
import Derived.Test.YtnnfdbdheoajgaaGreatUFF8
import Derived.Test.YtnnfdbdheoajgaaGreatUFF10
import Derived.Test.YtnnfdbdheoajgaaGreatRow
set_option linter.unusedVariables false
set_option linter.unusedSimpArgs false
set_option maxRecDepth 100000
set_option maxHeartbeats 4000000
namespace Go.Proofs.YtnnfdbdheoajgaaGreat
open Go.Proofs.AM Go.Proofs Go.RowKit Go.Sort Go.Shelf
theorem mix : Tryz.prog.follows .mixedOrders = true := by kernel_rfl
def sk7 : Go.Shelf.Ren := ⟨fun | 43 => 100 | n => n, fun | 22 => 70 | 23 => 9 | 3 => 3 | 4 => 4 | 0 => 0 | n => n, fun | n => n⟩
theorem DA7 : Go.Proofs.SlLaysE.n43 Tryz.prog sk7 := {
 mixed := by kernel_rfl,
 f43 := ⟨Tryz.f100.name, by decide, Tryz.func100.trans (congrArg some (by kernel_rfl))⟩,
 t0 := Tryz.underlying0,
 a0 := Tryz.isAgg0,
 z0 := Tryz.sizeOf0,
 v0 := Tryz.zeroValue0,
 t3 := Tryz.underlying3,
 a3 := Tryz.isAgg3,
 z3 := Tryz.sizeOf3,
 v3 := Tryz.zeroValue3,
 t4 := Tryz.underlying4,
 a4 := Tryz.isAgg4,
 z4 := Tryz.sizeOf4,
 v4 := Tryz.zeroValue4,
 t22 := Tryz.underlying70,
 a22 := Tryz.isAgg70,
 z22 := Tryz.sizeOf70,
 v22 := Tryz.zeroValue70,
 a23 := Tryz.isAgg9,
 z23 := Tryz.sizeOf9 }
theorem xb7 {tb : Tab} {f : Nat} (hf : tb.fn f = 100) : ah7 Tryz.prog tb (oq7 f) := u57 DA7 (fun w => by kernel_rfl) hf (by rw [hf]; kernel_rfl)
def xc7 : Go.Shelf.Ren := ⟨fun | 4 => 137 | n => n, fun | 22 => 39 | 25 => 119 | 3 => 3 | 4 => 4 | 9 => 9 | 20 => 20 | 0 => 0 | n => n, fun | n => n⟩
theorem Nw7 : Go.Proofs.Lays8.n4 Tryz.prog xc7 := {
 mixed := by kernel_rfl,
 f4 := ⟨Tryz.f137.name, by decide, Tryz.func137.trans (congrArg some (by kernel_rfl))⟩,
 t0 := Tryz.underlying0,
 a0 := Tryz.isAgg0,
 z0 := Tryz.sizeOf0,
 v0 := Tryz.zeroValue0,
 t3 := Tryz.underlying3,
 a3 := Tryz.isAgg3,
 z3 := Tryz.sizeOf3,
 v3 := Tryz.zeroValue3,
 t4 := Tryz.underlying4,
 a4 := Tryz.isAgg4,
 z4 := Tryz.sizeOf4,
 v4 := Tryz.zeroValue4,
 t9 := Tryz.underlying9,
 a9 := Tryz.isAgg9,
 z9 := Tryz.sizeOf9,
 v9 := Tryz.zeroValue9,
 t20 := Tryz.underlying20,
 a20 := Tryz.isAgg20,
 z20 := Tryz.sizeOf20,
 v20 := Tryz.zeroValue20,
 t22 := Tryz.underlying39,
 a22 := Tryz.isAgg39,
 z22 := Tryz.sizeOf39,
 v22 := Tryz.zeroValue39 }
theorem DB7 {tb : Tab} {f K : Nat} {α : Type} {e : α → List T} (hf : tb.fn f = 137) (hk : kOk Tryz.prog tb 119 K = true) : ah7 Tryz.prog tb (sd7 f K e) := w97 Nw7 hf (by rw [hf]; kernel_rfl) hk (by kernel_rfl)
def sl7 : Go.Shelf.Ren := ⟨fun | 190 => 99 | 125 => 86 | 258 => 134 | 128 => 127 | 129 => 128 | 302 => 159 | 303 => 160 | 304 => 161 | 305 => 162 | 306 => 163 | 307 => 164 | 308 => 165 | 309 => 166 | 310 => 167 | 333 => 186 | 329 => 150 | 330 => 151 | 334 => 187 | 335 => 188 | 336 => 87 | 344 => 195 | n => n, fun | 31 => 70 | 9 => 9 | 3 => 3 | 46 => 125 | 0 => 0 | 51 => 167 | 53 => 169 | 4 => 4 | 183 => 160 | 182 => 159 | 131 => 164 | 5 => 5 | 218 => 185 | 222 => 189 | 228 => 208 | 229 => 209 | n => n, fun | n => n⟩
theorem DC7 : Go.Proofs.Lays.n190 Tryz.prog sl7 := {
 mixed := by kernel_rfl,
 f125 := Tryz.func86.trans (congrArg some (by kernel_rfl)),
 f128 := Tryz.func127.trans (congrArg some (by kernel_rfl)),
 f129 := Tryz.func128.trans (congrArg some (by kernel_rfl)),
 f190 := Tryz.func99.trans (congrArg some (by kernel_rfl)),
 f258 := Tryz.func134.trans (congrArg some (by kernel_rfl)),
 f302 := Tryz.func159.trans (congrArg some (by kernel_rfl)),
 f303 := Tryz.func160.trans (congrArg some (by kernel_rfl)),
 f304 := Tryz.func161.trans (congrArg some (by kernel_rfl)),
 f305 := Tryz.func162.trans (congrArg some (by kernel_rfl)),
 f306 := Tryz.func163.trans (congrArg some (by kernel_rfl)),
 f307 := Tryz.func164.trans (congrArg some (by kernel_rfl)),
 f308 := Tryz.func165.trans (congrArg some (by kernel_rfl)),
 f309 := Tryz.func166.trans (congrArg some (by kernel_rfl)),
 f310 := Tryz.func167.trans (congrArg some (by kernel_rfl)),
 f329 := Tryz.func150.trans (congrArg some (by kernel_rfl)),
 f330 := Tryz.func151.trans (congrArg some (by kernel_rfl)),
 f333 := Tryz.func186.trans (congrArg some (by kernel_rfl)),
 f334 := Tryz.func187.trans (congrArg some (by kernel_rfl)),
 f335 := Tryz.func188.trans (congrArg some (by kernel_rfl)),
 f336 := Tryz.func87.trans (congrArg some (by kernel_rfl)),
 f344 := Tryz.func195.trans (congrArg some (by kernel_rfl)),
 t0 := Tryz.underlying0,
 a0 := Tryz.isAgg0,
 z0 := Tryz.sizeOf0,
 v0 := Tryz.zeroValue0,
 t3 := Tryz.underlying3,
 a3 := Tryz.isAgg3,
 z3 := Tryz.sizeOf3,
 v3 := Tryz.zeroValue3,
 t4 := Tryz.underlying4,
 a4 := Tryz.isAgg4,
 z4 := Tryz.sizeOf4,
 v4 := Tryz.zeroValue4,
 t5 := Tryz.underlying5,
 a5 := Tryz.isAgg5,
 z5 := Tryz.sizeOf5,
 v5 := Tryz.zeroValue5,
 t9 := Tryz.underlying9,
 a9 := Tryz.isAgg9,
 z9 := Tryz.sizeOf9,
 v9 := Tryz.zeroValue9,
 t31 := Tryz.underlying70,
 a31 := Tryz.isAgg70,
 z31 := Tryz.sizeOf70,
 v31 := Tryz.zeroValue70,
 t46 := Tryz.underlying125,
 a46 := Tryz.isAgg125,
 z46 := Tryz.sizeOf125,
 v46 := Tryz.zeroValue125,
 t51 := Tryz.underlying167,
 a51 := Tryz.isAgg167,
 z51 := Tryz.sizeOf167,
 v51 := Tryz.zeroValue167,
 t53 := Tryz.underlying169,
 a53 := Tryz.isAgg169,
 z53 := Tryz.sizeOf169,
 v53 := Tryz.zeroValue169,
 t131 := Tryz.underlying164,
 a131 := Tryz.isAgg164,
 z131 := Tryz.sizeOf164,
 v131 := Tryz.zeroValue164,
 t182 := Tryz.underlying159,
 a182 := Tryz.isAgg159,
 z182 := Tryz.sizeOf159,
 v182 := Tryz.zeroValue159,
 t183 := Tryz.underlying160,
 a183 := Tryz.isAgg160,
 z183 := Tryz.sizeOf160,
 v183 := Tryz.zeroValue160,
 t218 := Tryz.underlying185,
 a218 := Tryz.isAgg185,
 z218 := Tryz.sizeOf185,
 v218 := Tryz.zeroValue185,
 t222 := Tryz.underlying189,
 a222 := Tryz.isAgg189,
 z222 := Tryz.sizeOf189,
 v222 := Tryz.zeroValue189,
 t228 := Tryz.underlying208,
 a228 := Tryz.isAgg208,
 z228 := Tryz.sizeOf208,
 v228 := Tryz.zeroValue208,
 t229 := Tryz.underlying209,
 a229 := Tryz.isAgg209,
 z229 := Tryz.sizeOf209,
 v229 := Tryz.zeroValue209 }
theorem xd7 {tb : Tab} {f : Nat} (hf : tb.fn f = 99) : ah7 Tryz.prog tb (op7 f) := u47 DC7 hf (by rw [hf]; kernel_rfl)
def rsF : Go.Shelf.Ren := ⟨fun | 6 => 41 | 14 => 85 | 15 => 86 | 20 => 119 | 21 => 120 | 22 => 121 | 23 => 122 | 24 => 123 | 25 => 124 | 26 => 125 | 27 => 126 | 28 => 127 | 29 => 128 | 46 => 149 | 47 => 150 | 48 => 151 | 49 => 152 | 50 => 153 | 57 => 179 | n => n, fun | 0 => 0 | 3 => 3 | 4 => 4 | 5 => 5 | 9 => 9 | 22 => 31 | 24 => 41 | 25 => 81 | 39 => 125 | 45 => 159 | 46 => 160 | 50 => 164 | 53 => 167 | 55 => 169 | 66 => 185 | 70 => 189 | 76 => 208 | 77 => 209 | n => n, fun n => n⟩
theorem GV7 : Go.Proofs.SlLaysF0.n6 Tryz.prog rsF := {
 mixed := mix,
 f6 := ⟨Tryz.f41.name, by decide, by kernel_rfl⟩,
 f14 := ⟨Tryz.f85.name, by decide, by kernel_rfl⟩,
 f15 := by kernel_rfl,
 f20 := ⟨Tryz.f119.name, by decide, by kernel_rfl⟩,
 f21 := ⟨Tryz.f120.name, by decide, by kernel_rfl⟩,
 f22 := ⟨Tryz.f121.name, by decide, by kernel_rfl⟩,
 f23 := ⟨Tryz.f122.name, by decide, by kernel_rfl⟩,
 f24 := ⟨Tryz.f123.name, by decide, by kernel_rfl⟩,
 f25 := ⟨Tryz.f124.name, by decide, by kernel_rfl⟩,
 f26 := ⟨Tryz.f125.name, by decide, by kernel_rfl⟩,
 f27 := ⟨Tryz.f126.name, by decide, by kernel_rfl⟩,
 f28 := by kernel_rfl,
 f29 := by kernel_rfl,
 f46 := ⟨Tryz.f149.name, by decide, by kernel_rfl⟩,
 f47 := by kernel_rfl,
 f48 := by kernel_rfl,
 f49 := ⟨Tryz.f152.name, by decide, by kernel_rfl⟩,
 f50 := ⟨Tryz.f153.name, by decide, by kernel_rfl⟩,
 f57 := ⟨Tryz.f179.name, by decide, by kernel_rfl⟩,
 t0 := by kernel_rfl,
 a0 := fun w => by kernel_rfl,
 z0 := fun w => by kernel_rfl,
 v0 := fun w => by kernel_rfl,
 t3 := by kernel_rfl,
 a3 := fun w => by kernel_rfl,
 z3 := fun w => by kernel_rfl,
 v3 := fun w => by kernel_rfl,
 t4 := by kernel_rfl,
 a4 := fun w => by kernel_rfl,
 z4 := fun w => by kernel_rfl,
 v4 := fun w => by kernel_rfl,
 t5 := by kernel_rfl,
 a5 := fun w => by kernel_rfl,
 z5 := fun w => by kernel_rfl,
 v5 := fun w => by kernel_rfl,
 t9 := by kernel_rfl,
 a9 := fun w => by kernel_rfl,
 z9 := fun w => by kernel_rfl,
 v9 := fun w => by kernel_rfl,
 t22 := by kernel_rfl,
 a22 := fun w => by kernel_rfl,
 z22 := fun w => by kernel_rfl,
 v22 := fun w => by kernel_rfl,
 t25 := by kernel_rfl,
 a25 := fun w => by kernel_rfl,
 z25 := fun w => by kernel_rfl,
 v25 := fun w => by kernel_rfl,
 t39 := by kernel_rfl,
 a39 := fun w => by kernel_rfl,
 z39 := fun w => by kernel_rfl,
 v39 := fun w => by kernel_rfl,
 t45 := by kernel_rfl,
 a45 := fun w => by kernel_rfl,
 z45 := fun w => by kernel_rfl,
 v45 := fun w => by kernel_rfl,
 t46 := by kernel_rfl,
 a46 := fun w => by kernel_rfl,
 z46 := fun w => by kernel_rfl,
 v46 := fun w => by kernel_rfl,
 t50 := by kernel_rfl,
 a50 := fun w => by kernel_rfl,
 z50 := fun w => by kernel_rfl,
 v50 := fun w => by kernel_rfl,
 t53 := by kernel_rfl,
 a53 := fun w => by kernel_rfl,
 z53 := fun w => by kernel_rfl,
 v53 := fun w => by kernel_rfl,
 t55 := by kernel_rfl,
 a55 := fun w => by kernel_rfl,
 z55 := fun w => by kernel_rfl,
 v55 := fun w => by kernel_rfl,
 t66 := by kernel_rfl,
 a66 := fun w => by kernel_rfl,
 z66 := fun w => by kernel_rfl,
 v66 := fun w => by kernel_rfl,
 t70 := by kernel_rfl,
 a70 := fun w => by kernel_rfl,
 z70 := fun w => by kernel_rfl,
 v70 := fun w => by kernel_rfl,
 t76 := by kernel_rfl,
 a76 := fun w => by kernel_rfl,
 z76 := fun w => by kernel_rfl,
 v76 := fun w => by kernel_rfl,
 t77 := by kernel_rfl,
 a77 := fun w => by kernel_rfl,
 z77 := fun w => by kernel_rfl,
 v77 := fun w => by kernel_rfl }
def lF7 (a b : Str) : Int := if slt a b = true then -1 else if (!(slt a b || seq a b)) = true then 1 else 0
theorem DD7 (a b : Str) : decide (lF7 a b < 0) = slt a b := by
 unfold lF7
 cases slt a b
 ·cases seq a b <;> simp
 ·simp
theorem DE7 (x : Str) (W : World) : Calls Tryz.prog 87 #[.string x] W fun e w' => e = .returned (.bool false) ∧ w' = W := by
 go_enter Tryz.func87, Tryz.ntmps87
 go_wp2
 go_ret
 exact ⟨by simp, rfl⟩
set_option maxHeartbeats 1000000 in
theorem DF7 (x y : Str) (W : World) : Calls Tryz.prog 43 #[.string x, .string y] W fun e w' => e = .returned (.int .i64 (lF7 x y)) ∧ w' = W := by
 have e7 : ∀ args w, (callFunc 87 args).run Tryz.prog w = .ok (.enter 87 args) w := enters_of Tryz.func87 (by kernel_rfl) rfl
 go_enter Tryz.func43, Tryz.ntmps43
 go_wp2_with (go_at_fn (87); refine (DE7 _ _).mono ?_; rintro e w' ⟨rfl, hw⟩; rw [hw])
 ·rename_i h
  go_ret
  refine ⟨?_, rfl⟩
  unfold lF7
  rw [if_pos (show slt x y = true from h)]
  rfl
 ·have hb : ∀ (t : TypeId) w, Sem.run Tryz.prog (binOp BinOp.gtr t (.string x) (.string y)) w = .ok (.bool (!(slt x y || seq x y))) w := fun t w => rfl
  rename_i h _ _ _ _ _ _
  rw [hb]
  go_wp2
  all_goals rename_i h2
  all_goals go_ret
  all_goals refine ⟨?_, rfl⟩
  all_goals have e : slt x y = false := h
  all_goals unfold lF7
  all_goals rw [e] at h2 ⊢
  ·rw [if_neg (by decide), if_pos (by rw [Bool.false_or]; exact h2.2)]
   rfl
  ·have e2 : seq x y = true := by
    cases hs : seq x y
    ·rw [hs] at h2
     rcases h2 with h2 | h2 <;> cases h2
    ·rfl
   rw [if_neg (by decide), if_neg (by rw [e2]; decide)]
   rfl
set_option maxHeartbeats 1000000 in
theorem DG7 (a b : Str) (u1 u2 u3 v1 v2 v3 : Value) (W : World) : Calls Tryz.prog 42 #[.agg #[.string a, u1, u2, u3], .agg #[.string b, v1, v2, v3]] W fun e w' => e = .returned (.int .i64 (lF7 a b)) ∧ ∃ q os', w' = Go.Sort.grow (W.drewN q) os' := by
 have e7 : ∀ args w, (callFunc 43 args).run Tryz.prog w = .ok (.enter 43 args) w := enters_of Tryz.func43 (by kernel_rfl) rfl
 go_enter Tryz.func42, Tryz.ntmps42
 go_wp2_with (go_at_fn (43); refine (DF7 _ _ _).mono ?_; rintro e w' ⟨rfl, hw⟩; rw [hw])
 go_ret
 exact ⟨rfl, 0, _, by rw [alloc_eq_grow, alloc_eq_grow, grow_grow]; rfl⟩
theorem DH7 {tb : Tab} {f h : Nat} (hf : tb.fn f = 41) (hh : tb.fn h = 42) : ah7 Tryz.prog tb (sb7 f h) := by
 refine u67 GV7 hf (by rw [hf]; kernel_rfl) (fun w => by kernel_rfl) (fun w => by kernel_rfl) lF7 DD7 ?_ (fun p cap fv w => AnyF.slices_SortFunc_none { GV7 with } p cap fv w) ?_
 ·rw [hh]
  exact enters_of Tryz.func42 (by kernel_rfl) rfl
 ·rw [hh]
  exact DG7
end Go.Proofs.YtnnfdbdheoajgaaGreat
namespace Go.Proofs.YtnnfdbdheoajgaaGreat
open Go.Proofs.AM
def tb : Tab := ⟨lk [(17, 3), (33, 4), (49, 9), (66, 35), (82, 119), (100, 41), (115, 33), (130, 73), (178, 92), (194, 201), (210, 26), (226, 38), (241, 85), (257, 5), (273, 30), (290, 111), (306, 144), (325, 100), (513, 185), (529, 39), (545, 31)], lk [(12, 191), (13, 178), (14, 48), (15, 145), (16, 146), (17, 116), (18, 192), (19, 181), (20, 182), (21, 157), (22, 147), (23, 148), (24, 117), (25, 78), (26, 79), (27, 80), (28, 34), (29, 180), (30, 154), (31, 129), (32, 89), (33, 35), (34, 90), (35, 91), (36, 58), (37, 115), (38, 155), (39, 175), (40, 201), (41, 199), (42, 200), (43, 196), (44, 197), (45, 198), (46, 193), (47, 172), (48, 194), (49, 183), (50, 184), (51, 185), (52, 156), (53, 158), (54, 131), (55, 132), (56, 95), (57, 24), (58, 54), (59, 21), (60, 92), (61, 49), (62, 50), (63, 51), (76, 69), (79, 118), (80, 44), (81, 81), (82, 37), (127, 133), (128, 96), (129, 97), (130, 56), (325, 55), (220, 22), (358, 98), (330, 62), (85, 110), (86, 36), (83, 109), (84, 108), (87, 70), (88, 71), (77, 77), (78, 76), (89, 33), (90, 59), (91, 84), (92, 40), (93, 38), (94, 88), (96, 29), (97, 47), (98, 94), (95, 130), (99, 93), (100, 52), (101, 87), (121, 99), (122, 100), (123, 83), (124, 82), (125, 39), (126, 101), (131, 168), (132, 135), (133, 136), (134, 170), (135, 169), (136, 138), (138, 103), (401, 137), (139, 104), (140, 105), (142, 107), (143, 64), (144, 65), (146, 67), (137, 102), (141, 106), (147, 68), (148, 17), (145, 66), (149, 28), (150, 45), (151, 20), (152, 46), (181, 16), (182, 15), (316, 30), (321, 73), (326, 32), (362, 140), (365, 173), (366, 174), (356, 74), (387, 190), (397, 189), (386, 171), (363, 139), (372, 144), (341, 114), (361, 112), (335, 75), (227, 111), (224, 141), (327, 60), (364, 176), (367, 177), (336, 142), (377, 143), (357, 113), (355, 72), (317, 31), (213, 10), (223, 13), (231, 9), (232, 11), (360, 43), (333, 42), (332, 41), (233, 12), (234, 14), (235, 18), (230, 3), (106, 86), (120, 134), (359, 85)], [], []⟩
theorem q87 : ah7 Tryz.prog tb DN7 := at7 mix NC7 all_nil
theorem ra7 : ah7 Tryz.prog tb DO7 := at7 mix ND7 (all_cons q87 all_nil)
theorem cl7 : ah7 Tryz.prog tb oA7 := at7 mix NE7 all_nil
theorem dm7 : ah7 Tryz.prog tb ql7 := at7 mix NF7 (all_cons ra7 all_nil)
theorem oD7 : ah7 Tryz.prog tb DP7 := at7 mix NG7 (all_cons cl7 all_nil)
theorem iK7 : ah7 Tryz.prog tb zR7 := at7 mix NH7 (all_cons cl7 (all_cons dm7 (all_cons oD7 all_nil)))
theorem iL7 : ah7 Tryz.prog tb zS7 := at7 mix NI7 all_nil
theorem gd7 : ah7 Tryz.prog tb zT7 := at7 mix NJ7 (all_cons iL7 all_nil)
theorem oE7 : ah7 Tryz.prog tb DQ7 := at7 mix NK7 all_nil
theorem gC7 : ah7 Tryz.prog tb lH7 := at7 mix NL7 (all_cons gd7 (all_cons oE7 all_nil))
theorem oF7 : ah7 Tryz.prog tb DR7 := at7 mix NM7 all_nil
theorem ko7 : ah7 Tryz.prog tb DS7 := at7 mix NN7 (all_cons gC7 all_nil)
theorem oG7 : ah7 Tryz.prog tb DT7 := at7 mix NO7 (all_cons oF7 (all_cons ko7 all_nil))
theorem sy7 : ah7 Tryz.prog tb DU7 := at7 mix NP7 all_nil
theorem dn7 : ah7 Tryz.prog tb sn7 := at7 mix NQ7 (all_cons iK7 all_nil)
theorem fN7 : ah7 Tryz.prog tb xm7 := at7 mix NR7 (all_cons oG7 all_nil)
theorem cQ7 : ah7 Tryz.prog tb mF7 := at7 mix NS7 all_nil
theorem iM7 : ah7 Tryz.prog tb zU7 := at7 mix NT7 all_nil
theorem dL7 : ah7 Tryz.prog tb qq7 := at7 mix NU7 (all_cons iM7 all_nil)
theorem iN7 : ah7 Tryz.prog tb zV7 := at7 mix NV7 (all_cons dL7 all_nil)
theorem kg7 : ah7 Tryz.prog tb zW7 := at7 mix NW7 (all_cons iN7 all_nil)
theorem dM7 : ah7 Tryz.prog tb so7 := at7 mix NX7 (all_cons sy7 (all_cons dn7 (all_cons cl7 (all_cons fN7 (all_cons cQ7 all_nil)))))
theorem lV7 : ah7 Tryz.prog tb zX7 := at7 mix NY7 (all_cons dM7 all_nil)
theorem hr7 : ah7 Tryz.prog tb zY7 := at7 mix NZ7 all_nil
theorem kp7 : ah7 Tryz.prog tb DV7 := at7 mix N07 (all_cons lV7 (all_cons hr7 all_nil))
theorem gD7 : ah7 Tryz.prog tb qs7 := at7 mix N17 all_nil
theorem rb7 : ah7 Tryz.prog tb DW7 := at7 mix N27 (all_cons gD7 all_nil)
theorem iO7 : ah7 Tryz.prog tb xn7 := at7 mix N37 all_nil
theorem rc7 : ah7 Tryz.prog tb DX7 := at7 mix N47 all_nil
theorem rd7 : ah7 Tryz.prog tb DY7 := at7 mix N57 all_nil
theorem oH7 : ah7 Tryz.prog tb DZ7 := at7 mix N67 (all_cons rc7 all_nil)
theorem lW7 : ah7 Tryz.prog tb D07 := at7 mix N77 (all_cons rd7 (all_cons oH7 all_nil))
theorem sz7 : ah7 Tryz.prog tb D17 := at7 mix N87 all_nil
theorem oI7 : ah7 Tryz.prog tb D27 := at7 mix N97 (all_cons iL7 all_nil)
theorem mH7 : ah7 Tryz.prog tb D37 := at7 mix Oa7 (all_cons lW7 (all_cons sz7 (all_cons oI7 all_nil)))
theorem gE7 : ah7 Tryz.prog tb u87 := at7 mix Ob7 all_nil
theorem re7 : ah7 Tryz.prog tb D47 := at7 mix Oc7 all_nil
theorem mI7 : ah7 Tryz.prog tb D57 := at7 mix Od7 (all_cons gd7 (all_cons mH7 (all_cons dm7 all_nil)))
theorem oJ7 : ah7 Tryz.prog tb D67 := at7 mix Oe7 (all_cons gE7 all_nil)
theorem rf7 : ah7 Tryz.prog tb D77 := at7 mix Of7 (all_cons re7 all_nil)
theorem oK7 : ah7 Tryz.prog tb u97 := at7 mix Og7 (all_cons iO7 (all_cons dL7 all_nil))
theorem oL7 : ah7 Tryz.prog tb zZ7 := at7 mix Oh7 (all_cons mI7 (all_cons iM7 (all_cons oJ7 (all_cons rf7 (all_cons iK7 (all_cons dL7 all_nil))))))
theorem rg7 : ah7 Tryz.prog tb D87 := at7 mix Oi7 (all_cons gD7 (all_cons rb7 all_nil))
theorem rh7 : ah7 Tryz.prog tb D97 := at7 mix Oj7 (all_cons oK7 (all_cons gC7 (all_cons oL7 all_nil)))
theorem oM7 : ah7 Tryz.prog tb Ea7 := at7 mix Ok7 (all_cons rg7 (all_cons rh7 (all_cons iN7 (all_cons dn7 all_nil))))
theorem lX7 : ah7 Tryz.prog tb Eb7 := at7 mix Ol7 (all_cons kp7 all_nil)
theorem kq7 : ah7 Tryz.prog tb Ec7 := at7 mix Om7 (all_cons dn7 (all_cons oM7 all_nil))
theorem mJ7 : ah7 Tryz.prog tb Ed7 := at7 mix On7 (all_cons lX7 (all_cons kq7 all_nil))
theorem kh7 : ah7 Tryz.prog tb xv7 := df7 mix Oo7 (all_cons fN7 (all_cons kg7 all_nil))
theorem fO7 : ah7 Tryz.prog tb sp7 := at7 mix Op7 (all_cons kg7 all_nil)
theorem kr7 : ah7 Tryz.prog tb xw7 := at7 mix Oq7 (all_cons lV7 (all_cons hr7 all_nil))
theorem oN7 : ah7 Tryz.prog tb z07 := df7 mix Or7 (all_cons mJ7 (all_cons fN7 (all_cons kh7 all_nil)))
theorem cR7 : ah7 Tryz.prog tb sq7 := at7 mix Os7 all_nil
theorem sA7 : ah7 Tryz.prog tb Ee7 := at7 mix Ot7 (all_cons cR7 all_nil)
theorem cS7 : ah7 Tryz.prog tb sr7 := at7 mix Ou7 (all_cons cR7 all_nil)
theorem hs7 : ah7 Tryz.prog tb z17 := at7 mix Ov7 (all_cons sA7 (all_cons cR7 all_nil))
theorem fP7 : ah7 Tryz.prog tb va7 := at7 mix Ow7 (all_cons cS7 (all_cons hs7 all_nil))
theorem bP7 : ah7 Tryz.prog tb z27 := at7 mix Ox7 all_nil
theorem ge7 : ah7 Tryz.prog tb ss7 := at7 mix Oy7 (all_cons bP7 all_nil)
theorem c27 : ah7 Tryz.prog tb Ef7 := at7 mix Oz7 all_nil
theorem gF7 : ah7 Tryz.prog tb xx7 := at7 mix OA7 (all_cons ge7 (all_cons c27 all_nil))
theorem a07 : ah7 Tryz.prog tb Eg7 := at7 mix OB7 (all_cons gF7 all_nil)
theorem gf7 : ah7 Tryz.prog tb z37 := at7 mix OC7 (all_cons a07 all_nil)
theorem gm7 : ah7 Tryz.prog tb Eh7 := at7 mix OD7 all_nil
theorem jv7 : ah7 Tryz.prog tb Ei7 := at7 mix OE7 (all_cons gm7 (all_cons gf7 all_nil))
theorem gn7 : ah7 Tryz.prog tb Ej7 := at7 mix OF7 all_nil
theorem cv7 : ah7 Tryz.prog tb qC7 := at7 mix OG7 (all_cons fP7 all_nil)
theorem hc7 : ah7 Tryz.prog tb z47 := at7 mix OH7 (all_cons jv7 all_nil)
theorem bg7 : ah7 Tryz.prog tb Ek7 := at7 mix OI7 (all_cons hc7 all_nil)
theorem eC7 : ah7 Tryz.prog tb z57 := at7 mix OJ7 (all_cons bg7 all_nil)
theorem eO7 : ah7 Tryz.prog tb El7 := at7 mix OK7 (all_cons gn7 all_nil)
theorem iP7 : ah7 Tryz.prog tb z67 := at7 mix OL7 all_nil
theorem bl7 : ah7 Tryz.prog tb Em7 := at7 mix OM7 (all_cons iP7 all_nil)
theorem bU7 : ah7 Tryz.prog tb st7 := at7 mix ON7 (all_cons bl7 all_nil)
theorem d17 : ah7 Tryz.prog tb z87 := at7 mix OO7 (all_cons cR7 all_nil)
theorem e17 : ah7 Tryz.prog tb z97 := at7 mix OP7 all_nil
theorem bC7 : ah7 Tryz.prog tb oB7 := at7 mix OQ7 (all_cons e17 all_nil)
theorem e37 : ah7 Tryz.prog tb vb7 := at7 mix OR7 (all_cons bC7 all_nil)
theorem eD7 : ah7 Tryz.prog tb Aa7 := at7 mix OS7 (all_cons e37 all_nil)
theorem cT7 : ah7 Tryz.prog tb su7 := at7 mix OT7 (all_cons cR7 (all_cons cv7 (all_cons cS7 (all_cons eC7 (all_cons eO7 (all_cons bU7 (all_cons d17 all_nil)))))))
theorem dx7 : ah7 Tryz.prog tb xy7 := at7 mix OU7 all_nil
theorem iQ7 : ah7 Tryz.prog tb Ab7 := at7 mix OV7 (all_cons dx7 all_nil)
theorem bO7 : ah7 Tryz.prog tb En7 := at7 mix OW7 (all_cons iQ7 all_nil)
theorem bH7 : ah7 Tryz.prog tb Eo7 := at7 mix OX7 (all_cons bO7 all_nil)
theorem ks7 : ah7 Tryz.prog tb Ep7 := at7 mix OY7 (all_cons cT7 (all_cons d17 (all_cons dx7 (all_cons bH7 all_nil))))
theorem iR7 : ah7 Tryz.prog tb Eq7 := at7 mix OZ7 all_nil
theorem ce7 : ah7 Tryz.prog tb xz7 := xd7 (by kernel_rfl)
theorem bQ7 : ah7 Tryz.prog tb Er7 := xb7 (by kernel_rfl)
theorem lY7 : ah7 Tryz.prog tb Ac7 := at7 mix O07 all_nil
theorem bt7 : ah7 Tryz.prog tb Es7 := at7 mix O17 (all_cons lY7 all_nil)
theorem fQ7 : ah7 Tryz.prog tb vc7 := at7 mix O27 (all_cons bt7 all_nil)
theorem sB7 : ah7 Tryz.prog tb Et7 := at7 mix O37 (all_cons fQ7 (all_cons bC7 all_nil))
theorem mK7 : ah7 Tryz.prog tb JY7 := xl7 mix (by kernel_rfl)
theorem lZ7 : ah7 Tryz.prog tb Eu7 := at7 mix O47 (all_cons mK7 all_nil)
theorem mL7 : ah7 Tryz.prog tb Ev7 := at7 mix O57 all_nil
theorem jw7 : ah7 Tryz.prog tb Ad7 := at7 mix O67 all_nil
theorem bu7 : ah7 Tryz.prog tb Ew7 := at7 mix O77 (all_cons jw7 all_nil)
theorem l07 : ah7 Tryz.prog tb Ex7 := at7 mix O87 (all_cons bu7 all_nil)
theorem l17 : ah7 Tryz.prog tb Ey7 := at7 mix O97 (all_cons lZ7 (all_cons mL7 (all_cons bP7 all_nil)))
theorem dg7 : ah7 Tryz.prog tb Kc7 := DB7 (by kernel_rfl) (by kernel_rfl)
theorem cU7 : ah7 Tryz.prog tb Ae7 := at7 mix Pa7 (all_cons dg7 all_nil) (hi := by
 rintro (a : List (List Tag)) (a' : List (List Tag)) h1 h2
 simp only [Ae7, List.cons.injEq, AV.ro.injEq, and_true] at h1
 exact (ad7 (sf7 eZ7)).1 h1)
theorem mM7 : ah7 Tryz.prog tb Ez7 := at7 mix Pb7 (all_cons l07 all_nil)
theorem jx7 : ah7 Tryz.prog tb vd7 := at7 mix Pc7 all_nil
theorem ri7 : ah7 Tryz.prog tb Af7 := at7 mix Pd7 (all_cons bQ7 (all_cons ce7 all_nil)) (hi := by
 rintro (a : List (List Feat)) (a' : List (List Feat)) h1 h2
 simp only [Af7, List.cons.injEq, AV.ro.injEq, and_true] at h1
 exact (ad7 fun x y h => by
  simp only [eSl, sl, List.cons.injEq, T.sl.injEq, and_true, true_and] at h
  exact (ad7 d07).1 h).1 h1)
theorem mN7 : ah7 Tryz.prog tb EA7 := at7 mix Pe7 (all_cons sB7 all_nil)
theorem kt7 : ah7 Tryz.prog tb ve7 := at7 mix Pf7 (all_cons gF7 all_nil)
theorem bW7 : ah7 Tryz.prog tb EB7 := at7 mix Pg7 (all_cons ge7 all_nil)
theorem bV7 : ah7 Tryz.prog tb EC7 := at7 mix Ph7 (all_cons jx7 all_nil)
theorem l27 : ah7 Tryz.prog tb ED7 := at7 mix Pi7 (all_cons fP7 (all_cons bW7 (all_cons l17 (all_cons hs7 (all_cons e17 (all_cons cU7 (all_cons bQ7 (all_cons mM7 (all_cons bV7 (all_cons bC7 (all_cons ce7 all_nil)))))))))))
theorem gG7 : ah7 Tryz.prog tb xJ7 := at7 mix Pj7 (all_cons ks7 all_nil)
theorem bX7 : ah7 Tryz.prog tb EE7 := at7 mix Pk7 (all_cons kt7 all_nil)
theorem ku7 : ah7 Tryz.prog tb EF7 := at7 mix Pl7 (all_cons cv7 (all_cons ri7 (all_cons mN7 (all_cons bX7 (all_cons l27 (all_cons bC7 all_nil))))))
theorem dy7 : ah7 Tryz.prog tb xK7 := at7 mix Pm7 (all_cons eD7 all_nil)
theorem mO7 : ah7 Tryz.prog tb EG7 := at7 mix Pn7 (all_cons gG7 (all_cons ku7 all_nil))
theorem gH7 : ah7 Tryz.prog tb Ag7 := df7 mix Po7 (all_cons eC7 (all_cons eD7 all_nil))
theorem kv7 : ah7 Tryz.prog tb Ah7 := at7 mix Pp7 (all_cons dM7 (all_cons cl7 (all_cons fO7 (all_cons cQ7 (all_cons kr7 (all_cons oN7 all_nil))))))
theorem kw7 : ah7 Tryz.prog tb Ai7 := at7 mix Pq7 (all_cons cT7 (all_cons cS7 (all_cons dy7 (all_cons bU7 (all_cons dx7 (all_cons mO7 (all_cons gH7 all_nil)))))))
theorem mP7 : ah7 Tryz.prog tb EH7 := df7 mix Pr7 all_nil
theorem aC7 : ah7 Tryz.prog tb cq7 := df7 mix Ps7 all_nil
theorem by7 : ah7 Tryz.prog tb lS7 := df7 mix Pt7 (all_cons aC7 all_nil)
theorem hO7 : ah7 Tryz.prog tb sv7 := df7 mix Pu7 (all_cons by7 all_nil)
theorem ki7 : ah7 Tryz.prog tb xL7 := df7 mix Pv7 (all_cons by7 all_nil)
theorem kj7 : ah7 Tryz.prog tb xM7 := df7 mix Pw7 (all_cons by7 all_nil)
theorem cB7 : ah7 Tryz.prog tb mG7 := df7 mix Px7 (all_cons aC7 all_nil)
theorem l37 : ah7 Tryz.prog tb qR7 := df7 mix Py7 (all_cons aC7 (all_cons cB7 all_nil))
theorem rj7 : ah7 Tryz.prog tb Aj7 := at7 mix Pz7 all_nil
theorem ht7 : ah7 Tryz.prog tb xN7 := df7 mix PA7 (all_cons cB7 (all_cons aC7 (all_cons rj7 (all_cons l37 (all_cons dm7 all_nil)))))
theorem fR7 : ah7 Tryz.prog tb sw7 := df7 mix PB7 (all_cons ht7 (all_cons aC7 (all_cons ki7 (all_cons kj7 (all_cons gE7 all_nil)))))
theorem oO7 : ah7 Tryz.prog tb Ak7 := df7 mix PC7 (all_cons ht7 (all_cons aC7 (all_cons cB7 all_nil)))
theorem oP7 : ah7 Tryz.prog tb Al7 := df7 mix PD7 (all_cons hO7 (all_cons fR7 (all_cons aC7 (all_cons by7 (all_cons oO7 all_nil)))))
theorem gI7 : ah7 Tryz.prog tb xO7 := df7 mix PE7 all_nil
theorem hu7 : ah7 Tryz.prog tb vf7 := df7 mix PF7 (all_cons aC7 (all_cons hO7 (all_cons fR7 (all_cons gI7 all_nil))))
theorem oQ7 : ah7 Tryz.prog tb Am7 := df7 mix PG7 (all_cons hu7 (all_cons aC7 (all_cons oP7 (all_cons gI7 all_nil))))
theorem mQ7 : ah7 Tryz.prog tb An7 := at7 mix PH7 (all_cons cl7 all_nil)
theorem jy7 : ah7 Tryz.prog tb Ao7 := at7 mix PI7 (all_cons dM7 (all_cons cl7 (all_cons fO7 (all_cons cQ7 all_nil))))
theorem oR7 : ah7 Tryz.prog tb Ap7 := df7 mix PJ7 (all_cons by7 all_nil)
theorem rk7 : ah7 Tryz.prog tb Aq7 := at7 mix PK7 all_nil
theorem oS7 : ah7 Tryz.prog tb Ar7 := df7 mix PL7 (all_cons aC7 (all_cons l37 (all_cons dm7 all_nil)))
theorem oT7 : ah7 Tryz.prog tb As7 := df7 mix PM7 (all_cons aC7 (all_cons hO7 (all_cons iO7 (all_cons fR7 (all_cons gD7 (all_cons rk7 (all_cons dL7 (all_cons ki7 (all_cons kj7 (all_cons gE7 (all_cons oS7 (all_cons dn7 all_nil))))))))))))
theorem oU7 : ah7 Tryz.prog tb At7 := df7 mix PN7 (all_cons by7 all_nil)
theorem oV7 : ah7 Tryz.prog tb xP7 := df7 mix PO7 (all_cons oR7 (all_cons cQ7 (all_cons aC7 (all_cons jy7 (all_cons oT7 (all_cons oU7 (all_cons fO7 (all_cons kh7 all_nil))))))))
theorem oW7 : ah7 Tryz.prog tb Au7 := df7 mix PP7 (all_cons mQ7 (all_cons hu7 (all_cons aC7 (all_cons oV7 all_nil))))
theorem oX7 : ah7 Tryz.prog tb EI7 := df7 mix PQ7 (all_cons oW7 (all_cons aC7 (all_cons cB7 (all_cons oQ7 all_nil))))
theorem oY7 : ah7 Tryz.prog tb sx7 := at7 mix PR7 (all_cons bU7 (all_cons cT7 all_nil))
theorem jz7 : ah7 Tryz.prog tb Av7 := at7 mix PS7 (all_cons cT7 (all_cons cS7 (all_cons dy7 (all_cons bU7 all_nil))))
theorem jA7 : ah7 Tryz.prog tb Aw7 := df7 mix PT7 (all_cons mP7 (all_cons oX7 (all_cons by7 all_nil)))
theorem oZ7 : ah7 Tryz.prog tb oC7 := at7 mix PU7 (all_cons cQ7 (all_cons dM7 all_nil))
theorem hd7 : ah7 Tryz.prog tb EJ7 := at7 mix PV7 (all_cons iR7 all_nil)
theorem vn7 : ah7 Tryz.prog tb LN7 := at7 mix PW7 (all_cons hd7 all_nil)
theorem bq7 : ah7 Tryz.prog tb EK7 := DH7 (by kernel_rfl) (by kernel_rfl)
theorem l47 : ah7 Tryz.prog tb xS7 := at7 mix PX7 (all_cons cv7 (all_cons fP7 (all_cons e37 (all_cons fQ7 (all_cons bC7 (all_cons bq7 all_nil))))))
theorem mR7 : ah7 Tryz.prog tb xT7 := at7 mix PY7 (all_cons cT7 (all_cons cv7 (all_cons cS7 (all_cons dy7 (all_cons bU7 (all_cons gf7 (all_cons gH7 all_nil)))))))
theorem l67 : ah7 Tryz.prog tb xU7 := at7 mix PZ7 (all_cons fQ7 (all_cons cv7 (all_cons bC7 all_nil)))
theorem jB7 : ah7 Tryz.prog tb LW7 := df7 mix P07 (all_cons jA7 (all_cons oY7 (all_cons oZ7 (all_cons l47 (all_cons jz7 (all_cons mR7 (all_cons kw7 (all_cons kv7 (all_cons gG7 (all_cons l67 all_nil))))))))))
end Go.Proofs.YtnnfdbdheoajgaaGreat
