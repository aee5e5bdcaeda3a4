/- Lemmas of the proof (UIL), on an abstract machine. Conditions: none. -/
import Derived.Test.YtnnfdbdheoajgaaGreatHV
import Derived.Test.YtnnfdbdheoajgaaGreatHG
import Derived.Test.YtnnfdbdheoajgaaGreatRows
import Derived.Test.YtnnfdbdheoajgaaGreatHN4
import Derived.Test.YtnnfdbdheoajgaaGreatUIF0
import Derived.Test.YtnnfdbdheoajgaaGreatUIF2
import Derived.Test.YtnnfdbdheoajgaaGreatUIF4
import Derived.Test.YtnnfdbdheoajgaaGreatUIF6
import Derived.Test.YtnnfdbdheoajgaaGreatUIF8
import Derived.Test.YtnnfdbdheoajgaaGreatUIF10
import Derived.Test.YtnnfdbdheoajgaaGreatRow
set_option linter.unusedVariables false
set_option linter.unusedSimpArgs false
set_option maxRecDepth 100000
set_option maxHeartbeats 4000000
namespace Go.Proofs.YtnnfdbdheoajgaaGreat
open Go.Proofs.AM Go.Proofs Go.RowKit Go.Sort Go.Shelf
theorem mix : Tryz.prog.follows .mixedOrders = true := by kernel_rfl
def sQ7 : Go.Shelf.Ren := ⟨fun | 43 => 100 | n => n, fun | 22 => 70 | 23 => 9 | 3 => 3 | 4 => 4 | 0 => 0 | n => n, fun | n => n⟩
theorem D77 : Go.Proofs.SlLaysE.n43 Tryz.prog sQ7 := {
 mixed := by kernel_rfl,
 f43 := ⟨Tryz.f100.name, by decide, Tryz.func100.trans (congrArg some (by kernel_rfl))⟩,
 t0 := Tryz.underlying0,
 a0 := Tryz.isAgg0,
 z0 := Tryz.sizeOf0,
 v0 := Tryz.zeroValue0,
 t3 := Tryz.underlying3,
 a3 := Tryz.isAgg3,
 z3 := Tryz.sizeOf3,
 v3 := Tryz.zeroValue3,
 t4 := Tryz.underlying4,
 a4 := Tryz.isAgg4,
 z4 := Tryz.sizeOf4,
 v4 := Tryz.zeroValue4,
 t22 := Tryz.underlying70,
 a22 := Tryz.isAgg70,
 z22 := Tryz.sizeOf70,
 v22 := Tryz.zeroValue70,
 a23 := Tryz.isAgg9,
 z23 := Tryz.sizeOf9 }
theorem xQ7 {tb : Tab} {f : Nat} (hf : tb.fn f = 100) : ah7 Tryz.prog tb (oS7 f) := vI7 D77 (fun w => by kernel_rfl) hf (by rw [hf]; kernel_rfl)
def xR7 : Go.Shelf.Ren := ⟨fun | 4 => 137 | n => n, fun | 22 => 39 | 25 => 119 | 3 => 3 | 4 => 4 | 9 => 9 | 20 => 20 | 0 => 0 | n => n, fun | n => n⟩
theorem NR7 : Go.Proofs.Lays8.n4 Tryz.prog xR7 := {
 mixed := by kernel_rfl,
 f4 := ⟨Tryz.f137.name, by decide, Tryz.func137.trans (congrArg some (by kernel_rfl))⟩,
 t0 := Tryz.underlying0,
 a0 := Tryz.isAgg0,
 z0 := Tryz.sizeOf0,
 v0 := Tryz.zeroValue0,
 t3 := Tryz.underlying3,
 a3 := Tryz.isAgg3,
 z3 := Tryz.sizeOf3,
 v3 := Tryz.zeroValue3,
 t4 := Tryz.underlying4,
 a4 := Tryz.isAgg4,
 z4 := Tryz.sizeOf4,
 v4 := Tryz.zeroValue4,
 t9 := Tryz.underlying9,
 a9 := Tryz.isAgg9,
 z9 := Tryz.sizeOf9,
 v9 := Tryz.zeroValue9,
 t20 := Tryz.underlying20,
 a20 := Tryz.isAgg20,
 z20 := Tryz.sizeOf20,
 v20 := Tryz.zeroValue20,
 t22 := Tryz.underlying39,
 a22 := Tryz.isAgg39,
 z22 := Tryz.sizeOf39,
 v22 := Tryz.zeroValue39 }
theorem D87 {tb : Tab} {f K : Nat} {α : Type} {e : α → List T} (hf : tb.fn f = 137) (hk : kOk Tryz.prog tb 119 K = true) : ah7 Tryz.prog tb (sL7 f K e) := xP7 NR7 hf (by rw [hf]; kernel_rfl) hk (by kernel_rfl)
def sR7 : Go.Shelf.Ren := ⟨fun | 190 => 99 | 125 => 86 | 258 => 134 | 128 => 127 | 129 => 128 | 302 => 159 | 303 => 160 | 304 => 161 | 305 => 162 | 306 => 163 | 307 => 164 | 308 => 165 | 309 => 166 | 310 => 167 | 333 => 186 | 329 => 150 | 330 => 151 | 334 => 187 | 335 => 188 | 336 => 87 | 344 => 195 | n => n, fun | 31 => 70 | 9 => 9 | 3 => 3 | 46 => 125 | 0 => 0 | 51 => 167 | 53 => 169 | 4 => 4 | 183 => 160 | 182 => 159 | 131 => 164 | 5 => 5 | 218 => 185 | 222 => 189 | 228 => 208 | 229 => 209 | n => n, fun | n => n⟩
theorem D97 : Go.Proofs.Lays.n190 Tryz.prog sR7 := {
 mixed := by kernel_rfl,
 f125 := Tryz.func86.trans (congrArg some (by kernel_rfl)),
 f128 := Tryz.func127.trans (congrArg some (by kernel_rfl)),
 f129 := Tryz.func128.trans (congrArg some (by kernel_rfl)),
 f190 := Tryz.func99.trans (congrArg some (by kernel_rfl)),
 f258 := Tryz.func134.trans (congrArg some (by kernel_rfl)),
 f302 := Tryz.func159.trans (congrArg some (by kernel_rfl)),
 f303 := Tryz.func160.trans (congrArg some (by kernel_rfl)),
 f304 := Tryz.func161.trans (congrArg some (by kernel_rfl)),
 f305 := Tryz.func162.trans (congrArg some (by kernel_rfl)),
 f306 := Tryz.func163.trans (congrArg some (by kernel_rfl)),
 f307 := Tryz.func164.trans (congrArg some (by kernel_rfl)),
 f308 := Tryz.func165.trans (congrArg some (by kernel_rfl)),
 f309 := Tryz.func166.trans (congrArg some (by kernel_rfl)),
 f310 := Tryz.func167.trans (congrArg some (by kernel_rfl)),
 f329 := Tryz.func150.trans (congrArg some (by kernel_rfl)),
 f330 := Tryz.func151.trans (congrArg some (by kernel_rfl)),
 f333 := Tryz.func186.trans (congrArg some (by kernel_rfl)),
 f334 := Tryz.func187.trans (congrArg some (by kernel_rfl)),
 f335 := Tryz.func188.trans (congrArg some (by kernel_rfl)),
 f336 := Tryz.func87.trans (congrArg some (by kernel_rfl)),
 f344 := Tryz.func195.trans (congrArg some (by kernel_rfl)),
 t0 := Tryz.underlying0,
 a0 := Tryz.isAgg0,
 z0 := Tryz.sizeOf0,
 v0 := Tryz.zeroValue0,
 t3 := Tryz.underlying3,
 a3 := Tryz.isAgg3,
 z3 := Tryz.sizeOf3,
 v3 := Tryz.zeroValue3,
 t4 := Tryz.underlying4,
 a4 := Tryz.isAgg4,
 z4 := Tryz.sizeOf4,
 v4 := Tryz.zeroValue4,
 t5 := Tryz.underlying5,
 a5 := Tryz.isAgg5,
 z5 := Tryz.sizeOf5,
 v5 := Tryz.zeroValue5,
 t9 := Tryz.underlying9,
 a9 := Tryz.isAgg9,
 z9 := Tryz.sizeOf9,
 v9 := Tryz.zeroValue9,
 t31 := Tryz.underlying70,
 a31 := Tryz.isAgg70,
 z31 := Tryz.sizeOf70,
 v31 := Tryz.zeroValue70,
 t46 := Tryz.underlying125,
 a46 := Tryz.isAgg125,
 z46 := Tryz.sizeOf125,
 v46 := Tryz.zeroValue125,
 t51 := Tryz.underlying167,
 a51 := Tryz.isAgg167,
 z51 := Tryz.sizeOf167,
 v51 := Tryz.zeroValue167,
 t53 := Tryz.underlying169,
 a53 := Tryz.isAgg169,
 z53 := Tryz.sizeOf169,
 v53 := Tryz.zeroValue169,
 t131 := Tryz.underlying164,
 a131 := Tryz.isAgg164,
 z131 := Tryz.sizeOf164,
 v131 := Tryz.zeroValue164,
 t182 := Tryz.underlying159,
 a182 := Tryz.isAgg159,
 z182 := Tryz.sizeOf159,
 v182 := Tryz.zeroValue159,
 t183 := Tryz.underlying160,
 a183 := Tryz.isAgg160,
 z183 := Tryz.sizeOf160,
 v183 := Tryz.zeroValue160,
 t218 := Tryz.underlying185,
 a218 := Tryz.isAgg185,
 z218 := Tryz.sizeOf185,
 v218 := Tryz.zeroValue185,
 t222 := Tryz.underlying189,
 a222 := Tryz.isAgg189,
 z222 := Tryz.sizeOf189,
 v222 := Tryz.zeroValue189,
 t228 := Tryz.underlying208,
 a228 := Tryz.isAgg208,
 z228 := Tryz.sizeOf208,
 v228 := Tryz.zeroValue208,
 t229 := Tryz.underlying209,
 a229 := Tryz.isAgg209,
 z229 := Tryz.sizeOf209,
 v229 := Tryz.zeroValue209 }
theorem xS7 {tb : Tab} {f : Nat} (hf : tb.fn f = 99) : ah7 Tryz.prog tb (oR7 f) := vH7 D97 hf (by rw [hf]; kernel_rfl)
end Go.Proofs.YtnnfdbdheoajgaaGreat
namespace Go.Proofs.YtnnfdbdheoajgaaGreat
open Go.Proofs.AM
def tb : Tab := ⟨lk [(17, 3), (33, 4), (49, 9), (66, 35), (82, 119), (100, 41), (115, 33), (130, 73), (178, 92), (194, 201), (210, 26), (226, 38), (241, 85), (257, 5), (273, 30), (290, 111), (306, 144), (325, 100), (513, 185), (529, 39), (545, 31)], lk [(12, 191), (13, 178), (14, 48), (15, 145), (16, 146), (17, 116), (18, 192), (19, 181), (20, 182), (21, 157), (22, 147), (23, 148), (24, 117), (25, 78), (26, 79), (27, 80), (28, 34), (29, 180), (30, 154), (31, 129), (32, 89), (33, 35), (34, 90), (35, 91), (36, 58), (37, 115), (38, 155), (39, 175), (40, 201), (41, 199), (42, 200), (43, 196), (44, 197), (45, 198), (46, 193), (47, 172), (48, 194), (49, 183), (50, 184), (51, 185), (52, 156), (53, 158), (54, 131), (55, 132), (56, 95), (57, 24), (58, 54), (59, 21), (60, 92), (61, 49), (62, 50), (63, 51), (76, 69), (79, 118), (80, 44), (81, 81), (82, 37), (127, 133), (128, 96), (129, 97), (130, 56), (325, 55), (220, 22), (358, 98), (330, 62), (85, 110), (86, 36), (83, 109), (84, 108), (87, 70), (88, 71), (77, 77), (78, 76), (89, 33), (90, 59), (91, 84), (92, 40), (93, 38), (94, 88), (96, 29), (97, 47), (98, 94), (95, 130), (99, 93), (100, 52), (121, 99), (122, 100), (123, 83), (124, 82), (125, 39), (126, 101), (131, 168), (132, 135), (133, 136), (134, 170), (135, 169), (136, 138), (138, 103), (401, 137), (139, 104), (140, 105), (142, 107), (143, 64), (144, 65), (146, 67), (137, 102), (141, 106), (147, 68), (148, 17), (145, 66), (149, 28), (150, 45), (151, 20), (152, 46), (181, 16), (182, 15), (316, 30), (321, 73), (326, 32), (362, 140), (365, 173), (366, 174), (356, 74), (387, 190), (397, 189), (386, 171), (363, 139), (372, 144), (341, 114), (361, 112), (335, 75), (227, 111), (224, 141), (327, 60), (364, 176), (367, 177), (336, 142), (377, 143), (357, 113), (355, 72), (317, 31), (213, 10), (331, 63), (329, 61), (228, 27), (238, 25), (351, 57), (301, 23), (303, 26), (305, 7), (106, 86), (120, 134)], [], []⟩
theorem rJ7 : ah7 Tryz.prog tb Ef7 := au7 mix NW7 all_nil
theorem rK7 : ah7 Tryz.prog tb Eg7 := au7 mix NX7 (all_cons rJ7 all_nil)
theorem cj7 : ah7 Tryz.prog tb o17 := au7 mix NY7 all_nil
theorem dk7 : ah7 Tryz.prog tb qM7 := au7 mix NZ7 (all_cons rK7 all_nil)
theorem o37 : ah7 Tryz.prog tb Eh7 := au7 mix N07 (all_cons cj7 all_nil)
theorem iE7 : ah7 Tryz.prog tb Ae7 := au7 mix N17 (all_cons cj7 (all_cons dk7 (all_cons o37 all_nil)))
theorem iF7 : ah7 Tryz.prog tb Af7 := au7 mix N27 all_nil
theorem gf7 : ah7 Tryz.prog tb Ag7 := au7 mix N37 (all_cons iF7 all_nil)
theorem o47 : ah7 Tryz.prog tb Ei7 := au7 mix N47 all_nil
theorem gB7 : ah7 Tryz.prog tb lM7 := au7 mix N57 (all_cons gf7 (all_cons o47 all_nil))
theorem o57 : ah7 Tryz.prog tb Ej7 := au7 mix N67 all_nil
theorem kv7 : ah7 Tryz.prog tb Ek7 := au7 mix N77 (all_cons gB7 all_nil)
theorem o67 : ah7 Tryz.prog tb El7 := au7 mix N87 (all_cons o57 (all_cons kv7 all_nil))
theorem s37 : ah7 Tryz.prog tb Em7 := au7 mix N97 all_nil
theorem dl7 : ah7 Tryz.prog tb sU7 := au7 mix Oa7 (all_cons iE7 all_nil)
theorem fU7 : ah7 Tryz.prog tb x07 := au7 mix Ob7 (all_cons o67 all_nil)
theorem dM7 : ah7 Tryz.prog tb o27 := au7 mix Oc7 all_nil
theorem iG7 : ah7 Tryz.prog tb Ah7 := au7 mix Od7 all_nil
theorem dN7 : ah7 Tryz.prog tb qQ7 := au7 mix Oe7 (all_cons iG7 all_nil)
theorem iH7 : ah7 Tryz.prog tb Ai7 := au7 mix Of7 (all_cons dN7 all_nil)
theorem kj7 : ah7 Tryz.prog tb Aj7 := au7 mix Og7 (all_cons iH7 all_nil)
theorem fV7 : ah7 Tryz.prog tb vJ7 := au7 mix Oh7 (all_cons s37 (all_cons dl7 (all_cons cj7 (all_cons fU7 (all_cons dM7 all_nil)))))
theorem l37 : ah7 Tryz.prog tb Ak7 := au7 mix Oi7 (all_cons fV7 all_nil)
theorem hu7 : ah7 Tryz.prog tb Al7 := au7 mix Oj7 all_nil
theorem kw7 : ah7 Tryz.prog tb En7 := au7 mix Ok7 (all_cons l37 (all_cons hu7 all_nil))
theorem gC7 : ah7 Tryz.prog tb qS7 := au7 mix Ol7 all_nil
theorem rL7 : ah7 Tryz.prog tb Eo7 := au7 mix Om7 (all_cons gC7 all_nil)
theorem iI7 : ah7 Tryz.prog tb x97 := au7 mix On7 all_nil
theorem rM7 : ah7 Tryz.prog tb Ep7 := au7 mix Oo7 all_nil
theorem rN7 : ah7 Tryz.prog tb Eq7 := au7 mix Op7 all_nil
theorem o77 : ah7 Tryz.prog tb Er7 := au7 mix Oq7 (all_cons rM7 all_nil)
theorem l47 : ah7 Tryz.prog tb Es7 := au7 mix Or7 (all_cons rN7 (all_cons o77 all_nil))
theorem s47 : ah7 Tryz.prog tb Et7 := au7 mix Os7 all_nil
theorem o87 : ah7 Tryz.prog tb Eu7 := au7 mix Ot7 (all_cons iF7 all_nil)
theorem mZ7 : ah7 Tryz.prog tb Ev7 := au7 mix Ou7 (all_cons l47 (all_cons s47 (all_cons o87 all_nil)))
theorem gD7 : ah7 Tryz.prog tb vK7 := au7 mix Ov7 all_nil
theorem rO7 : ah7 Tryz.prog tb Ew7 := au7 mix Ow7 all_nil
theorem m07 : ah7 Tryz.prog tb Ex7 := au7 mix Ox7 (all_cons gf7 (all_cons mZ7 (all_cons dk7 all_nil)))
theorem o97 : ah7 Tryz.prog tb Ey7 := au7 mix Oy7 (all_cons gD7 all_nil)
theorem rP7 : ah7 Tryz.prog tb Ez7 := au7 mix Oz7 (all_cons rO7 all_nil)
theorem pa7 : ah7 Tryz.prog tb vL7 := au7 mix OA7 (all_cons iI7 (all_cons dN7 all_nil))
theorem pb7 : ah7 Tryz.prog tb Am7 := au7 mix OB7 (all_cons m07 (all_cons iG7 (all_cons o97 (all_cons rP7 (all_cons iE7 (all_cons dN7 all_nil))))))
theorem rQ7 : ah7 Tryz.prog tb EA7 := au7 mix OC7 (all_cons gC7 (all_cons rL7 all_nil))
theorem rR7 : ah7 Tryz.prog tb EB7 := au7 mix OD7 (all_cons pa7 (all_cons gB7 (all_cons pb7 all_nil)))
theorem pc7 : ah7 Tryz.prog tb EC7 := au7 mix OE7 (all_cons rQ7 (all_cons rR7 (all_cons iH7 (all_cons dl7 all_nil))))
theorem l67 : ah7 Tryz.prog tb ED7 := au7 mix OF7 (all_cons kw7 all_nil)
theorem kx7 : ah7 Tryz.prog tb EE7 := au7 mix OG7 (all_cons dl7 (all_cons pc7 all_nil))
theorem m17 : ah7 Tryz.prog tb EF7 := au7 mix OH7 (all_cons l67 (all_cons kx7 all_nil))
theorem kk7 : ah7 Tryz.prog tb ya7 := de7 mix OI7 (all_cons fU7 (all_cons kj7 all_nil))
theorem fW7 : ah7 Tryz.prog tb sV7 := au7 mix OJ7 (all_cons kj7 all_nil)
theorem ky7 : ah7 Tryz.prog tb yb7 := au7 mix OK7 (all_cons l37 (all_cons hu7 all_nil))
theorem pd7 : ah7 Tryz.prog tb An7 := de7 mix OL7 (all_cons m17 (all_cons fU7 (all_cons kk7 all_nil)))
theorem cS7 : ah7 Tryz.prog tb sW7 := au7 mix OM7 all_nil
theorem s57 : ah7 Tryz.prog tb EG7 := au7 mix ON7 (all_cons cS7 all_nil)
theorem fX7 : ah7 Tryz.prog tb yc7 := au7 mix OO7 (all_cons cS7 all_nil)
theorem hv7 : ah7 Tryz.prog tb Ao7 := au7 mix OP7 (all_cons s57 (all_cons cS7 all_nil))
theorem iJ7 : ah7 Tryz.prog tb Ap7 := au7 mix OQ7 (all_cons fX7 (all_cons hv7 all_nil))
theorem bR7 : ah7 Tryz.prog tb Aq7 := au7 mix OR7 all_nil
theorem gg7 : ah7 Tryz.prog tb sX7 := au7 mix OS7 (all_cons bR7 all_nil)
theorem cZ7 : ah7 Tryz.prog tb EH7 := au7 mix OT7 all_nil
theorem gE7 : ah7 Tryz.prog tb yd7 := au7 mix OU7 (all_cons gg7 (all_cons cZ7 all_nil))
theorem a17 : ah7 Tryz.prog tb EI7 := au7 mix OV7 (all_cons gE7 all_nil)
theorem gh7 : ah7 Tryz.prog tb ye7 := au7 mix OW7 (all_cons a17 all_nil)
theorem gn7 : ah7 Tryz.prog tb EJ7 := au7 mix OX7 all_nil
theorem e47 : ah7 Tryz.prog tb yf7 := au7 mix OY7 (all_cons gn7 (all_cons gh7 all_nil))
theorem go7 : ah7 Tryz.prog tb EK7 := au7 mix OZ7 all_nil
theorem hw7 : ah7 Tryz.prog tb Ar7 := au7 mix O07 (all_cons iJ7 all_nil)
theorem hb7 : ah7 Tryz.prog tb As7 := au7 mix O17 (all_cons e47 all_nil)
theorem bb7 : ah7 Tryz.prog tb EL7 := au7 mix O27 (all_cons hb7 all_nil)
theorem eB7 : ah7 Tryz.prog tb At7 := au7 mix O37 (all_cons bb7 all_nil)
theorem eP7 : ah7 Tryz.prog tb EM7 := au7 mix O47 (all_cons go7 all_nil)
theorem iK7 : ah7 Tryz.prog tb Au7 := au7 mix O57 all_nil
theorem bl7 : ah7 Tryz.prog tb EN7 := au7 mix O67 (all_cons iK7 all_nil)
theorem dv7 : ah7 Tryz.prog tb yg7 := au7 mix O77 (all_cons bl7 all_nil)
theorem cD7 : ah7 Tryz.prog tb yh7 := au7 mix O87 (all_cons cS7 all_nil)
theorem e57 : ah7 Tryz.prog tb Av7 := au7 mix O97 all_nil
theorem cx7 : ah7 Tryz.prog tb vM7 := au7 mix Pa7 (all_cons e57 all_nil)
theorem jy7 : ah7 Tryz.prog tb EO7 := au7 mix Pb7 (all_cons cx7 all_nil)
theorem eC7 : ah7 Tryz.prog tb Aw7 := au7 mix Pc7 (all_cons jy7 all_nil)
theorem cT7 : ah7 Tryz.prog tb rc7 := au7 mix Pd7 (all_cons cS7 (all_cons hw7 (all_cons fX7 (all_cons eB7 (all_cons eP7 (all_cons dv7 (all_cons cD7 all_nil)))))))
theorem cy7 : ah7 Tryz.prog tb vN7 := au7 mix Pe7 all_nil
theorem iL7 : ah7 Tryz.prog tb Ax7 := au7 mix Pf7 (all_cons cy7 all_nil)
theorem bQ7 : ah7 Tryz.prog tb EP7 := au7 mix Pg7 (all_cons iL7 all_nil)
theorem bG7 : ah7 Tryz.prog tb EQ7 := au7 mix Ph7 (all_cons bQ7 all_nil)
theorem kz7 : ah7 Tryz.prog tb ER7 := au7 mix Pi7 (all_cons cT7 (all_cons cD7 (all_cons cy7 (all_cons bG7 all_nil))))
theorem ce7 : ah7 Tryz.prog tb yi7 := xS7 (by kernel_rfl)
theorem bS7 : ah7 Tryz.prog tb ES7 := xQ7 (by kernel_rfl)
theorem l77 : ah7 Tryz.prog tb Ay7 := au7 mix Pj7 all_nil
theorem bq7 : ah7 Tryz.prog tb ET7 := au7 mix Pk7 (all_cons l77 all_nil)
theorem pe7 : ah7 Tryz.prog tb EU7 := au7 mix Pl7 (all_cons bq7 all_nil)
theorem s67 : ah7 Tryz.prog tb EV7 := au7 mix Pm7 (all_cons pe7 (all_cons cx7 all_nil))
theorem m27 : ah7 Tryz.prog tb Kp7 := xZ7 mix (by kernel_rfl)
theorem l87 : ah7 Tryz.prog tb EW7 := au7 mix Pn7 (all_cons m27 all_nil)
theorem m37 : ah7 Tryz.prog tb EX7 := au7 mix Po7 all_nil
theorem jz7 : ah7 Tryz.prog tb Az7 := au7 mix Pp7 all_nil
theorem br7 : ah7 Tryz.prog tb EY7 := au7 mix Pq7 (all_cons jz7 all_nil)
theorem l97 : ah7 Tryz.prog tb EZ7 := au7 mix Pr7 (all_cons br7 all_nil)
theorem ma7 : ah7 Tryz.prog tb E07 := au7 mix Ps7 (all_cons l87 (all_cons m37 (all_cons bR7 all_nil)))
theorem df7 : ah7 Tryz.prog tb KC7 := D87 (by kernel_rfl) (by kernel_rfl)
theorem cU7 : ah7 Tryz.prog tb AA7 := au7 mix Pt7 (all_cons df7 all_nil) (hi := by
 rintro (a : List (List Tag)) (a' : List (List Tag)) h1 h2
 simp only [AA7, List.cons.injEq, AV.ro.injEq, and_true] at h1
 exact (ad7 (sN7 eY7)).1 h1)
theorem m47 : ah7 Tryz.prog tb E17 := au7 mix Pu7 (all_cons l97 all_nil)
theorem jA7 : ah7 Tryz.prog tb vO7 := au7 mix Pv7 all_nil
theorem rS7 : ah7 Tryz.prog tb AB7 := au7 mix Pw7 (all_cons bS7 (all_cons ce7 all_nil)) (hi := by
 rintro (a : List (List Feat)) (a' : List (List Feat)) h1 h2
 simp only [AB7, List.cons.injEq, AV.ro.injEq, and_true] at h1
 exact (ad7 fun x y h => by
  simp only [eSl, sl, List.cons.injEq, T.sl.injEq, and_true, true_and] at h
  exact (ad7 eN7).1 h).1 h1)
theorem m57 : ah7 Tryz.prog tb E27 := au7 mix Px7 (all_cons s67 all_nil)
theorem kA7 : ah7 Tryz.prog tb vP7 := au7 mix Py7 (all_cons gE7 all_nil)
theorem bX7 : ah7 Tryz.prog tb E37 := au7 mix Pz7 (all_cons gg7 all_nil)
theorem bV7 : ah7 Tryz.prog tb E47 := au7 mix PA7 (all_cons jA7 all_nil)
theorem mb7 : ah7 Tryz.prog tb E57 := au7 mix PB7 (all_cons iJ7 (all_cons bX7 (all_cons ma7 (all_cons hv7 (all_cons e57 (all_cons cU7 (all_cons bS7 (all_cons m47 (all_cons bV7 (all_cons cx7 (all_cons ce7 all_nil)))))))))))
theorem gF7 : ah7 Tryz.prog tb yj7 := au7 mix PC7 (all_cons kz7 all_nil)
theorem bY7 : ah7 Tryz.prog tb E67 := au7 mix PD7 (all_cons kA7 all_nil)
theorem gi7 : ah7 Tryz.prog tb yk7 := au7 mix PE7 (all_cons hw7 (all_cons rS7 (all_cons m57 (all_cons bY7 (all_cons mb7 (all_cons cx7 all_nil))))))
theorem kB7 : ah7 Tryz.prog tb E77 := au7 mix PF7 (all_cons eC7 all_nil)
theorem m67 : ah7 Tryz.prog tb E87 := au7 mix PG7 (all_cons gF7 (all_cons gi7 all_nil))
theorem mc7 : ah7 Tryz.prog tb E97 := de7 mix PH7 (all_cons eB7 (all_cons eC7 all_nil))
theorem kC7 : ah7 Tryz.prog tb AC7 := au7 mix PI7 (all_cons fV7 (all_cons cj7 (all_cons fW7 (all_cons dM7 (all_cons ky7 (all_cons pd7 all_nil))))))
theorem kD7 : ah7 Tryz.prog tb AD7 := au7 mix PJ7 (all_cons cT7 (all_cons fX7 (all_cons kB7 (all_cons dv7 (all_cons cy7 (all_cons m67 (all_cons mc7 all_nil)))))))
theorem m77 : ah7 Tryz.prog tb Fa7 := de7 mix PK7 all_nil
theorem aD7 : ah7 Tryz.prog tb cm7 := de7 mix PL7 all_nil
theorem bv7 : ah7 Tryz.prog tb lZ7 := de7 mix PM7 (all_cons aD7 all_nil)
theorem hT7 : ah7 Tryz.prog tb sY7 := de7 mix PN7 (all_cons bv7 all_nil)
theorem kl7 : ah7 Tryz.prog tb yl7 := de7 mix PO7 (all_cons bv7 all_nil)
theorem km7 : ah7 Tryz.prog tb ym7 := de7 mix PP7 (all_cons bv7 all_nil)
theorem cz7 : ah7 Tryz.prog tb mY7 := de7 mix PQ7 (all_cons aD7 all_nil)
theorem md7 : ah7 Tryz.prog tb rt7 := de7 mix PR7 (all_cons aD7 (all_cons cz7 all_nil))
theorem rT7 : ah7 Tryz.prog tb AE7 := au7 mix PS7 all_nil
theorem hx7 : ah7 Tryz.prog tb yn7 := de7 mix PT7 (all_cons cz7 (all_cons aD7 (all_cons rT7 (all_cons md7 (all_cons dk7 all_nil)))))
theorem fY7 : ah7 Tryz.prog tb sZ7 := de7 mix PU7 (all_cons hx7 (all_cons aD7 (all_cons kl7 (all_cons km7 (all_cons gD7 all_nil)))))
theorem pf7 : ah7 Tryz.prog tb AF7 := de7 mix PV7 (all_cons hx7 (all_cons aD7 (all_cons cz7 all_nil)))
theorem pg7 : ah7 Tryz.prog tb AG7 := de7 mix PW7 (all_cons hT7 (all_cons fY7 (all_cons aD7 (all_cons bv7 (all_cons pf7 all_nil)))))
theorem gG7 : ah7 Tryz.prog tb yo7 := de7 mix PX7 all_nil
theorem hy7 : ah7 Tryz.prog tb vQ7 := de7 mix PY7 (all_cons aD7 (all_cons hT7 (all_cons fY7 (all_cons gG7 all_nil))))
theorem ph7 : ah7 Tryz.prog tb AH7 := de7 mix PZ7 (all_cons hy7 (all_cons aD7 (all_cons pg7 (all_cons gG7 all_nil))))
theorem m87 : ah7 Tryz.prog tb AI7 := au7 mix P07 (all_cons cj7 all_nil)
theorem jB7 : ah7 Tryz.prog tb AJ7 := au7 mix P17 (all_cons fV7 (all_cons cj7 (all_cons fW7 (all_cons dM7 all_nil))))
theorem iM7 : ah7 Tryz.prog tb yp7 := de7 mix P27 (all_cons bv7 all_nil)
theorem rU7 : ah7 Tryz.prog tb AK7 := au7 mix P37 all_nil
theorem pi7 : ah7 Tryz.prog tb AL7 := de7 mix P47 (all_cons aD7 (all_cons md7 (all_cons dk7 all_nil)))
theorem pj7 : ah7 Tryz.prog tb AM7 := de7 mix P57 (all_cons aD7 (all_cons hT7 (all_cons iI7 (all_cons fY7 (all_cons gC7 (all_cons rU7 (all_cons dN7 (all_cons kl7 (all_cons km7 (all_cons gD7 (all_cons pi7 (all_cons dl7 all_nil))))))))))))
theorem pk7 : ah7 Tryz.prog tb AN7 := de7 mix P67 (all_cons bv7 all_nil)
theorem pl7 : ah7 Tryz.prog tb yq7 := de7 mix P77 (all_cons iM7 (all_cons dM7 (all_cons aD7 (all_cons jB7 (all_cons pj7 (all_cons pk7 (all_cons fW7 (all_cons kk7 all_nil))))))))
theorem pm7 : ah7 Tryz.prog tb AO7 := de7 mix P87 (all_cons m87 (all_cons hy7 (all_cons aD7 (all_cons pl7 all_nil))))
theorem pn7 : ah7 Tryz.prog tb Fb7 := de7 mix P97 (all_cons pm7 (all_cons aD7 (all_cons cz7 (all_cons ph7 all_nil))))
theorem po7 : ah7 Tryz.prog tb s07 := au7 mix Qa7 (all_cons dv7 (all_cons cT7 all_nil))
theorem cJ7 : ah7 Tryz.prog tb Fc7 := au7 mix Qb7 all_nil
theorem aV7 : ah7 Tryz.prog tb Fd7 := au7 mix Qc7 (all_cons e47 all_nil)
theorem me7 : ah7 Tryz.prog tb s17 := au7 mix Qd7 (all_cons aV7 (all_cons cJ7 all_nil))
theorem kE7 : ah7 Tryz.prog tb s27 := au7 mix Qe7 (all_cons cT7 (all_cons cD7 (all_cons cy7 all_nil)))
theorem cr7 : ah7 Tryz.prog tb Fe7 := au7 mix Qf7 all_nil
theorem kF7 : ah7 Tryz.prog tb AP7 := au7 mix Qg7 (all_cons cr7 all_nil)
theorem hc7 : ah7 Tryz.prog tb AQ7 := de7 mix Qh7 (all_cons m77 (all_cons pn7 (all_cons iM7 (all_cons bv7 all_nil))))
theorem pp7 : ah7 Tryz.prog tb Mj7 := de7 mix Qi7 (all_cons hc7 (all_cons kD7 (all_cons kC7 (all_cons me7 (all_cons kF7 (all_cons po7 (all_cons gF7 (all_cons gi7 (all_cons cT7 (all_cons gh7 (all_cons kE7 all_nil)))))))))))
end Go.Proofs.YtnnfdbdheoajgaaGreat
