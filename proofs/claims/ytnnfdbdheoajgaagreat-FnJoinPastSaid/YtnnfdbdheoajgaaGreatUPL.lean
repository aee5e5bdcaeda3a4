/- Lemmas of the proof (UPL), on an abstract machine. Conditions: none. -/
import Derived.Test.YtnnfdbdheoajgaaGreatUPS
import Derived.Test.YtnnfdbdheoajgaaGreatHN4
import Derived.Test.YtnnfdbdheoajgaaGreatUPF0
import Derived.Test.YtnnfdbdheoajgaaGreatUPF2
import Derived.Test.YtnnfdbdheoajgaaGreatUPF4
import Derived.Test.YtnnfdbdheoajgaaGreatUPF6
import Derived.Test.YtnnfdbdheoajgaaGreatUPF8
import Derived.Test.YtnnfdbdheoajgaaGreatUPF10
import Derived.Test.YtnnfdbdheoajgaaGreatRow
import Derived.Test.YtnnfdbdheoajgaaGreatRows
set_option linter.unusedVariables false
set_option linter.unusedSimpArgs false
set_option maxRecDepth 100000
set_option maxHeartbeats 4000000
namespace Go.Proofs.YtnnfdbdheoajgaaGreat
open Go.Proofs.AM
def tb : Tab := ⟨lk [(17, 3), (33, 4), (49, 9), (66, 35), (82, 119), (100, 41), (115, 33), (130, 73), (178, 92), (194, 201), (210, 26), (226, 38), (241, 85), (257, 5), (273, 30), (290, 111), (306, 144), (325, 100), (513, 185), (529, 39), (545, 31)], lk [(12, 191), (13, 178), (14, 48), (15, 145), (16, 146), (17, 116), (18, 192), (19, 181), (20, 182), (21, 157), (22, 147), (23, 148), (24, 117), (25, 78), (26, 79), (27, 80), (28, 34), (29, 180), (30, 154), (31, 129), (32, 89), (33, 35), (34, 90), (35, 91), (36, 58), (37, 115), (38, 155), (39, 175), (40, 201), (41, 199), (42, 200), (43, 196), (44, 197), (45, 198), (46, 193), (47, 172), (48, 194), (49, 183), (50, 184), (51, 185), (52, 156), (53, 158), (54, 131), (55, 132), (56, 95), (57, 24), (58, 54), (59, 21), (60, 92), (61, 49), (62, 50), (63, 51), (76, 69), (79, 118), (80, 44), (81, 81), (82, 37), (127, 133), (128, 96), (129, 97), (130, 56), (325, 55), (220, 22), (358, 98), (330, 62), (85, 110), (86, 36), (83, 109), (84, 108), (87, 70), (88, 71), (77, 77), (78, 76), (89, 33), (90, 59), (91, 84), (92, 40), (93, 38), (94, 88), (96, 29), (97, 47), (98, 94), (95, 130), (99, 93), (100, 52), (121, 99), (122, 100), (123, 83), (124, 82), (125, 39), (126, 101), (131, 168), (132, 135), (133, 136), (134, 170), (135, 169), (136, 138), (138, 103), (401, 137), (139, 104), (140, 105), (142, 107), (143, 64), (144, 65), (146, 67), (137, 102), (141, 106), (147, 68), (148, 17), (145, 66), (149, 28), (150, 45), (151, 20), (152, 46), (181, 16), (182, 15), (316, 30), (321, 73), (326, 32), (362, 140), (365, 173), (366, 174), (356, 74), (387, 190), (397, 189), (386, 171), (363, 139), (372, 144), (341, 114), (361, 112), (335, 75), (227, 111), (224, 141), (327, 60), (364, 176), (367, 177), (336, 142), (377, 143), (357, 113), (355, 72), (317, 31), (213, 10), (331, 63), (329, 61), (228, 27), (238, 25), (303, 26), (304, 6), (106, 86), (120, 134)], [], []⟩
theorem rD7 : ah7 Tryz.prog tb DU7 := at7 mix NC7 all_nil
theorem rE7 : ah7 Tryz.prog tb DV7 := at7 mix ND7 (all_cons rD7 all_nil)
theorem cj7 : ah7 Tryz.prog tb oR7 := at7 mix NE7 all_nil
theorem dl7 : ah7 Tryz.prog tb qE7 := at7 mix NF7 (all_cons rE7 all_nil)
theorem oT7 : ah7 Tryz.prog tb DW7 := at7 mix NG7 (all_cons cj7 all_nil)
theorem ix7 : ah7 Tryz.prog tb z37 := at7 mix NH7 (all_cons cj7 (all_cons dl7 (all_cons oT7 all_nil)))
theorem iy7 : ah7 Tryz.prog tb z47 := at7 mix NI7 all_nil
theorem gd7 : ah7 Tryz.prog tb z57 := at7 mix NJ7 (all_cons iy7 all_nil)
theorem oU7 : ah7 Tryz.prog tb DX7 := at7 mix NK7 all_nil
theorem gv7 : ah7 Tryz.prog tb lE7 := at7 mix NL7 (all_cons gd7 (all_cons oU7 all_nil))
theorem oV7 : ah7 Tryz.prog tb DY7 := at7 mix NM7 all_nil
theorem kl7 : ah7 Tryz.prog tb DZ7 := at7 mix NN7 (all_cons gv7 all_nil)
theorem oW7 : ah7 Tryz.prog tb D07 := at7 mix NO7 (all_cons oV7 (all_cons kl7 all_nil))
theorem sW7 : ah7 Tryz.prog tb D17 := at7 mix NP7 all_nil
theorem dm7 : ah7 Tryz.prog tb sQ7 := at7 mix NQ7 (all_cons ix7 all_nil)
theorem fV7 : ah7 Tryz.prog tb xS7 := at7 mix NR7 (all_cons oW7 all_nil)
theorem dL7 : ah7 Tryz.prog tb oS7 := at7 mix NS7 all_nil
theorem iz7 : ah7 Tryz.prog tb z67 := at7 mix NT7 all_nil
theorem dM7 : ah7 Tryz.prog tb qI7 := at7 mix NU7 (all_cons iz7 all_nil)
theorem iA7 : ah7 Tryz.prog tb z77 := at7 mix NV7 (all_cons dM7 all_nil)
theorem j87 : ah7 Tryz.prog tb z87 := at7 mix NW7 (all_cons iA7 all_nil)
theorem fW7 : ah7 Tryz.prog tb vA7 := at7 mix NX7 (all_cons sW7 (all_cons dm7 (all_cons cj7 (all_cons fV7 (all_cons dL7 all_nil)))))
theorem lX7 : ah7 Tryz.prog tb z97 := at7 mix NY7 (all_cons fW7 all_nil)
theorem hn7 : ah7 Tryz.prog tb Aa7 := at7 mix NZ7 all_nil
theorem km7 : ah7 Tryz.prog tb D27 := at7 mix N07 (all_cons lX7 (all_cons hn7 all_nil))
theorem gw7 : ah7 Tryz.prog tb qK7 := at7 mix N17 all_nil
theorem rF7 : ah7 Tryz.prog tb D37 := at7 mix N27 (all_cons gw7 all_nil)
theorem iB7 : ah7 Tryz.prog tb xT7 := at7 mix N37 all_nil
theorem rG7 : ah7 Tryz.prog tb D47 := at7 mix N47 all_nil
theorem rH7 : ah7 Tryz.prog tb D57 := at7 mix N57 all_nil
theorem oX7 : ah7 Tryz.prog tb D67 := at7 mix N67 (all_cons rG7 all_nil)
theorem lY7 : ah7 Tryz.prog tb D77 := at7 mix N77 (all_cons rH7 (all_cons oX7 all_nil))
theorem sX7 : ah7 Tryz.prog tb D87 := at7 mix N87 all_nil
theorem oY7 : ah7 Tryz.prog tb D97 := at7 mix N97 (all_cons iy7 all_nil)
theorem mU7 : ah7 Tryz.prog tb Ea7 := at7 mix Oa7 (all_cons lY7 (all_cons sX7 (all_cons oY7 all_nil)))
theorem gx7 : ah7 Tryz.prog tb vB7 := at7 mix Ob7 all_nil
theorem rI7 : ah7 Tryz.prog tb Eb7 := at7 mix Oc7 all_nil
theorem mV7 : ah7 Tryz.prog tb Ec7 := at7 mix Od7 (all_cons gd7 (all_cons mU7 (all_cons dl7 all_nil)))
theorem oZ7 : ah7 Tryz.prog tb Ed7 := at7 mix Oe7 (all_cons gx7 all_nil)
theorem rJ7 : ah7 Tryz.prog tb Ee7 := at7 mix Of7 (all_cons rI7 all_nil)
theorem o07 : ah7 Tryz.prog tb vC7 := at7 mix Og7 (all_cons iB7 (all_cons dM7 all_nil))
theorem o17 : ah7 Tryz.prog tb Ab7 := at7 mix Oh7 (all_cons mV7 (all_cons iz7 (all_cons oZ7 (all_cons rJ7 (all_cons ix7 (all_cons dM7 all_nil))))))
theorem rK7 : ah7 Tryz.prog tb Ef7 := at7 mix Oi7 (all_cons gw7 (all_cons rF7 all_nil))
theorem rL7 : ah7 Tryz.prog tb Eg7 := at7 mix Oj7 (all_cons o07 (all_cons gv7 (all_cons o17 all_nil)))
theorem o27 : ah7 Tryz.prog tb Eh7 := at7 mix Ok7 (all_cons rK7 (all_cons rL7 (all_cons iA7 (all_cons dm7 all_nil))))
theorem lZ7 : ah7 Tryz.prog tb Ei7 := at7 mix Ol7 (all_cons km7 all_nil)
theorem kn7 : ah7 Tryz.prog tb Ej7 := at7 mix Om7 (all_cons dm7 (all_cons o27 all_nil))
theorem mW7 : ah7 Tryz.prog tb Ek7 := at7 mix On7 (all_cons lZ7 (all_cons kn7 all_nil))
theorem j97 : ah7 Tryz.prog tb xU7 := de7 mix Oo7 (all_cons fV7 (all_cons j87 all_nil))
theorem fX7 : ah7 Tryz.prog tb sR7 := at7 mix Op7 (all_cons j87 all_nil)
theorem ko7 : ah7 Tryz.prog tb xV7 := at7 mix Oq7 (all_cons lX7 (all_cons hn7 all_nil))
theorem o37 : ah7 Tryz.prog tb Ac7 := de7 mix Or7 (all_cons mW7 (all_cons fV7 (all_cons j97 all_nil)))
theorem cS7 : ah7 Tryz.prog tb sS7 := at7 mix Os7 all_nil
theorem sY7 : ah7 Tryz.prog tb El7 := at7 mix Ot7 (all_cons cS7 all_nil)
theorem fY7 : ah7 Tryz.prog tb xW7 := at7 mix Ou7 (all_cons cS7 all_nil)
theorem ho7 : ah7 Tryz.prog tb Ad7 := at7 mix Ov7 (all_cons sY7 (all_cons cS7 all_nil))
theorem iC7 : ah7 Tryz.prog tb Ae7 := at7 mix Ow7 (all_cons fY7 (all_cons ho7 all_nil))
theorem bP7 : ah7 Tryz.prog tb Af7 := at7 mix Ox7 all_nil
theorem ge7 : ah7 Tryz.prog tb sT7 := at7 mix Oy7 (all_cons bP7 all_nil)
theorem cY7 : ah7 Tryz.prog tb Em7 := at7 mix Oz7 all_nil
theorem gy7 : ah7 Tryz.prog tb xX7 := at7 mix OA7 (all_cons ge7 (all_cons cY7 all_nil))
theorem a07 : ah7 Tryz.prog tb En7 := at7 mix OB7 (all_cons gy7 all_nil)
theorem kp7 : ah7 Tryz.prog tb Eo7 := at7 mix OC7 (all_cons a07 all_nil)
theorem gj7 : ah7 Tryz.prog tb Ep7 := at7 mix OD7 all_nil
theorem e67 : ah7 Tryz.prog tb xY7 := at7 mix OE7 (all_cons gj7 (all_cons kp7 all_nil))
theorem gk7 : ah7 Tryz.prog tb Eq7 := at7 mix OF7 all_nil
theorem hp7 : ah7 Tryz.prog tb Ag7 := at7 mix OG7 (all_cons iC7 all_nil)
theorem g57 : ah7 Tryz.prog tb Ah7 := at7 mix OH7 (all_cons e67 all_nil)
theorem a97 : ah7 Tryz.prog tb Er7 := at7 mix OI7 (all_cons g57 all_nil)
theorem eB7 : ah7 Tryz.prog tb Ai7 := at7 mix OJ7 (all_cons a97 all_nil)
theorem eP7 : ah7 Tryz.prog tb Es7 := at7 mix OK7 (all_cons gk7 all_nil)
theorem iD7 : ah7 Tryz.prog tb Aj7 := at7 mix OL7 all_nil
theorem bh7 : ah7 Tryz.prog tb Et7 := at7 mix OM7 (all_cons iD7 all_nil)
theorem du7 : ah7 Tryz.prog tb xZ7 := at7 mix ON7 (all_cons bh7 all_nil)
theorem cD7 : ah7 Tryz.prog tb x07 := at7 mix OO7 (all_cons cS7 all_nil)
theorem e77 : ah7 Tryz.prog tb Ak7 := at7 mix OP7 all_nil
theorem cx7 : ah7 Tryz.prog tb vD7 := at7 mix OQ7 (all_cons e77 all_nil)
theorem jl7 : ah7 Tryz.prog tb Eu7 := at7 mix OR7 (all_cons cx7 all_nil)
theorem eC7 : ah7 Tryz.prog tb Al7 := at7 mix OS7 (all_cons jl7 all_nil)
theorem dN7 : ah7 Tryz.prog tb vE7 := at7 mix OT7 (all_cons cS7 (all_cons hp7 (all_cons fY7 (all_cons eB7 (all_cons eP7 (all_cons du7 (all_cons cD7 all_nil)))))))
theorem cy7 : ah7 Tryz.prog tb vF7 := at7 mix OU7 all_nil
theorem iE7 : ah7 Tryz.prog tb Am7 := at7 mix OV7 (all_cons cy7 all_nil)
theorem bN7 : ah7 Tryz.prog tb Ev7 := at7 mix OW7 (all_cons iE7 all_nil)
theorem bE7 : ah7 Tryz.prog tb Ew7 := at7 mix OX7 (all_cons bN7 all_nil)
theorem kq7 : ah7 Tryz.prog tb Ex7 := at7 mix OY7 (all_cons dN7 (all_cons cD7 (all_cons cy7 (all_cons bE7 all_nil))))
theorem ce7 : ah7 Tryz.prog tb x57 := xK7 (by kernel_rfl)
theorem bQ7 : ah7 Tryz.prog tb Ey7 := xI7 (by kernel_rfl)
theorem l07 : ah7 Tryz.prog tb An7 := at7 mix OZ7 all_nil
theorem bo7 : ah7 Tryz.prog tb Ez7 := at7 mix O07 (all_cons l07 all_nil)
theorem o47 : ah7 Tryz.prog tb EA7 := at7 mix O17 (all_cons bo7 all_nil)
theorem sZ7 : ah7 Tryz.prog tb EB7 := at7 mix O27 (all_cons o47 (all_cons cx7 all_nil))
theorem mX7 : ah7 Tryz.prog tb J87 := xR7 mix (by kernel_rfl)
theorem l17 : ah7 Tryz.prog tb EC7 := at7 mix O37 (all_cons mX7 all_nil)
theorem mY7 : ah7 Tryz.prog tb ED7 := at7 mix O47 all_nil
theorem jm7 : ah7 Tryz.prog tb Ao7 := at7 mix O57 all_nil
theorem bp7 : ah7 Tryz.prog tb EE7 := at7 mix O67 (all_cons jm7 all_nil)
theorem l27 : ah7 Tryz.prog tb EF7 := at7 mix O77 (all_cons bp7 all_nil)
theorem l37 : ah7 Tryz.prog tb EG7 := at7 mix O87 (all_cons l17 (all_cons mY7 (all_cons bP7 all_nil)))
theorem df7 : ah7 Tryz.prog tb Kl7 := DN7 (by kernel_rfl) (by kernel_rfl)
theorem cT7 : ah7 Tryz.prog tb Ap7 := at7 mix O97 (all_cons df7 all_nil) (hi := by
 rintro (a : List (List Tag)) (a' : List (List Tag)) h1 h2
 simp only [Ap7, List.cons.injEq, AV.ro.injEq, and_true] at h1
 exact (ad7 (sJ7 e07)).1 h1)
theorem mZ7 : ah7 Tryz.prog tb EH7 := at7 mix Pa7 (all_cons l27 all_nil)
theorem jn7 : ah7 Tryz.prog tb vG7 := at7 mix Pb7 all_nil
theorem rM7 : ah7 Tryz.prog tb Aq7 := at7 mix Pc7 (all_cons bQ7 (all_cons ce7 all_nil)) (hi := by
 rintro (a : List (List Feat)) (a' : List (List Feat)) h1 h2
 simp only [Aq7, List.cons.injEq, AV.ro.injEq, and_true] at h1
 exact (ad7 fun x y h => by
  simp only [eSl, sl, List.cons.injEq, T.sl.injEq, and_true, true_and] at h
  exact (ad7 eN7).1 h).1 h1)
theorem m07 : ah7 Tryz.prog tb EI7 := at7 mix Pd7 (all_cons sZ7 all_nil)
theorem kr7 : ah7 Tryz.prog tb vH7 := at7 mix Pe7 (all_cons gy7 all_nil)
theorem bW7 : ah7 Tryz.prog tb EJ7 := at7 mix Pf7 (all_cons ge7 all_nil)
theorem bT7 : ah7 Tryz.prog tb EK7 := at7 mix Pg7 (all_cons jn7 all_nil)
theorem l47 : ah7 Tryz.prog tb EL7 := at7 mix Ph7 (all_cons iC7 (all_cons bW7 (all_cons l37 (all_cons ho7 (all_cons e77 (all_cons cT7 (all_cons bQ7 (all_cons mZ7 (all_cons bT7 (all_cons cx7 (all_cons ce7 all_nil)))))))))))
theorem l77 : ah7 Tryz.prog tb EM7 := at7 mix Pi7 (all_cons kq7 all_nil)
theorem bX7 : ah7 Tryz.prog tb EN7 := at7 mix Pj7 (all_cons kr7 all_nil)
theorem ks7 : ah7 Tryz.prog tb EO7 := at7 mix Pk7 (all_cons hp7 (all_cons rM7 (all_cons m07 (all_cons bX7 (all_cons l47 (all_cons cx7 all_nil))))))
theorem kt7 : ah7 Tryz.prog tb EP7 := at7 mix Pl7 (all_cons eC7 all_nil)
theorem m17 : ah7 Tryz.prog tb EQ7 := at7 mix Pm7 (all_cons l77 (all_cons ks7 all_nil))
theorem l87 : ah7 Tryz.prog tb ER7 := de7 mix Pn7 (all_cons eB7 (all_cons eC7 all_nil))
theorem ku7 : ah7 Tryz.prog tb Ar7 := at7 mix Po7 (all_cons fW7 (all_cons cj7 (all_cons fX7 (all_cons dL7 (all_cons ko7 (all_cons o37 all_nil))))))
theorem kv7 : ah7 Tryz.prog tb As7 := at7 mix Pp7 (all_cons dN7 (all_cons fY7 (all_cons kt7 (all_cons du7 (all_cons cy7 (all_cons m17 (all_cons l87 all_nil)))))))
theorem m27 : ah7 Tryz.prog tb ES7 := de7 mix Pq7 all_nil
theorem aB7 : ah7 Tryz.prog tb cm7 := de7 mix Pr7 all_nil
theorem bt7 : ah7 Tryz.prog tb lR7 := de7 mix Ps7 (all_cons aB7 all_nil)
theorem hL7 : ah7 Tryz.prog tb sU7 := de7 mix Pt7 (all_cons bt7 all_nil)
theorem ka7 : ah7 Tryz.prog tb x97 := de7 mix Pu7 (all_cons bt7 all_nil)
theorem kb7 : ah7 Tryz.prog tb ya7 := de7 mix Pv7 (all_cons bt7 all_nil)
theorem cz7 : ah7 Tryz.prog tb mT7 := de7 mix Pw7 (all_cons aB7 all_nil)
theorem l97 : ah7 Tryz.prog tb rn7 := de7 mix Px7 (all_cons aB7 (all_cons cz7 all_nil))
theorem rN7 : ah7 Tryz.prog tb At7 := at7 mix Py7 all_nil
theorem hq7 : ah7 Tryz.prog tb yb7 := de7 mix Pz7 (all_cons cz7 (all_cons aB7 (all_cons rN7 (all_cons l97 (all_cons dl7 all_nil)))))
theorem fZ7 : ah7 Tryz.prog tb sV7 := de7 mix PA7 (all_cons hq7 (all_cons aB7 (all_cons ka7 (all_cons kb7 (all_cons gx7 all_nil)))))
theorem o57 : ah7 Tryz.prog tb Au7 := de7 mix PB7 (all_cons hq7 (all_cons aB7 (all_cons cz7 all_nil)))
theorem o67 : ah7 Tryz.prog tb Av7 := de7 mix PC7 (all_cons hL7 (all_cons fZ7 (all_cons aB7 (all_cons bt7 (all_cons o57 all_nil)))))
theorem gz7 : ah7 Tryz.prog tb yc7 := de7 mix PD7 all_nil
theorem hr7 : ah7 Tryz.prog tb vI7 := de7 mix PE7 (all_cons aB7 (all_cons hL7 (all_cons fZ7 (all_cons gz7 all_nil))))
theorem o77 : ah7 Tryz.prog tb Aw7 := de7 mix PF7 (all_cons hr7 (all_cons aB7 (all_cons o67 (all_cons gz7 all_nil))))
theorem m37 : ah7 Tryz.prog tb Ax7 := at7 mix PG7 (all_cons cj7 all_nil)
theorem jo7 : ah7 Tryz.prog tb Ay7 := at7 mix PH7 (all_cons fW7 (all_cons cj7 (all_cons fX7 (all_cons dL7 all_nil))))
theorem iF7 : ah7 Tryz.prog tb yd7 := de7 mix PI7 (all_cons bt7 all_nil)
theorem rO7 : ah7 Tryz.prog tb Az7 := at7 mix PJ7 all_nil
theorem o87 : ah7 Tryz.prog tb AA7 := de7 mix PK7 (all_cons aB7 (all_cons l97 (all_cons dl7 all_nil)))
theorem o97 : ah7 Tryz.prog tb AB7 := de7 mix PL7 (all_cons aB7 (all_cons hL7 (all_cons iB7 (all_cons fZ7 (all_cons gw7 (all_cons rO7 (all_cons dM7 (all_cons ka7 (all_cons kb7 (all_cons gx7 (all_cons o87 (all_cons dm7 all_nil))))))))))))
theorem pa7 : ah7 Tryz.prog tb AC7 := de7 mix PM7 (all_cons bt7 all_nil)
theorem pb7 : ah7 Tryz.prog tb ye7 := de7 mix PN7 (all_cons iF7 (all_cons dL7 (all_cons aB7 (all_cons jo7 (all_cons o97 (all_cons pa7 (all_cons fX7 (all_cons j97 all_nil))))))))
theorem pc7 : ah7 Tryz.prog tb AD7 := de7 mix PO7 (all_cons m37 (all_cons hr7 (all_cons aB7 (all_cons pb7 all_nil))))
theorem pd7 : ah7 Tryz.prog tb ET7 := de7 mix PP7 (all_cons pc7 (all_cons aB7 (all_cons cz7 (all_cons o77 all_nil))))
theorem pe7 : ah7 Tryz.prog tb vJ7 := at7 mix PQ7 (all_cons du7 (all_cons dN7 all_nil))
theorem cJ7 : ah7 Tryz.prog tb EU7 := at7 mix PR7 all_nil
theorem aU7 : ah7 Tryz.prog tb EV7 := at7 mix PS7 (all_cons e67 all_nil)
theorem ma7 : ah7 Tryz.prog tb AE7 := at7 mix PT7 (all_cons aU7 (all_cons cJ7 all_nil))
theorem kw7 : ah7 Tryz.prog tb vK7 := at7 mix PU7 (all_cons dN7 (all_cons cD7 (all_cons cy7 all_nil)))
theorem g67 : ah7 Tryz.prog tb AF7 := de7 mix PV7 (all_cons m27 (all_cons pd7 (all_cons iF7 (all_cons bt7 all_nil))))
theorem jp7 : ah7 Tryz.prog tb LY7 := de7 mix PW7 (all_cons g67 (all_cons kv7 (all_cons ku7 (all_cons pe7 (all_cons kw7 (all_cons ma7 all_nil))))))
end Go.Proofs.YtnnfdbdheoajgaaGreat
