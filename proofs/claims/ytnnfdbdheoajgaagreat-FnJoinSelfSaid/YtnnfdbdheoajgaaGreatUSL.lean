/- Lemmas of the proof (USL), on an abstract machine. Conditions: none. -/
import Derived.Test.YtnnfdbdheoajgaaGreatUSS
import Derived.Test.YtnnfdbdheoajgaaGreatHN4
import Derived.Test.YtnnfdbdheoajgaaGreatUSF0
import Derived.Test.YtnnfdbdheoajgaaGreatUSF2
import Derived.Test.YtnnfdbdheoajgaaGreatUSF4
import Derived.Test.YtnnfdbdheoajgaaGreatUSF6
import Derived.Test.YtnnfdbdheoajgaaGreatUSF8
import Derived.Test.YtnnfdbdheoajgaaGreatUSF10
import Derived.Test.YtnnfdbdheoajgaaGreatRow
import Derived.Test.YtnnfdbdheoajgaaGreatRows
set_option linter.unusedVariables false
set_option linter.unusedSimpArgs false
set_option maxRecDepth 100000
set_option maxHeartbeats 4000000
namespace Go.Proofs.YtnnfdbdheoajgaaGreat
open Go.Proofs.AM
def tb : Tab := ⟨lk [(17, 3), (33, 4), (49, 9), (66, 35), (82, 119), (100, 41), (115, 33), (130, 73), (178, 92), (194, 201), (210, 26), (226, 38), (241, 85), (257, 5), (273, 30), (290, 111), (306, 144), (325, 100), (513, 185), (529, 39), (545, 31)], lk [(12, 191), (13, 178), (14, 48), (15, 145), (16, 146), (17, 116), (18, 192), (19, 181), (20, 182), (21, 157), (22, 147), (23, 148), (24, 117), (25, 78), (26, 79), (27, 80), (28, 34), (29, 180), (30, 154), (31, 129), (32, 89), (33, 35), (34, 90), (35, 91), (36, 58), (37, 115), (38, 155), (39, 175), (40, 201), (41, 199), (42, 200), (43, 196), (44, 197), (45, 198), (46, 193), (47, 172), (48, 194), (49, 183), (50, 184), (51, 185), (52, 156), (53, 158), (54, 131), (55, 132), (56, 95), (57, 24), (58, 54), (59, 21), (60, 92), (61, 49), (62, 50), (63, 51), (76, 69), (79, 118), (80, 44), (81, 81), (82, 37), (127, 133), (128, 96), (129, 97), (130, 56), (325, 55), (220, 22), (358, 98), (330, 62), (85, 110), (86, 36), (83, 109), (84, 108), (87, 70), (88, 71), (77, 77), (78, 76), (89, 33), (90, 59), (91, 84), (92, 40), (93, 38), (94, 88), (96, 29), (97, 47), (98, 94), (95, 130), (99, 93), (100, 52), (121, 99), (122, 100), (123, 83), (124, 82), (125, 39), (126, 101), (131, 168), (132, 135), (133, 136), (134, 170), (135, 169), (136, 138), (138, 103), (401, 137), (139, 104), (140, 105), (142, 107), (143, 64), (144, 65), (146, 67), (137, 102), (141, 106), (147, 68), (148, 17), (145, 66), (149, 28), (150, 45), (151, 20), (152, 46), (181, 16), (182, 15), (316, 30), (321, 73), (326, 32), (362, 140), (365, 173), (366, 174), (356, 74), (387, 190), (397, 189), (386, 171), (363, 139), (372, 144), (341, 114), (361, 112), (335, 75), (227, 111), (224, 141), (327, 60), (364, 176), (367, 177), (336, 142), (377, 143), (357, 113), (355, 72), (317, 31), (213, 10), (223, 13), (331, 63), (329, 61), (228, 27), (351, 57), (301, 23), (303, 26), (306, 8), (106, 86), (120, 134)], [], []⟩
theorem rB7 : ah7 Tryz.prog tb D57 := as7 mix NU7 all_nil
theorem rC7 : ah7 Tryz.prog tb D67 := as7 mix NV7 (all_cons rB7 all_nil)
theorem cj7 : ah7 Tryz.prog tb oT7 := as7 mix NW7 all_nil
theorem dh7 : ah7 Tryz.prog tb qC7 := as7 mix NX7 (all_cons rC7 all_nil)
theorem oV7 : ah7 Tryz.prog tb D77 := as7 mix NY7 (all_cons cj7 all_nil)
theorem iz7 : ah7 Tryz.prog tb z77 := as7 mix NZ7 (all_cons cj7 (all_cons dh7 (all_cons oV7 all_nil)))
theorem iA7 : ah7 Tryz.prog tb z87 := as7 mix N07 all_nil
theorem gb7 : ah7 Tryz.prog tb z97 := as7 mix N17 (all_cons iA7 all_nil)
theorem oW7 : ah7 Tryz.prog tb D87 := as7 mix N27 all_nil
theorem gx7 : ah7 Tryz.prog tb lG7 := as7 mix N37 (all_cons gb7 (all_cons oW7 all_nil))
theorem oX7 : ah7 Tryz.prog tb D97 := as7 mix N47 all_nil
theorem kn7 : ah7 Tryz.prog tb Ea7 := as7 mix N57 (all_cons gx7 all_nil)
theorem oY7 : ah7 Tryz.prog tb Eb7 := as7 mix N67 (all_cons oX7 (all_cons kn7 all_nil))
theorem sZ7 : ah7 Tryz.prog tb Ec7 := as7 mix N77 all_nil
theorem di7 : ah7 Tryz.prog tb sT7 := as7 mix N87 (all_cons iz7 all_nil)
theorem fU7 : ah7 Tryz.prog tb xY7 := as7 mix N97 (all_cons oY7 all_nil)
theorem dJ7 : ah7 Tryz.prog tb oU7 := as7 mix Oa7 all_nil
theorem iB7 : ah7 Tryz.prog tb Aa7 := as7 mix Ob7 all_nil
theorem dK7 : ah7 Tryz.prog tb qG7 := as7 mix Oc7 (all_cons iB7 all_nil)
theorem iC7 : ah7 Tryz.prog tb Ab7 := as7 mix Od7 (all_cons dK7 all_nil)
theorem ka7 : ah7 Tryz.prog tb Ac7 := as7 mix Oe7 (all_cons iC7 all_nil)
theorem fV7 : ah7 Tryz.prog tb vF7 := as7 mix Of7 (all_cons sZ7 (all_cons di7 (all_cons cj7 (all_cons fU7 (all_cons dJ7 all_nil)))))
theorem lZ7 : ah7 Tryz.prog tb Ad7 := as7 mix Og7 (all_cons fV7 all_nil)
theorem hq7 : ah7 Tryz.prog tb Ae7 := as7 mix Oh7 all_nil
theorem ko7 : ah7 Tryz.prog tb Ed7 := as7 mix Oi7 (all_cons lZ7 (all_cons hq7 all_nil))
theorem gy7 : ah7 Tryz.prog tb qI7 := as7 mix Oj7 all_nil
theorem rD7 : ah7 Tryz.prog tb Ee7 := as7 mix Ok7 (all_cons gy7 all_nil)
theorem iD7 : ah7 Tryz.prog tb xZ7 := as7 mix Ol7 all_nil
theorem rE7 : ah7 Tryz.prog tb Ef7 := as7 mix Om7 all_nil
theorem rF7 : ah7 Tryz.prog tb Eg7 := as7 mix On7 all_nil
theorem oZ7 : ah7 Tryz.prog tb Eh7 := as7 mix Oo7 (all_cons rE7 all_nil)
theorem l07 : ah7 Tryz.prog tb Ei7 := as7 mix Op7 (all_cons rF7 (all_cons oZ7 all_nil))
theorem s07 : ah7 Tryz.prog tb Ej7 := as7 mix Oq7 all_nil
theorem o07 : ah7 Tryz.prog tb Ek7 := as7 mix Or7 (all_cons iA7 all_nil)
theorem mV7 : ah7 Tryz.prog tb El7 := as7 mix Os7 (all_cons l07 (all_cons s07 (all_cons o07 all_nil)))
theorem gz7 : ah7 Tryz.prog tb vG7 := as7 mix Ot7 all_nil
theorem rG7 : ah7 Tryz.prog tb Em7 := as7 mix Ou7 all_nil
theorem mW7 : ah7 Tryz.prog tb En7 := as7 mix Ov7 (all_cons gb7 (all_cons mV7 (all_cons dh7 all_nil)))
theorem o17 : ah7 Tryz.prog tb Eo7 := as7 mix Ow7 (all_cons gz7 all_nil)
theorem rH7 : ah7 Tryz.prog tb Ep7 := as7 mix Ox7 (all_cons rG7 all_nil)
theorem o27 : ah7 Tryz.prog tb vH7 := as7 mix Oy7 (all_cons iD7 (all_cons dK7 all_nil))
theorem o37 : ah7 Tryz.prog tb Af7 := as7 mix Oz7 (all_cons mW7 (all_cons iB7 (all_cons o17 (all_cons rH7 (all_cons iz7 (all_cons dK7 all_nil))))))
theorem rI7 : ah7 Tryz.prog tb Eq7 := as7 mix OA7 (all_cons gy7 (all_cons rD7 all_nil))
theorem rJ7 : ah7 Tryz.prog tb Er7 := as7 mix OB7 (all_cons o27 (all_cons gx7 (all_cons o37 all_nil)))
theorem o47 : ah7 Tryz.prog tb Es7 := as7 mix OC7 (all_cons rI7 (all_cons rJ7 (all_cons iC7 (all_cons di7 all_nil))))
theorem l17 : ah7 Tryz.prog tb Et7 := as7 mix OD7 (all_cons ko7 all_nil)
theorem kp7 : ah7 Tryz.prog tb Eu7 := as7 mix OE7 (all_cons di7 (all_cons o47 all_nil))
theorem mX7 : ah7 Tryz.prog tb Ev7 := as7 mix OF7 (all_cons l17 (all_cons kp7 all_nil))
theorem kb7 : ah7 Tryz.prog tb x07 := c97 mix OG7 (all_cons fU7 (all_cons ka7 all_nil))
theorem fW7 : ah7 Tryz.prog tb sU7 := as7 mix OH7 (all_cons ka7 all_nil)
theorem kq7 : ah7 Tryz.prog tb x57 := as7 mix OI7 (all_cons lZ7 (all_cons hq7 all_nil))
theorem o57 : ah7 Tryz.prog tb Ag7 := c97 mix OJ7 (all_cons mX7 (all_cons fU7 (all_cons kb7 all_nil)))
theorem cP7 : ah7 Tryz.prog tb sV7 := as7 mix OK7 all_nil
theorem s17 : ah7 Tryz.prog tb Ew7 := as7 mix OL7 (all_cons cP7 all_nil)
theorem dL7 : ah7 Tryz.prog tb vI7 := as7 mix OM7 (all_cons cP7 all_nil)
theorem hr7 : ah7 Tryz.prog tb Ah7 := as7 mix ON7 (all_cons s17 (all_cons cP7 all_nil))
theorem iE7 : ah7 Tryz.prog tb Ai7 := as7 mix OO7 (all_cons dL7 (all_cons hr7 all_nil))
theorem bR7 : ah7 Tryz.prog tb Aj7 := as7 mix OP7 all_nil
theorem gc7 : ah7 Tryz.prog tb sW7 := as7 mix OQ7 (all_cons bR7 all_nil)
theorem cV7 : ah7 Tryz.prog tb Ex7 := as7 mix OR7 all_nil
theorem gA7 : ah7 Tryz.prog tb x87 := as7 mix OS7 (all_cons gc7 (all_cons cV7 all_nil))
theorem a07 : ah7 Tryz.prog tb Ey7 := as7 mix OT7 (all_cons gA7 all_nil)
theorem kr7 : ah7 Tryz.prog tb Ez7 := as7 mix OU7 (all_cons a07 all_nil)
theorem gj7 : ah7 Tryz.prog tb EA7 := as7 mix OV7 all_nil
theorem e47 : ah7 Tryz.prog tb x97 := as7 mix OW7 (all_cons gj7 (all_cons kr7 all_nil))
theorem gk7 : ah7 Tryz.prog tb EB7 := as7 mix OX7 all_nil
theorem hs7 : ah7 Tryz.prog tb Ak7 := as7 mix OY7 (all_cons iE7 all_nil)
theorem g77 : ah7 Tryz.prog tb Al7 := as7 mix OZ7 (all_cons e47 all_nil)
theorem bc7 : ah7 Tryz.prog tb EC7 := as7 mix O07 (all_cons g77 all_nil)
theorem ez7 : ah7 Tryz.prog tb Am7 := as7 mix O17 (all_cons bc7 all_nil)
theorem eL7 : ah7 Tryz.prog tb ED7 := as7 mix O27 (all_cons gk7 all_nil)
theorem iF7 : ah7 Tryz.prog tb An7 := as7 mix O37 all_nil
theorem bj7 : ah7 Tryz.prog tb EE7 := as7 mix O47 (all_cons iF7 all_nil)
theorem cw7 : ah7 Tryz.prog tb vJ7 := as7 mix O57 (all_cons bj7 all_nil)
theorem dW7 : ah7 Tryz.prog tb Ao7 := as7 mix O67 (all_cons cP7 all_nil)
theorem e57 : ah7 Tryz.prog tb Ap7 := as7 mix O77 all_nil
theorem cx7 : ah7 Tryz.prog tb vK7 := as7 mix O87 (all_cons e57 all_nil)
theorem jp7 : ah7 Tryz.prog tb EF7 := as7 mix O97 (all_cons cx7 all_nil)
theorem eA7 : ah7 Tryz.prog tb Aq7 := as7 mix Pa7 (all_cons jp7 all_nil)
theorem dM7 : ah7 Tryz.prog tb vL7 := as7 mix Pb7 (all_cons cP7 (all_cons hs7 (all_cons dL7 (all_cons ez7 (all_cons eL7 (all_cons cw7 (all_cons dW7 all_nil)))))))
theorem dt7 : ah7 Tryz.prog tb ya7 := as7 mix Pc7 all_nil
theorem iG7 : ah7 Tryz.prog tb Ar7 := as7 mix Pd7 (all_cons dt7 all_nil)
theorem bQ7 : ah7 Tryz.prog tb EG7 := as7 mix Pe7 (all_cons iG7 all_nil)
theorem bG7 : ah7 Tryz.prog tb EH7 := as7 mix Pf7 (all_cons bQ7 all_nil)
theorem ks7 : ah7 Tryz.prog tb EI7 := as7 mix Pg7 (all_cons dM7 (all_cons dW7 (all_cons dt7 (all_cons bG7 all_nil))))
theorem ce7 : ah7 Tryz.prog tb yb7 := xQ7 (by kernel_rfl)
theorem bS7 : ah7 Tryz.prog tb EJ7 := xO7 (by kernel_rfl)
theorem l27 : ah7 Tryz.prog tb As7 := as7 mix Ph7 all_nil
theorem bq7 : ah7 Tryz.prog tb EK7 := as7 mix Pi7 (all_cons l27 all_nil)
theorem o67 : ah7 Tryz.prog tb EL7 := as7 mix Pj7 (all_cons bq7 all_nil)
theorem s27 : ah7 Tryz.prog tb EM7 := as7 mix Pk7 (all_cons o67 (all_cons cx7 all_nil))
theorem mY7 : ah7 Tryz.prog tb Kl7 := xX7 mix (by kernel_rfl)
theorem l37 : ah7 Tryz.prog tb EN7 := as7 mix Pl7 (all_cons mY7 all_nil)
theorem mZ7 : ah7 Tryz.prog tb EO7 := as7 mix Pm7 all_nil
theorem jq7 : ah7 Tryz.prog tb At7 := as7 mix Pn7 all_nil
theorem br7 : ah7 Tryz.prog tb EP7 := as7 mix Po7 (all_cons jq7 all_nil)
theorem l47 : ah7 Tryz.prog tb EQ7 := as7 mix Pp7 (all_cons br7 all_nil)
theorem l67 : ah7 Tryz.prog tb ER7 := as7 mix Pq7 (all_cons l37 (all_cons mZ7 (all_cons bR7 all_nil)))
theorem da7 : ah7 Tryz.prog tb Ky7 := DY7 (by kernel_rfl) (by kernel_rfl)
theorem cQ7 : ah7 Tryz.prog tb Au7 := as7 mix Pr7 (all_cons da7 all_nil) (hi := by
 rintro (a : List (List Tag)) (a' : List (List Tag)) h1 h2
 simp only [Au7, List.cons.injEq, AV.ro.injEq, and_true] at h1
 exact (ad7 (sM7 eY7)).1 h1)
theorem m07 : ah7 Tryz.prog tb ES7 := as7 mix Ps7 (all_cons l47 all_nil)
theorem jr7 : ah7 Tryz.prog tb vM7 := as7 mix Pt7 all_nil
theorem rK7 : ah7 Tryz.prog tb Av7 := as7 mix Pu7 (all_cons bS7 (all_cons ce7 all_nil)) (hi := by
 rintro (a : List (List Feat)) (a' : List (List Feat)) h1 h2
 simp only [Av7, List.cons.injEq, AV.ro.injEq, and_true] at h1
 exact (ad7 fun x y h => by
  simp only [eSl, sl, List.cons.injEq, T.sl.injEq, and_true, true_and] at h
  exact (ad7 eJ7).1 h).1 h1)
theorem m17 : ah7 Tryz.prog tb ET7 := as7 mix Pv7 (all_cons s27 all_nil)
theorem kt7 : ah7 Tryz.prog tb vN7 := as7 mix Pw7 (all_cons gA7 all_nil)
theorem bW7 : ah7 Tryz.prog tb EU7 := as7 mix Px7 (all_cons gc7 all_nil)
theorem bV7 : ah7 Tryz.prog tb EV7 := as7 mix Py7 (all_cons jr7 all_nil)
theorem l77 : ah7 Tryz.prog tb EW7 := as7 mix Pz7 (all_cons iE7 (all_cons bW7 (all_cons l67 (all_cons hr7 (all_cons e57 (all_cons cQ7 (all_cons bS7 (all_cons m07 (all_cons bV7 (all_cons cx7 (all_cons ce7 all_nil)))))))))))
theorem l87 : ah7 Tryz.prog tb EX7 := as7 mix PA7 (all_cons ks7 all_nil)
theorem bX7 : ah7 Tryz.prog tb EY7 := as7 mix PB7 (all_cons kt7 all_nil)
theorem ku7 : ah7 Tryz.prog tb EZ7 := as7 mix PC7 (all_cons hs7 (all_cons rK7 (all_cons m17 (all_cons bX7 (all_cons l77 (all_cons cx7 all_nil))))))
theorem gd7 : ah7 Tryz.prog tb Aw7 := as7 mix PD7 (all_cons eA7 all_nil)
theorem m27 : ah7 Tryz.prog tb E07 := as7 mix PE7 (all_cons l87 (all_cons ku7 all_nil))
theorem l97 : ah7 Tryz.prog tb E17 := c97 mix PF7 (all_cons ez7 (all_cons eA7 all_nil))
theorem kv7 : ah7 Tryz.prog tb Ax7 := as7 mix PG7 (all_cons fV7 (all_cons cj7 (all_cons fW7 (all_cons dJ7 (all_cons kq7 (all_cons o57 all_nil))))))
theorem kw7 : ah7 Tryz.prog tb vO7 := as7 mix PH7 (all_cons dM7 (all_cons dL7 (all_cons gd7 (all_cons cw7 (all_cons dt7 (all_cons m27 (all_cons l97 all_nil)))))))
theorem m37 : ah7 Tryz.prog tb E27 := c97 mix PI7 all_nil
theorem aB7 : ah7 Tryz.prog tb cl7 := c97 mix PJ7 all_nil
theorem bw7 : ah7 Tryz.prog tb lU7 := c97 mix PK7 (all_cons aB7 all_nil)
theorem hO7 : ah7 Tryz.prog tb sX7 := c97 mix PL7 (all_cons bw7 all_nil)
theorem kc7 : ah7 Tryz.prog tb yc7 := c97 mix PM7 (all_cons bw7 all_nil)
theorem kd7 : ah7 Tryz.prog tb yd7 := c97 mix PN7 (all_cons bw7 all_nil)
theorem cy7 : ah7 Tryz.prog tb mU7 := c97 mix PO7 (all_cons aB7 all_nil)
theorem ma7 : ah7 Tryz.prog tb rk7 := c97 mix PP7 (all_cons aB7 (all_cons cy7 all_nil))
theorem rL7 : ah7 Tryz.prog tb Ay7 := as7 mix PQ7 all_nil
theorem ht7 : ah7 Tryz.prog tb ye7 := c97 mix PR7 (all_cons cy7 (all_cons aB7 (all_cons rL7 (all_cons ma7 (all_cons dh7 all_nil)))))
theorem fX7 : ah7 Tryz.prog tb sY7 := c97 mix PS7 (all_cons ht7 (all_cons aB7 (all_cons kc7 (all_cons kd7 (all_cons gz7 all_nil)))))
theorem o77 : ah7 Tryz.prog tb Az7 := c97 mix PT7 (all_cons ht7 (all_cons aB7 (all_cons cy7 all_nil)))
theorem o87 : ah7 Tryz.prog tb AA7 := c97 mix PU7 (all_cons hO7 (all_cons fX7 (all_cons aB7 (all_cons bw7 (all_cons o77 all_nil)))))
theorem gB7 : ah7 Tryz.prog tb yf7 := c97 mix PV7 all_nil
theorem hu7 : ah7 Tryz.prog tb vP7 := c97 mix PW7 (all_cons aB7 (all_cons hO7 (all_cons fX7 (all_cons gB7 all_nil))))
theorem o97 : ah7 Tryz.prog tb AB7 := c97 mix PX7 (all_cons hu7 (all_cons aB7 (all_cons o87 (all_cons gB7 all_nil))))
theorem m47 : ah7 Tryz.prog tb AC7 := as7 mix PY7 (all_cons cj7 all_nil)
theorem js7 : ah7 Tryz.prog tb AD7 := as7 mix PZ7 (all_cons fV7 (all_cons cj7 (all_cons fW7 (all_cons dJ7 all_nil))))
theorem iH7 : ah7 Tryz.prog tb yg7 := c97 mix P07 (all_cons bw7 all_nil)
theorem rM7 : ah7 Tryz.prog tb AE7 := as7 mix P17 all_nil
theorem pa7 : ah7 Tryz.prog tb AF7 := c97 mix P27 (all_cons aB7 (all_cons ma7 (all_cons dh7 all_nil)))
theorem pb7 : ah7 Tryz.prog tb AG7 := c97 mix P37 (all_cons aB7 (all_cons hO7 (all_cons iD7 (all_cons fX7 (all_cons gy7 (all_cons rM7 (all_cons dK7 (all_cons kc7 (all_cons kd7 (all_cons gz7 (all_cons pa7 (all_cons di7 all_nil))))))))))))
theorem pc7 : ah7 Tryz.prog tb AH7 := c97 mix P47 (all_cons bw7 all_nil)
theorem pd7 : ah7 Tryz.prog tb yh7 := c97 mix P57 (all_cons iH7 (all_cons dJ7 (all_cons aB7 (all_cons js7 (all_cons pb7 (all_cons pc7 (all_cons fW7 (all_cons kb7 all_nil))))))))
theorem pe7 : ah7 Tryz.prog tb AI7 := c97 mix P67 (all_cons m47 (all_cons hu7 (all_cons aB7 (all_cons pd7 all_nil))))
theorem pf7 : ah7 Tryz.prog tb E37 := c97 mix P77 (all_cons pe7 (all_cons aB7 (all_cons cy7 (all_cons o97 all_nil))))
theorem pg7 : ah7 Tryz.prog tb AJ7 := as7 mix P87 (all_cons cw7 (all_cons dM7 all_nil))
theorem jt7 : ah7 Tryz.prog tb AK7 := as7 mix P97 (all_cons dM7 (all_cons dL7 (all_cons gd7 (all_cons cw7 all_nil))))
theorem cH7 : ah7 Tryz.prog tb E47 := as7 mix Qa7 all_nil
theorem aU7 : ah7 Tryz.prog tb E57 := as7 mix Qb7 (all_cons e47 all_nil)
theorem mb7 : ah7 Tryz.prog tb vQ7 := as7 mix Qc7 (all_cons aU7 (all_cons cH7 all_nil))
theorem cq7 : ah7 Tryz.prog tb E67 := as7 mix Qd7 all_nil
theorem kx7 : ah7 Tryz.prog tb AL7 := as7 mix Qe7 (all_cons cq7 all_nil)
theorem g87 : ah7 Tryz.prog tb AM7 := c97 mix Qf7 (all_cons m37 (all_cons pf7 (all_cons iH7 (all_cons bw7 all_nil))))
theorem ju7 : ah7 Tryz.prog tb Mf7 := c97 mix Qg7 (all_cons g87 (all_cons kw7 (all_cons kv7 (all_cons mb7 (all_cons kx7 (all_cons pg7 (all_cons jt7 all_nil)))))))
end Go.Proofs.YtnnfdbdheoajgaaGreat
