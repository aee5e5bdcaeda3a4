/- Lemmas of the proof (UTL), on an abstract machine. Conditions: none. -/
import Derived.Test.YtnnfdbdheoajgaaGreatUTS
import Derived.Test.YtnnfdbdheoajgaaGreatHN4
import Derived.Test.YtnnfdbdheoajgaaGreatUTF0
import Derived.Test.YtnnfdbdheoajgaaGreatUTF2
import Derived.Test.YtnnfdbdheoajgaaGreatUTF4
import Derived.Test.YtnnfdbdheoajgaaGreatUTF6
import Derived.Test.YtnnfdbdheoajgaaGreatUTF8
import Derived.Test.YtnnfdbdheoajgaaGreatUTF10
import Derived.Test.YtnnfdbdheoajgaaGreatRow
import Derived.Test.YtnnfdbdheoajgaaGreatRows
set_option linter.unusedVariables false
set_option linter.unusedSimpArgs false
set_option maxRecDepth 100000
set_option maxHeartbeats 4000000
namespace Go.Proofs.YtnnfdbdheoajgaaGreat
open Go.Proofs.AM
def tb : Tab := ⟨lk [(17, 3), (33, 4), (49, 9), (66, 35), (82, 119), (100, 41), (115, 33), (130, 73), (178, 92), (194, 201), (210, 26), (226, 38), (241, 85), (257, 5), (273, 30), (290, 111), (306, 144), (325, 100), (513, 185), (529, 39), (545, 31)], lk [(12, 191), (13, 178), (14, 48), (15, 145), (16, 146), (17, 116), (18, 192), (19, 181), (20, 182), (21, 157), (22, 147), (23, 148), (24, 117), (25, 78), (26, 79), (27, 80), (28, 34), (29, 180), (30, 154), (31, 129), (32, 89), (33, 35), (34, 90), (35, 91), (36, 58), (37, 115), (38, 155), (39, 175), (40, 201), (41, 199), (42, 200), (43, 196), (44, 197), (45, 198), (46, 193), (47, 172), (48, 194), (49, 183), (50, 184), (51, 185), (52, 156), (53, 158), (54, 131), (55, 132), (56, 95), (57, 24), (58, 54), (59, 21), (60, 92), (61, 49), (76, 69), (79, 118), (80, 44), (81, 81), (82, 37), (127, 133), (128, 96), (129, 97), (130, 56), (325, 55), (220, 22), (358, 98), (330, 62), (85, 110), (86, 36), (83, 109), (84, 108), (87, 70), (88, 71), (77, 77), (78, 76), (89, 33), (90, 59), (91, 84), (92, 40), (96, 29), (97, 47), (98, 94), (95, 130), (99, 93), (100, 52), (121, 99), (122, 100), (123, 83), (124, 82), (125, 39), (126, 101), (131, 168), (132, 135), (133, 136), (134, 170), (135, 169), (136, 138), (138, 103), (401, 137), (139, 104), (140, 105), (142, 107), (143, 64), (144, 65), (146, 67), (137, 102), (141, 106), (147, 68), (148, 17), (145, 66), (149, 28), (151, 20), (316, 30), (321, 73), (326, 32), (362, 140), (365, 173), (366, 174), (356, 74), (387, 190), (397, 189), (386, 171), (363, 139), (372, 144), (341, 114), (361, 112), (335, 75), (227, 111), (224, 141), (327, 60), (364, 176), (367, 177), (336, 142), (377, 143), (357, 113), (355, 72), (317, 31), (334, 53), (238, 25), (300, 19), (351, 57), (301, 23), (299, 4), (106, 86), (120, 134)], [], []⟩
theorem rj7 : ai7 Tryz.prog tb DR7 := aw7 mix Nu7 all_nil
theorem rk7 : ai7 Tryz.prog tb DS7 := aw7 mix Nv7 (all_cons rj7 all_nil)
theorem cP7 : ai7 Tryz.prog tb sx7 := aw7 mix Nw7 all_nil
theorem dd7 : ai7 Tryz.prog tb qj7 := aw7 mix Nx7 (all_cons rk7 all_nil)
theorem oz7 : ai7 Tryz.prog tb DT7 := aw7 mix Ny7 (all_cons cP7 all_nil)
theorem ip7 : ai7 Tryz.prog tb zW7 := aw7 mix Nz7 (all_cons cP7 (all_cons dd7 (all_cons oz7 all_nil)))
theorem iq7 : ai7 Tryz.prog tb zX7 := aw7 mix NA7 all_nil
theorem fW7 : ai7 Tryz.prog tb zY7 := aw7 mix NB7 (all_cons iq7 all_nil)
theorem oA7 : ai7 Tryz.prog tb DU7 := aw7 mix NC7 all_nil
theorem gr7 : ai7 Tryz.prog tb lu7 := aw7 mix ND7 (all_cons fW7 (all_cons oA7 all_nil))
theorem oB7 : ai7 Tryz.prog tb DV7 := aw7 mix NE7 all_nil
theorem j87 : ai7 Tryz.prog tb DW7 := aw7 mix NF7 (all_cons gr7 all_nil)
theorem oC7 : ai7 Tryz.prog tb DX7 := aw7 mix NG7 (all_cons oB7 (all_cons j87 all_nil))
theorem sE7 : ai7 Tryz.prog tb DY7 := aw7 mix NH7 all_nil
theorem de7 : ai7 Tryz.prog tb sy7 := aw7 mix NI7 (all_cons ip7 all_nil)
theorem ir7 : ai7 Tryz.prog tb zZ7 := aw7 mix NJ7 (all_cons oC7 all_nil)
theorem fL7 : ai7 Tryz.prog tb vv7 := aw7 mix NK7 all_nil
theorem is7 : ai7 Tryz.prog tb z07 := aw7 mix NL7 all_nil
theorem dJ7 : ai7 Tryz.prog tb qn7 := aw7 mix NM7 (all_cons is7 all_nil)
theorem it7 : ai7 Tryz.prog tb z17 := aw7 mix NN7 (all_cons dJ7 all_nil)
theorem jY7 : ai7 Tryz.prog tb z27 := aw7 mix NO7 (all_cons it7 all_nil)
theorem iu7 : ai7 Tryz.prog tb z37 := aw7 mix NP7 (all_cons sE7 (all_cons de7 (all_cons cP7 (all_cons ir7 (all_cons fL7 all_nil)))))
theorem sF7 : ai7 Tryz.prog tb DZ7 := aw7 mix NQ7 (all_cons iu7 all_nil)
theorem mu7 : ai7 Tryz.prog tb D07 := aw7 mix NR7 all_nil
theorem j97 : ai7 Tryz.prog tb D17 := aw7 mix NS7 (all_cons sF7 (all_cons mu7 all_nil))
theorem gs7 : ai7 Tryz.prog tb qp7 := aw7 mix NT7 all_nil
theorem rl7 : ai7 Tryz.prog tb D27 := aw7 mix NU7 (all_cons gs7 all_nil)
theorem iv7 : ai7 Tryz.prog tb xL7 := aw7 mix NV7 all_nil
theorem rm7 : ai7 Tryz.prog tb D37 := aw7 mix NW7 all_nil
theorem rn7 : ai7 Tryz.prog tb D47 := aw7 mix NX7 all_nil
theorem oD7 : ai7 Tryz.prog tb D57 := aw7 mix NY7 (all_cons rm7 all_nil)
theorem lK7 : ai7 Tryz.prog tb D67 := aw7 mix NZ7 (all_cons rn7 (all_cons oD7 all_nil))
theorem sG7 : ai7 Tryz.prog tb D77 := aw7 mix N07 all_nil
theorem oE7 : ai7 Tryz.prog tb D87 := aw7 mix N17 (all_cons iq7 all_nil)
theorem mv7 : ai7 Tryz.prog tb D97 := aw7 mix N27 (all_cons lK7 (all_cons sG7 (all_cons oE7 all_nil)))
theorem gt7 : ai7 Tryz.prog tb vw7 := aw7 mix N37 all_nil
theorem ro7 : ai7 Tryz.prog tb Ea7 := aw7 mix N47 all_nil
theorem mw7 : ai7 Tryz.prog tb Eb7 := aw7 mix N57 (all_cons fW7 (all_cons mv7 (all_cons dd7 all_nil)))
theorem oF7 : ai7 Tryz.prog tb Ec7 := aw7 mix N67 (all_cons gt7 all_nil)
theorem rp7 : ai7 Tryz.prog tb Ed7 := aw7 mix N77 (all_cons ro7 all_nil)
theorem oG7 : ai7 Tryz.prog tb vx7 := aw7 mix N87 (all_cons iv7 (all_cons dJ7 all_nil))
theorem oH7 : ai7 Tryz.prog tb z47 := aw7 mix N97 (all_cons mw7 (all_cons is7 (all_cons oF7 (all_cons rp7 (all_cons ip7 (all_cons dJ7 all_nil))))))
theorem rq7 : ai7 Tryz.prog tb Ee7 := aw7 mix Oa7 (all_cons gs7 (all_cons rl7 all_nil))
theorem rr7 : ai7 Tryz.prog tb Ef7 := aw7 mix Ob7 (all_cons oG7 (all_cons gr7 (all_cons oH7 all_nil)))
theorem oI7 : ai7 Tryz.prog tb Eg7 := aw7 mix Oc7 (all_cons rq7 (all_cons rr7 (all_cons it7 (all_cons de7 all_nil))))
theorem gu7 : ai7 Tryz.prog tb xM7 := aw7 mix Od7 (all_cons j97 all_nil)
theorem ka7 : ai7 Tryz.prog tb Eh7 := aw7 mix Oe7 (all_cons de7 (all_cons oI7 all_nil))
theorem mx7 : ai7 Tryz.prog tb z57 := aw7 mix Of7 (all_cons gu7 (all_cons ka7 all_nil))
theorem rs7 : ai7 Tryz.prog tb z67 := dl7 mix Og7 (all_cons ir7 (all_cons jY7 all_nil))
theorem iw7 : ai7 Tryz.prog tb xN7 := aw7 mix Oh7 (all_cons jY7 all_nil)
theorem cQ7 : ai7 Tryz.prog tb sz7 := aw7 mix Oi7 all_nil
theorem sH7 : ai7 Tryz.prog tb Ei7 := aw7 mix Oj7 (all_cons cQ7 all_nil)
theorem ix7 : ai7 Tryz.prog tb z77 := aw7 mix Ok7 (all_cons cQ7 all_nil)
theorem he7 : ai7 Tryz.prog tb z87 := aw7 mix Ol7 (all_cons sH7 (all_cons cQ7 all_nil))
theorem iy7 : ai7 Tryz.prog tb z97 := aw7 mix Om7 (all_cons ix7 (all_cons he7 all_nil))
theorem bP7 : ai7 Tryz.prog tb Aa7 := aw7 mix On7 all_nil
theorem fX7 : ai7 Tryz.prog tb sA7 := aw7 mix Oo7 (all_cons bP7 all_nil)
theorem cU7 : ai7 Tryz.prog tb Ej7 := aw7 mix Op7 all_nil
theorem gv7 : ai7 Tryz.prog tb xO7 := aw7 mix Oq7 (all_cons fX7 (all_cons cU7 all_nil))
theorem a27 : ai7 Tryz.prog tb Ek7 := aw7 mix Or7 (all_cons gv7 all_nil)
theorem fY7 : ai7 Tryz.prog tb sB7 := aw7 mix Os7 (all_cons a27 all_nil)
theorem f67 : ai7 Tryz.prog tb El7 := aw7 mix Ot7 all_nil
theorem jh7 : ai7 Tryz.prog tb Em7 := aw7 mix Ou7 (all_cons f67 (all_cons fY7 all_nil))
theorem f77 : ai7 Tryz.prog tb En7 := aw7 mix Ov7 all_nil
theorem hf7 : ai7 Tryz.prog tb Ab7 := aw7 mix Ow7 (all_cons iy7 all_nil)
theorem g07 : ai7 Tryz.prog tb Ac7 := aw7 mix Ox7 (all_cons jh7 all_nil)
theorem ba7 : ai7 Tryz.prog tb Eo7 := aw7 mix Oy7 (all_cons g07 all_nil)
theorem iz7 : ai7 Tryz.prog tb Ep7 := aw7 mix Oz7 (all_cons ba7 all_nil)
theorem eE7 : ai7 Tryz.prog tb Eq7 := aw7 mix OA7 (all_cons f77 all_nil)
theorem iA7 : ai7 Tryz.prog tb Ad7 := aw7 mix OB7 all_nil
theorem bl7 : ai7 Tryz.prog tb Er7 := aw7 mix OC7 (all_cons iA7 all_nil)
theorem kb7 : ai7 Tryz.prog tb Es7 := aw7 mix OD7 (all_cons bl7 all_nil)
theorem cD7 : ai7 Tryz.prog tb xP7 := aw7 mix OE7 (all_cons cQ7 all_nil)
theorem eU7 : ai7 Tryz.prog tb Ae7 := aw7 mix OF7 all_nil
theorem do7 : ai7 Tryz.prog tb xQ7 := aw7 mix OG7 (all_cons eU7 all_nil)
theorem iB7 : ai7 Tryz.prog tb Af7 := aw7 mix OH7 (all_cons cQ7 (all_cons hf7 (all_cons ix7 (all_cons iz7 (all_cons eE7 (all_cons kb7 (all_cons cD7 all_nil)))))))
theorem dp7 : ai7 Tryz.prog tb xR7 := aw7 mix OI7 all_nil
theorem iC7 : ai7 Tryz.prog tb Ag7 := aw7 mix OJ7 (all_cons dp7 all_nil)
theorem bM7 : ai7 Tryz.prog tb Et7 := aw7 mix OK7 (all_cons iC7 all_nil)
theorem bE7 : ai7 Tryz.prog tb Eu7 := aw7 mix OL7 (all_cons bM7 all_nil)
theorem kc7 : ai7 Tryz.prog tb Ev7 := aw7 mix OM7 (all_cons iB7 (all_cons cD7 (all_cons dp7 (all_cons bE7 all_nil))))
theorem cd7 : ai7 Tryz.prog tb xS7 := xD7 (by kernel_rfl)
theorem bQ7 : ai7 Tryz.prog tb Ew7 := xB7 (by kernel_rfl)
theorem lL7 : ai7 Tryz.prog tb Ah7 := aw7 mix ON7 all_nil
theorem br7 : ai7 Tryz.prog tb Ex7 := aw7 mix OO7 (all_cons lL7 all_nil)
theorem oJ7 : ai7 Tryz.prog tb Ey7 := aw7 mix OP7 (all_cons br7 all_nil)
theorem sI7 : ai7 Tryz.prog tb Ez7 := aw7 mix OQ7 (all_cons oJ7 (all_cons do7 all_nil))
theorem my7 : ai7 Tryz.prog tb J37 := xK7 mix (by kernel_rfl)
theorem lM7 : ai7 Tryz.prog tb EA7 := aw7 mix OR7 (all_cons my7 all_nil)
theorem mz7 : ai7 Tryz.prog tb EB7 := aw7 mix OS7 all_nil
theorem ji7 : ai7 Tryz.prog tb Ai7 := aw7 mix OT7 all_nil
theorem bs7 : ai7 Tryz.prog tb EC7 := aw7 mix OU7 (all_cons ji7 all_nil)
theorem lN7 : ai7 Tryz.prog tb ED7 := aw7 mix OV7 (all_cons bs7 all_nil)
theorem lO7 : ai7 Tryz.prog tb EE7 := aw7 mix OW7 (all_cons lM7 (all_cons mz7 (all_cons bP7 all_nil)))
theorem c77 : ai7 Tryz.prog tb Kg7 := DK7 (by kernel_rfl) (by kernel_rfl)
theorem cR7 : ai7 Tryz.prog tb Aj7 := aw7 mix OX7 (all_cons c77 all_nil) (hi := by
 rintro (a : List (List Tag)) (a' : List (List Tag)) h1 h2
 simp only [Aj7, List.cons.injEq, AV.ro.injEq, and_true] at h1
 exact (ad7 (sq7 eP7)).1 h1)
theorem mA7 : ai7 Tryz.prog tb EF7 := aw7 mix OY7 (all_cons lN7 all_nil)
theorem jj7 : ai7 Tryz.prog tb vy7 := aw7 mix OZ7 all_nil
theorem rt7 : ai7 Tryz.prog tb Ak7 := aw7 mix O07 (all_cons bQ7 (all_cons cd7 all_nil)) (hi := by
 rintro (a : List (List Feat)) (a' : List (List Feat)) h1 h2
 simp only [Ak7, List.cons.injEq, AV.ro.injEq, and_true] at h1
 exact (ad7 fun x y h => by
  simp only [eSl, sl, List.cons.injEq, T.sl.injEq, and_true, true_and] at h
  exact (ad7 eD7).1 h).1 h1)
theorem mB7 : ai7 Tryz.prog tb EG7 := aw7 mix O17 (all_cons sI7 all_nil)
theorem kd7 : ai7 Tryz.prog tb vz7 := aw7 mix O27 (all_cons gv7 all_nil)
theorem bY7 : ai7 Tryz.prog tb EH7 := aw7 mix O37 (all_cons fX7 all_nil)
theorem bW7 : ai7 Tryz.prog tb EI7 := aw7 mix O47 (all_cons jj7 all_nil)
theorem lP7 : ai7 Tryz.prog tb EJ7 := aw7 mix O57 (all_cons iy7 (all_cons bY7 (all_cons lO7 (all_cons he7 (all_cons eU7 (all_cons cR7 (all_cons bQ7 (all_cons mA7 (all_cons bW7 (all_cons do7 (all_cons cd7 all_nil)))))))))))
theorem gw7 : ai7 Tryz.prog tb vA7 := aw7 mix O67 (all_cons kc7 all_nil)
theorem bZ7 : ai7 Tryz.prog tb EK7 := aw7 mix O77 (all_cons kd7 all_nil)
theorem ke7 : ai7 Tryz.prog tb EL7 := aw7 mix O87 (all_cons hf7 (all_cons rt7 (all_cons mB7 (all_cons bZ7 (all_cons lP7 (all_cons do7 all_nil))))))
theorem mC7 : ai7 Tryz.prog tb xT7 := aw7 mix O97 (all_cons gw7 (all_cons ke7 all_nil))
theorem mD7 : ai7 Tryz.prog tb EM7 := dl7 mix Pa7 all_nil
theorem av7 : ai7 Tryz.prog tb cg7 := dl7 mix Pb7 all_nil
theorem bJ7 : ai7 Tryz.prog tb ms7 := dl7 mix Pc7 (all_cons av7 all_nil)
theorem hC7 : ai7 Tryz.prog tb sC7 := dl7 mix Pd7 (all_cons bJ7 all_nil)
theorem jZ7 : ai7 Tryz.prog tb xU7 := dl7 mix Pe7 (all_cons bJ7 all_nil)
theorem j07 : ai7 Tryz.prog tb xV7 := dl7 mix Pf7 (all_cons bJ7 all_nil)
theorem cu7 : ai7 Tryz.prog tb mt7 := dl7 mix Pg7 (all_cons av7 all_nil)
theorem lQ7 : ai7 Tryz.prog tb qZ7 := dl7 mix Ph7 (all_cons av7 (all_cons cu7 all_nil))
theorem ru7 : ai7 Tryz.prog tb Al7 := aw7 mix Pi7 all_nil
theorem hg7 : ai7 Tryz.prog tb xW7 := dl7 mix Pj7 (all_cons cu7 (all_cons av7 (all_cons ru7 (all_cons lQ7 (all_cons dd7 all_nil)))))
theorem fM7 : ai7 Tryz.prog tb sD7 := dl7 mix Pk7 (all_cons hg7 (all_cons av7 (all_cons jZ7 (all_cons j07 (all_cons gt7 all_nil)))))
theorem oK7 : ai7 Tryz.prog tb Am7 := dl7 mix Pl7 (all_cons hg7 (all_cons av7 (all_cons cu7 all_nil)))
theorem oL7 : ai7 Tryz.prog tb An7 := dl7 mix Pm7 (all_cons hC7 (all_cons fM7 (all_cons av7 (all_cons bJ7 (all_cons oK7 all_nil)))))
theorem gx7 : ai7 Tryz.prog tb xX7 := dl7 mix Pn7 all_nil
theorem hh7 : ai7 Tryz.prog tb vB7 := dl7 mix Po7 (all_cons av7 (all_cons hC7 (all_cons fM7 (all_cons gx7 all_nil))))
theorem oM7 : ai7 Tryz.prog tb Ao7 := dl7 mix Pp7 (all_cons hh7 (all_cons av7 (all_cons oL7 (all_cons gx7 all_nil))))
theorem mE7 : ai7 Tryz.prog tb Ap7 := aw7 mix Pq7 (all_cons cP7 all_nil)
theorem jk7 : ai7 Tryz.prog tb Aq7 := aw7 mix Pr7 (all_cons iu7 (all_cons cP7 (all_cons iw7 (all_cons fL7 all_nil))))
theorem oN7 : ai7 Tryz.prog tb Ar7 := dl7 mix Ps7 (all_cons bJ7 all_nil)
theorem rv7 : ai7 Tryz.prog tb As7 := aw7 mix Pt7 all_nil
theorem oO7 : ai7 Tryz.prog tb At7 := dl7 mix Pu7 (all_cons av7 (all_cons lQ7 (all_cons dd7 all_nil)))
theorem oP7 : ai7 Tryz.prog tb Au7 := dl7 mix Pv7 (all_cons av7 (all_cons hC7 (all_cons iv7 (all_cons fM7 (all_cons gs7 (all_cons rv7 (all_cons dJ7 (all_cons jZ7 (all_cons j07 (all_cons gt7 (all_cons oO7 (all_cons de7 all_nil))))))))))))
theorem oQ7 : ai7 Tryz.prog tb Av7 := dl7 mix Pw7 (all_cons bJ7 all_nil)
theorem oR7 : ai7 Tryz.prog tb xY7 := dl7 mix Px7 (all_cons oN7 (all_cons fL7 (all_cons av7 (all_cons jk7 (all_cons oP7 (all_cons oQ7 (all_cons iw7 (all_cons rs7 all_nil))))))))
theorem oS7 : ai7 Tryz.prog tb Aw7 := dl7 mix Py7 (all_cons mE7 (all_cons hh7 (all_cons av7 (all_cons oR7 all_nil))))
theorem oT7 : ai7 Tryz.prog tb EN7 := dl7 mix Pz7 (all_cons oS7 (all_cons av7 (all_cons cu7 (all_cons oM7 all_nil))))
theorem lR7 : ai7 Tryz.prog tb EO7 := dl7 mix PA7 (all_cons mD7 (all_cons oT7 (all_cons av7 all_nil)))
theorem kf7 : ai7 Tryz.prog tb vC7 := aw7 mix PB7 (all_cons iB7 (all_cons cD7 (all_cons dp7 all_nil)))
theorem iD7 : ai7 Tryz.prog tb Ax7 := dl7 mix PC7 (all_cons lR7 all_nil)
theorem cp7 : ai7 Tryz.prog tb EP7 := aw7 mix PD7 all_nil
theorem kg7 : ai7 Tryz.prog tb Ay7 := aw7 mix PE7 (all_cons cp7 all_nil)
theorem kh7 : ai7 Tryz.prog tb LJ7 := dl7 mix PF7 (all_cons iD7 (all_cons mC7 (all_cons mx7 (all_cons fY7 (all_cons kg7 (all_cons gw7 (all_cons gu7 (all_cons kf7 all_nil))))))))
end Go.Proofs.YtnnfdbdheoajgaaGreat
