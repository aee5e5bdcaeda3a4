/- Lemmas of the proof (THL), on an abstract machine. Conditions: none. -/
import Derived.Test.YtnnfdbdheoajgabGreatTHS
import Derived.Test.YtnnfdbdheoajgabGreatHN4
import Derived.Test.YtnnfdbdheoajgabGreatTHF0
import Derived.Test.YtnnfdbdheoajgabGreatTHF2
import Derived.Test.YtnnfdbdheoajgabGreatTHF4
import Derived.Test.YtnnfdbdheoajgabGreatTHF6
import Derived.Test.YtnnfdbdheoajgabGreatTHF8
import Derived.Test.YtnnfdbdheoajgabGreatTHF10
import Derived.Test.YtnnfdbdheoajgabGreatRow
import Derived.Test.YtnnfdbdheoajgabGreatRows
set_option linter.unusedVariables false
set_option linter.unusedSimpArgs false
set_option maxRecDepth 100000
set_option maxHeartbeats 4000000
namespace Go.Proofs.YtnnfdbdheoajgabGreat
open Go.Proofs.AM
def tb : Tab := ⟨lk [(17, 3), (33, 4), (49, 9), (66, 112), (82, 114), (100, 61), (115, 52), (130, 77), (178, 64), (194, 208), (210, 34), (226, 58), (241, 81), (257, 5), (273, 50), (306, 149), (325, 97), (338, 227), (354, 214), (372, 165), (387, 87), (402, 89), (466, 25), (482, 162), (513, 220), (529, 59), (545, 27)], lk [(1, 175), (2, 176), (3, 146), (4, 147), (5, 120), (6, 87), (7, 88), (8, 53), (9, 54), (10, 20), (11, 21), (12, 177), (13, 148), (14, 40), (15, 121), (16, 122), (17, 89), (18, 178), (19, 150), (20, 151), (21, 126), (22, 142), (23, 143), (24, 114), (25, 73), (26, 56), (27, 74), (28, 42), (29, 153), (30, 128), (31, 92), (32, 75), (33, 39), (34, 76), (35, 77), (36, 55), (37, 123), (38, 124), (39, 149), (40, 197), (41, 195), (42, 196), (43, 190), (44, 191), (45, 192), (46, 179), (47, 180), (48, 181), (49, 152), (50, 154), (51, 155), (52, 125), (53, 127), (54, 90), (55, 91), (56, 57), (57, 22), (58, 23), (59, 6), (60, 78), (61, 41), (62, 43), (63, 44), (64, 193), (65, 182), (66, 183), (67, 156), (68, 157), (69, 129), (70, 93), (71, 94), (72, 58), (73, 59), (74, 24), (75, 25), (76, 79), (79, 138), (80, 46), (81, 105), (82, 97), (127, 135), (128, 103), (129, 134), (130, 101), (325, 174), (220, 145), (358, 144), (330, 117), (85, 118), (86, 61), (83, 116), (84, 115), (87, 80), (88, 81), (77, 85), (78, 84), (89, 48), (90, 82), (91, 106), (92, 67), (93, 119), (94, 83), (96, 45), (97, 49), (98, 96), (95, 130), (99, 95), (100, 60), (121, 98), (122, 99), (123, 170), (124, 169), (125, 133), (126, 100), (131, 171), (132, 136), (133, 137), (134, 173), (135, 172), (136, 140), (138, 104), (401, 139), (139, 107), (140, 108), (142, 110), (143, 62), (144, 63), (146, 65), (137, 102), (141, 109), (147, 66), (148, 26), (145, 64), (149, 27), (150, 47), (151, 8), (152, 50), (153, 141), (154, 111), (155, 112), (156, 68), (157, 69), (158, 28), (159, 113), (160, 9), (161, 70), (162, 71), (163, 30), (164, 31), (165, 29), (166, 34), (167, 35), (168, 36), (169, 72), (170, 13), (171, 32), (172, 33), (173, 37), (174, 38), (175, 86), (176, 15), (177, 51), (178, 52), (179, 5), (180, 7), (181, 17), (182, 18), (183, 11), (184, 10), (185, 12), (186, 14), (187, 19), (188, 16), (313, 4), (106, 132), (120, 131)], [], []⟩
theorem rO7 : ag7 Tryz.prog tb Fd7 := ak7 mix Q07 all_nil
theorem rP7 : ag7 Tryz.prog tb Fe7 := ak7 mix Q17 all_nil
theorem mK7 : ag7 Tryz.prog tb Ff7 := ak7 mix Q27 (all_cons rO7 all_nil)
theorem oR7 : ag7 Tryz.prog tb Fg7 := ak7 mix Q37 (all_cons rP7 all_nil)
theorem oS7 : ag7 Tryz.prog tb Fh7 := ak7 mix Q47 (all_cons mK7 (all_cons oR7 all_nil))
theorem oT7 : ag7 Tryz.prog tb Fi7 := ak7 mix Q57 all_nil
theorem mL7 : ag7 Tryz.prog tb Fj7 := ak7 mix Q67 (all_cons oS7 all_nil)
theorem lM7 : ag7 Tryz.prog tb Fk7 := ak7 mix Q77 (all_cons oT7 (all_cons mL7 all_nil))
theorem oU7 : ag7 Tryz.prog tb Fl7 := ak7 mix Q87 all_nil
theorem j77 : ag7 Tryz.prog tb Fm7 := ak7 mix Q97 (all_cons lM7 all_nil)
theorem mM7 : ag7 Tryz.prog tb Fn7 := ak7 mix Ra7 (all_cons oU7 all_nil)
theorem rQ7 : ag7 Tryz.prog tb Fo7 := ak7 mix Rb7 all_nil
theorem rR7 : ag7 Tryz.prog tb Fp7 := ak7 mix Rc7 (all_cons rQ7 all_nil)
theorem dx7 : ag7 Tryz.prog tb s97 := ak7 mix Rd7 all_nil
theorem hh7 : ag7 Tryz.prog tb A37 := ak7 mix Re7 (all_cons rR7 all_nil)
theorem oV7 : ag7 Tryz.prog tb Fq7 := ak7 mix Rf7 (all_cons dx7 all_nil)
theorem il7 : ag7 Tryz.prog tb A47 := ak7 mix Rg7 (all_cons dx7 (all_cons hh7 (all_cons oV7 all_nil)))
theorem im7 : ag7 Tryz.prog tb A57 := ak7 mix Rh7 all_nil
theorem fS7 : ag7 Tryz.prog tb A67 := ak7 mix Ri7 (all_cons im7 all_nil)
theorem oW7 : ag7 Tryz.prog tb Fr7 := ak7 mix Rj7 all_nil
theorem gi7 : ag7 Tryz.prog tb lv7 := ak7 mix Rk7 (all_cons fS7 (all_cons oW7 all_nil))
theorem oX7 : ag7 Tryz.prog tb Fs7 := ak7 mix Rl7 all_nil
theorem j87 : ag7 Tryz.prog tb Ft7 := ak7 mix Rm7 (all_cons gi7 all_nil)
theorem oY7 : ag7 Tryz.prog tb Fu7 := ak7 mix Rn7 (all_cons oX7 (all_cons j87 all_nil))
theorem te7 : ag7 Tryz.prog tb Fv7 := ak7 mix Ro7 all_nil
theorem es7 : ag7 Tryz.prog tb yS7 := ak7 mix Rp7 (all_cons il7 all_nil)
theorem fE7 : ag7 Tryz.prog tb yT7 := ak7 mix Rq7 (all_cons oY7 all_nil)
theorem in7 : ag7 Tryz.prog tb wn7 := ak7 mix Rr7 all_nil
theorem io7 : ag7 Tryz.prog tb A77 := ak7 mix Rs7 all_nil
theorem fF7 : ag7 Tryz.prog tb yU7 := ak7 mix Rt7 (all_cons io7 all_nil)
theorem ip7 : ag7 Tryz.prog tb A87 := ak7 mix Ru7 (all_cons fF7 all_nil)
theorem jV7 : ag7 Tryz.prog tb A97 := ak7 mix Rv7 (all_cons ip7 all_nil)
theorem iq7 : ag7 Tryz.prog tb yV7 := ak7 mix Rw7 (all_cons te7 (all_cons es7 (all_cons dx7 (all_cons fE7 (all_cons in7 all_nil)))))
theorem lN7 : ag7 Tryz.prog tb Ba7 := ak7 mix Rx7 (all_cons iq7 all_nil)
theorem hi7 : ag7 Tryz.prog tb Bb7 := ak7 mix Ry7 all_nil
theorem j97 : ag7 Tryz.prog tb Fw7 := ak7 mix Rz7 (all_cons lN7 (all_cons hi7 all_nil))
theorem jW7 : ag7 Tryz.prog tb Bc7 := ak7 mix RA7 all_nil
theorem rS7 : ag7 Tryz.prog tb Fx7 := ak7 mix RB7 (all_cons jW7 all_nil)
theorem oZ7 : ag7 Tryz.prog tb Fy7 := ak7 mix RC7 all_nil
theorem rT7 : ag7 Tryz.prog tb Fz7 := ak7 mix RD7 all_nil
theorem rU7 : ag7 Tryz.prog tb FA7 := ak7 mix RE7 all_nil
theorem o07 : ag7 Tryz.prog tb FB7 := ak7 mix RF7 (all_cons rT7 all_nil)
theorem lO7 : ag7 Tryz.prog tb FC7 := ak7 mix RG7 (all_cons rU7 (all_cons o07 all_nil))
theorem tf7 : ag7 Tryz.prog tb FD7 := ak7 mix RH7 all_nil
theorem o17 : ag7 Tryz.prog tb FE7 := ak7 mix RI7 (all_cons im7 all_nil)
theorem mN7 : ag7 Tryz.prog tb FF7 := ak7 mix RJ7 (all_cons lO7 (all_cons tf7 (all_cons o17 all_nil)))
theorem rV7 : ag7 Tryz.prog tb FG7 := ak7 mix RK7 all_nil
theorem rW7 : ag7 Tryz.prog tb FH7 := ak7 mix RL7 all_nil
theorem mO7 : ag7 Tryz.prog tb FI7 := ak7 mix RM7 (all_cons fS7 (all_cons mN7 (all_cons hh7 all_nil)))
theorem o27 : ag7 Tryz.prog tb FJ7 := ak7 mix RN7 (all_cons rV7 all_nil)
theorem rX7 : ag7 Tryz.prog tb FK7 := ak7 mix RO7 (all_cons rW7 all_nil)
theorem o37 : ag7 Tryz.prog tb wo7 := ak7 mix RP7 (all_cons oZ7 (all_cons fF7 all_nil))
theorem o47 : ag7 Tryz.prog tb Bd7 := ak7 mix RQ7 (all_cons mO7 (all_cons io7 (all_cons o27 (all_cons rX7 (all_cons il7 (all_cons fF7 all_nil))))))
theorem rY7 : ag7 Tryz.prog tb FL7 := ak7 mix RR7 (all_cons jW7 (all_cons rS7 all_nil))
theorem rZ7 : ag7 Tryz.prog tb FM7 := ak7 mix RS7 (all_cons o37 (all_cons gi7 (all_cons o47 all_nil)))
theorem o57 : ag7 Tryz.prog tb FN7 := ak7 mix RT7 (all_cons rY7 (all_cons rZ7 (all_cons ip7 (all_cons es7 all_nil))))
theorem lP7 : ag7 Tryz.prog tb FO7 := ak7 mix RU7 (all_cons j97 all_nil)
theorem ka7 : ag7 Tryz.prog tb FP7 := ak7 mix RV7 (all_cons es7 (all_cons o57 all_nil))
theorem mP7 : ag7 Tryz.prog tb FQ7 := ak7 mix RW7 (all_cons lP7 (all_cons ka7 all_nil))
theorem r07 : ag7 Tryz.prog tb FR7 := ll7 mix RX7 (all_cons fE7 (all_cons jV7 all_nil))
theorem o67 : ag7 Tryz.prog tb Be7 := ak7 mix RY7 (all_cons jV7 all_nil)
theorem kb7 : ag7 Tryz.prog tb yW7 := ak7 mix RZ7 (all_cons lN7 (all_cons hi7 all_nil))
theorem o77 : ag7 Tryz.prog tb Bf7 := ll7 mix R07 (all_cons mP7 (all_cons fE7 (all_cons r07 all_nil)))
theorem tg7 : ag7 Tryz.prog tb FS7 := ak7 mix R17 all_nil
theorem r17 : ag7 Tryz.prog tb FT7 := ak7 mix R27 (all_cons tg7 all_nil)
theorem r27 : ag7 Tryz.prog tb FU7 := ak7 mix R37 all_nil
theorem mQ7 : ag7 Tryz.prog tb FV7 := ak7 mix R47 (all_cons r17 all_nil)
theorem o87 : ag7 Tryz.prog tb FW7 := ak7 mix R57 (all_cons r27 all_nil)
theorem o97 : ag7 Tryz.prog tb FX7 := ak7 mix R67 (all_cons mQ7 (all_cons o87 all_nil))
theorem pa7 : ag7 Tryz.prog tb FY7 := ak7 mix R77 all_nil
theorem mR7 : ag7 Tryz.prog tb FZ7 := ak7 mix R87 (all_cons o97 all_nil)
theorem lQ7 : ag7 Tryz.prog tb F07 := ak7 mix R97 (all_cons pa7 (all_cons mR7 all_nil))
theorem pb7 : ag7 Tryz.prog tb F17 := ak7 mix Sa7 all_nil
theorem kc7 : ag7 Tryz.prog tb F27 := ak7 mix Sb7 (all_cons lQ7 all_nil)
theorem mS7 : ag7 Tryz.prog tb F37 := ak7 mix Sc7 (all_cons pb7 all_nil)
theorem cH7 : ag7 Tryz.prog tb ta7 := ak7 mix Sd7 all_nil
theorem th7 : ag7 Tryz.prog tb F47 := ak7 mix Se7 (all_cons cH7 all_nil)
theorem fG7 : ag7 Tryz.prog tb yX7 := ak7 mix Sf7 (all_cons cH7 all_nil)
theorem hj7 : ag7 Tryz.prog tb Bg7 := ak7 mix Sg7 (all_cons th7 (all_cons cH7 all_nil))
theorem ir7 : ag7 Tryz.prog tb Bh7 := ak7 mix Sh7 (all_cons fG7 (all_cons hj7 all_nil))
theorem bN7 : ag7 Tryz.prog tb Bi7 := ak7 mix Si7 all_nil
theorem fT7 : ag7 Tryz.prog tb tb7 := ak7 mix Sj7 (all_cons bN7 all_nil)
theorem cN7 : ag7 Tryz.prog tb F57 := ak7 mix Sk7 all_nil
theorem gj7 : ag7 Tryz.prog tb yY7 := ak7 mix Sl7 (all_cons fT7 (all_cons cN7 all_nil))
theorem a07 : ag7 Tryz.prog tb F67 := ak7 mix Sm7 (all_cons gj7 all_nil)
theorem kd7 : ag7 Tryz.prog tb F77 := ak7 mix Sn7 (all_cons a07 all_nil)
theorem fZ7 : ag7 Tryz.prog tb F87 := ak7 mix So7 all_nil
theorem jb7 : ag7 Tryz.prog tb F97 := ak7 mix Sp7 (all_cons fZ7 (all_cons kd7 all_nil))
theorem f07 : ag7 Tryz.prog tb Ga7 := ak7 mix Sq7 all_nil
theorem hk7 : ag7 Tryz.prog tb Bj7 := ak7 mix Sr7 (all_cons ir7 all_nil)
theorem g67 : ag7 Tryz.prog tb Bk7 := ak7 mix Ss7 (all_cons jb7 all_nil)
theorem a67 : ag7 Tryz.prog tb Gb7 := ak7 mix St7 (all_cons g67 all_nil)
theorem ei7 : ag7 Tryz.prog tb Bl7 := ak7 mix Su7 (all_cons a67 all_nil)
theorem et7 : ag7 Tryz.prog tb Gc7 := ak7 mix Sv7 (all_cons f07 all_nil)
theorem is7 : ag7 Tryz.prog tb Bm7 := ak7 mix Sw7 all_nil
theorem bf7 : ag7 Tryz.prog tb Gd7 := ak7 mix Sx7 (all_cons is7 all_nil)
theorem fU7 : ag7 Tryz.prog tb Bn7 := ak7 mix Sy7 (all_cons bf7 all_nil)
theorem dH7 : ag7 Tryz.prog tb Bo7 := ak7 mix Sz7 (all_cons cH7 all_nil)
theorem eG7 : ag7 Tryz.prog tb Bp7 := ak7 mix SA7 all_nil
theorem ch7 : ag7 Tryz.prog tb wp7 := ak7 mix SB7 (all_cons eG7 all_nil)
theorem jc7 : ag7 Tryz.prog tb Ge7 := ak7 mix SC7 (all_cons ch7 all_nil)
theorem ej7 : ag7 Tryz.prog tb Bq7 := ak7 mix SD7 (all_cons jc7 all_nil)
theorem it7 : ag7 Tryz.prog tb Br7 := ak7 mix SE7 (all_cons cH7 (all_cons hk7 (all_cons fG7 (all_cons ei7 (all_cons et7 (all_cons fU7 (all_cons dH7 all_nil)))))))
theorem di7 : ag7 Tryz.prog tb yZ7 := ak7 mix SF7 all_nil
theorem iu7 : ag7 Tryz.prog tb Bs7 := ak7 mix SG7 (all_cons di7 all_nil)
theorem bL7 : ag7 Tryz.prog tb Gf7 := ak7 mix SH7 (all_cons iu7 all_nil)
theorem bD7 : ag7 Tryz.prog tb Gg7 := ak7 mix SI7 (all_cons bL7 all_nil)
theorem ke7 : ag7 Tryz.prog tb Gh7 := ak7 mix SJ7 (all_cons it7 (all_cons dH7 (all_cons di7 (all_cons bD7 all_nil))))
theorem bZ7 : ag7 Tryz.prog tb y07 := yK7 (by kernel_rfl)
theorem bO7 : ag7 Tryz.prog tb Gi7 := yI7 (by kernel_rfl)
theorem lR7 : ag7 Tryz.prog tb Bt7 := ak7 mix SK7 all_nil
theorem bo7 : ag7 Tryz.prog tb Gj7 := ak7 mix SL7 (all_cons lR7 all_nil)
theorem pc7 : ag7 Tryz.prog tb Gk7 := ak7 mix SM7 (all_cons bo7 all_nil)
theorem ti7 : ag7 Tryz.prog tb Gl7 := ak7 mix SN7 (all_cons pc7 (all_cons ch7 all_nil))
theorem mT7 : ag7 Tryz.prog tb M87 := yR7 mix (by kernel_rfl)
theorem lS7 : ag7 Tryz.prog tb Gm7 := ak7 mix SO7 (all_cons mT7 all_nil)
theorem mU7 : ag7 Tryz.prog tb Gn7 := ak7 mix SP7 all_nil
theorem jd7 : ag7 Tryz.prog tb Bu7 := ak7 mix SQ7 all_nil
theorem bp7 : ag7 Tryz.prog tb Go7 := ak7 mix SR7 (all_cons jd7 all_nil)
theorem lT7 : ag7 Tryz.prog tb Gp7 := ak7 mix SS7 (all_cons bp7 all_nil)
theorem lU7 : ag7 Tryz.prog tb Gq7 := ak7 mix ST7 (all_cons lS7 (all_cons mU7 (all_cons bN7 all_nil)))
theorem cZ7 : ag7 Tryz.prog tb Nl7 := E67 (by kernel_rfl) (by kernel_rfl)
theorem cI7 : ag7 Tryz.prog tb Bv7 := ak7 mix SU7 (all_cons cZ7 all_nil) (hi := by
 rintro (a : List (List Tag)) (a' : List (List Tag)) h1 h2
 simp only [Bv7, List.cons.injEq, AV.ro.injEq, and_true] at h1
 exact (ad7 (sZ7 eB7)).1 h1)
theorem mV7 : ag7 Tryz.prog tb Gr7 := ak7 mix SV7 (all_cons lT7 all_nil)
theorem je7 : ag7 Tryz.prog tb wq7 := ak7 mix SW7 all_nil
theorem r37 : ag7 Tryz.prog tb Bw7 := ak7 mix SX7 (all_cons bO7 (all_cons bZ7 all_nil)) (hi := by
 rintro (a : List (List Feat)) (a' : List (List Feat)) h1 h2
 simp only [Bw7, List.cons.injEq, AV.ro.injEq, and_true] at h1
 exact (ad7 fun x y h => by
  simp only [eSl, sl, List.cons.injEq, T.sl.injEq, and_true, true_and] at h
  exact (ad7 eq7).1 h).1 h1)
theorem mW7 : ag7 Tryz.prog tb Gs7 := ak7 mix SY7 (all_cons ti7 all_nil)
theorem kf7 : ag7 Tryz.prog tb wr7 := ak7 mix SZ7 (all_cons gj7 all_nil)
theorem bW7 : ag7 Tryz.prog tb Gt7 := ak7 mix S07 (all_cons fT7 all_nil)
theorem bU7 : ag7 Tryz.prog tb Gu7 := ak7 mix S17 (all_cons je7 all_nil)
theorem lV7 : ag7 Tryz.prog tb Gv7 := ak7 mix S27 (all_cons ir7 (all_cons bW7 (all_cons lU7 (all_cons hj7 (all_cons eG7 (all_cons cI7 (all_cons bO7 (all_cons mV7 (all_cons bU7 (all_cons ch7 (all_cons bZ7 all_nil)))))))))))
theorem lW7 : ag7 Tryz.prog tb Gw7 := ak7 mix S37 (all_cons ke7 all_nil)
theorem bX7 : ag7 Tryz.prog tb Gx7 := ak7 mix S47 (all_cons kf7 all_nil)
theorem kg7 : ag7 Tryz.prog tb Gy7 := ak7 mix S57 (all_cons hk7 (all_cons r37 (all_cons mW7 (all_cons bX7 (all_cons lV7 (all_cons ch7 all_nil))))))
theorem kh7 : ag7 Tryz.prog tb Gz7 := ak7 mix S67 (all_cons ej7 all_nil)
theorem mX7 : ag7 Tryz.prog tb GA7 := ak7 mix S77 (all_cons lW7 (all_cons kg7 all_nil))
theorem lX7 : ag7 Tryz.prog tb GB7 := ll7 mix S87 (all_cons ei7 (all_cons ej7 all_nil))
theorem tj7 : ag7 Tryz.prog tb GC7 := ak7 mix S97 all_nil
theorem r47 : ag7 Tryz.prog tb GD7 := ak7 mix Ta7 (all_cons tj7 all_nil)
theorem r57 : ag7 Tryz.prog tb GE7 := ak7 mix Tb7 all_nil
theorem mY7 : ag7 Tryz.prog tb GF7 := ak7 mix Tc7 (all_cons r47 all_nil)
theorem pd7 : ag7 Tryz.prog tb GG7 := ak7 mix Td7 (all_cons r57 all_nil)
theorem pe7 : ag7 Tryz.prog tb GH7 := ak7 mix Te7 (all_cons mY7 (all_cons pd7 all_nil))
theorem pf7 : ag7 Tryz.prog tb GI7 := ak7 mix Tf7 all_nil
theorem mZ7 : ag7 Tryz.prog tb GJ7 := ak7 mix Tg7 (all_cons pe7 all_nil)
theorem lY7 : ag7 Tryz.prog tb GK7 := ak7 mix Th7 (all_cons pf7 (all_cons mZ7 all_nil))
theorem pg7 : ag7 Tryz.prog tb GL7 := ak7 mix Ti7 all_nil
theorem ki7 : ag7 Tryz.prog tb GM7 := ak7 mix Tj7 (all_cons lY7 all_nil)
theorem m07 : ag7 Tryz.prog tb GN7 := ak7 mix Tk7 (all_cons pg7 all_nil)
theorem m17 : ag7 Tryz.prog tb GO7 := ak7 mix Tl7 all_nil
theorem a27 : ag7 Tryz.prog tb j67 := ak7 mix Tm7 all_nil
theorem m27 : ag7 Tryz.prog tb Bx7 := ll7 mix Tn7 all_nil
theorem lZ7 : ag7 Tryz.prog tb By7 := ll7 mix To7 (all_cons a27 all_nil)
theorem l07 : ag7 Tryz.prog tb Bz7 := ll7 mix Tp7 all_nil
theorem kj7 : ag7 Tryz.prog tb BA7 := ll7 mix Tq7 (all_cons a27 (all_cons m27 (all_cons lZ7 all_nil)))
theorem iv7 : ag7 Tryz.prog tb BB7 := ll7 mix Tr7 (all_cons a27 (all_cons l07 (all_cons kj7 all_nil)))
theorem kk7 : ag7 Tryz.prog tb BC7 := ll7 mix Ts7 (all_cons a27 all_nil)
theorem m37 : ag7 Tryz.prog tb GP7 := ak7 mix Tt7 all_nil
theorem l17 : ag7 Tryz.prog tb GQ7 := ak7 mix Tu7 (all_cons a27 all_nil)
theorem l37 : ag7 Tryz.prog tb GR7 := ak7 mix Tv7 all_nil
theorem kl7 : ag7 Tryz.prog tb GS7 := ak7 mix Tw7 (all_cons a27 (all_cons m37 (all_cons l17 all_nil)))
theorem iw7 : ag7 Tryz.prog tb GT7 := ak7 mix Tx7 (all_cons l37 (all_cons kl7 (all_cons a27 all_nil)))
theorem km7 : ag7 Tryz.prog tb GU7 := ak7 mix Ty7 (all_cons a27 all_nil)
theorem ph7 : ag7 Tryz.prog tb BD7 := ak7 mix Tz7 (all_cons j77 (all_cons mM7 all_nil))
theorem pi7 : ag7 Tryz.prog tb tc7 := ak7 mix TA7 (all_cons kc7 (all_cons mS7 all_nil))
theorem kn7 : ag7 Tryz.prog tb BE7 := ak7 mix TB7 (all_cons iq7 (all_cons dx7 (all_cons o67 (all_cons in7 (all_cons kb7 (all_cons o77 all_nil))))))
theorem ko7 : ag7 Tryz.prog tb y17 := ak7 mix TC7 (all_cons it7 (all_cons fG7 (all_cons kh7 (all_cons fU7 (all_cons di7 (all_cons mX7 (all_cons lX7 all_nil)))))))
theorem pj7 : ag7 Tryz.prog tb td7 := ak7 mix TD7 (all_cons ki7 (all_cons m07 all_nil))
theorem l47 : ag7 Tryz.prog tb ws7 := ak7 mix TE7 (all_cons m17 all_nil)
theorem l67 : ag7 Tryz.prog tb y27 := ll7 mix TF7 (all_cons iv7 (all_cons kk7 all_nil))
theorem jf7 : ag7 Tryz.prog tb BF7 := ll7 mix TG7 (all_cons a27 all_nil)
theorem l77 : ag7 Tryz.prog tb y37 := ak7 mix TH7 (all_cons iw7 (all_cons km7 all_nil))
theorem jg7 : ag7 Tryz.prog tb y47 := ak7 mix TI7 (all_cons a27 all_nil)
theorem fH7 : ag7 Tryz.prog tb O57 := ak7 mix TJ7 (all_cons ph7 (all_cons pi7 (all_cons kn7 (all_cons ko7 (all_cons pj7 (all_cons l47 (all_cons l67 (all_cons jf7 (all_cons l77 (all_cons jg7 all_nil))))))))))
end Go.Proofs.YtnnfdbdheoajgabGreat
