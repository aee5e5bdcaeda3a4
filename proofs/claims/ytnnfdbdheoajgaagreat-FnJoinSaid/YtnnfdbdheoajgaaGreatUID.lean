/- Lemmas of the proof (UID), on an abstract machine. Conditions: none. -/
import Derived.Test.YtnnfdbdheoajgaaGreatUIC0
set_option linter.unusedVariables false
set_option maxRecDepth 100000
set_option maxHeartbeats 4000000
namespace Go.Proofs.AM
attribute [local irreducible] vwp cY7 bI7 f97 vdo jn7 mS7 j07 fi7 mG7 kM7 bL7 e87 kt7 dY7 jO7 k37 k27
def LV7 : IFn := ⟨92, [.inr (4, 2)],
 (Rs (sq 3 [Io (.box 210 [some 115, some 130] (.t 1)), Io (.alloc 210 [.sl true 115 [], .sl true 130 []])] [])
 (Rs (sq 12 [Mv 0, Io (.call 327 [(true, .t 12)])] [Mv 13 5])
 (Rs (sq 14 [La 2 3, Mv 5, Ca 28 [14, 15]] [Mv 16 6])
 (.seq (Rs (sq 17 [Mv 6, Bk .lss 17 0] [])
 (Ct 18 (.seq (.drw (sq 20 [La 2 3, Mv 5, Fa 1 3, Ld 1 22, Mv 0, Fa 1 3, Ld 1 25, Ln 26, Io (.call 321 [(true, .t 24), (false, .t 27)]), Ia 2 23 28, Fa 0 29, Ld 1 30, Ca 224 [20, 21, 31]] (Mv 32 19 :: (sq 33 [Xt 19 0, Xt 19 1] [Io (.alloc 210 [.sl true 115 [], .sl true 130 []]) 7, Sv [some 115, some 130] 7 33, Mv 34 8]))) [(0, 3), (0, 6), (3, 6), (0, 8), (3, 8), (0, 11), (0, 16), (3, 16), (6, 16), (8, 16), (11, 16), (12, 16)])
 (.seq (Rs (sq 35 [Fa 1 7, Ld 1 35, Ln 36, Bk .gtr 37 0] [])
 (Ct 38 (Rs [La 2 7 39, Sv [some 115, some 130] 4 39]
 .ret)
 .skip))
 (Rs [Io (.ldr 2 (.t 3)) 40, Iz (.store [none, none] (.t 4) (.t 40))]
 .ret)))
 .skip))
 (Rs (sq 41 [Fa 1 3, Ld 1 41, Mv 6, Ia 2 42 43, Fa 1 44, Ld 1 45] [Mv 46 9])
 (d87 (.reg (sq 47 [Mv 9, Io (.lit 17 [none] [.v (.int .i64 0)] 1 [(0, .t 47)]), Mv 0, Fa 0 3, Ld 1 50, Mv 9, Ia 3 51 52, Fa 1 53, Ld 1 54, Io (.call 336 [(true, .t 49), (false, .t 55)]), Mv 0, Io (.call 377 [(true, .t 57)]), Io (.build [.nil, .nil, .v (.string ⟨#[]⟩)] [(0, 1, .t 48), (1, 1, .t 56), (2, 1, .t 58)])] [Io (.alloc 115 [.sl true 17 [], .sl true 100 [], .v (.string ⟨#[]⟩)]) 10, Sv [some 17, some 100, none] 10 59]))
 (.seq (.drw (sq 60 [Fa 1 3, Ld 1 60, Mv 0, Fa 1 3, Ld 1 63, Ln 64, Io (.call 321 [(true, .t 62), (false, .t 65)]), Ia 2 61 66, Fa 1 67, Ld 1 68] [Mv 69 11]) [(1, 4), (1, 6)])
 (d87 (Rs (sq 70 [Mv 11, Mv 9, Bb .neq 70 71, Mv 72] (Sg 73 74 [Mv 0, Io (.call 321 [(true, .t 74), (false, .c (.int .i64 4))]), Bk .eql 75 0] [Pf 73 76 77]))
 (Ct 77 (.reg (sq 78 [Mv 9, Mv 11, Io (.lit 17 [none] [.v (.int .i64 0)] 2 [(0, .t 78), (1, .t 79)]), Fa 0 10] [Sv [some 17] 81 80]))
 .skip))
 (.seq (Rs (sq 82 [Fa 0 3, Ld 1 82, Ln 83, Bk .geq 84 12] [])
 (Ct 85 (Rs [Io (.ldr 2 (.t 3)) 86, Iz (.store [none, none] (.t 4) (.t 86))]
 .ret)
 .skip))
 (.seq (.drw (sq 87 [La 2 3, Ca 61 [87], Mv 6, La 3 10, Io (.call 60 [(true, .t 88), (false, .t 89), (false, .t 90)])] [Sv [some 115, some 130] 4 91]) [(0, 3), (1, 3)])
 .ret)))))))))), lcF []⟩
def LW7 : List (List (Option Nat)) := [[some 115, some 130]]
def rE7 (a0 : Rd) (a1 : am7) : Option ((Option am7) × Int) := (l27 a0).bind fun x3 => (hn7 a1 x3.1).bind fun x5 => if (decide (x5 < 0)) = true then ((bJ7 (⟨a0.b, x3.2⟩ : Rd) (a1.heads.length : Int)).bind fun x7 => (idx a1.heads x7.1).bind fun x9 => (rz7 a1 x3.1 x9.name).bind fun x11 => if (decide ((x11.1.heads.length : Int) > 0)) = true then (some ((some x11.1), x7.2)) else (some ((none : Option am7), x7.2))) else ((idx a1.heads x5).bind fun x18 => (((idx a1.commits x18.at_).bind fun x22 => (rC7 (⟨a0.b, x3.2⟩ : Rd) x22.sheet).bind fun x24 => (rD7 (⟨a0.b, x24.2⟩ : Rd)).bind fun x26 => some (x26.2, x24.1, x26.1) : Option (Int × (List Feat) × Str))).bind fun q20 => (bJ7 (⟨a0.b, q20.1⟩ : Rd) (a1.heads.length : Int)).bind fun x41 => (idx a1.heads x41.1).bind fun x43 => ((if (x43.at_ != x18.at_) = true then ((bJ7 (⟨a0.b, x41.2⟩ : Rd) 4).bind fun x49 => if (x49.1 == 0) = true then (some ([x18.at_, x43.at_], x49.2)) else (some ([x18.at_], x49.2))) else (some ([x18.at_], x41.2)) : Option ((List Int) × Int))).bind fun q48 => if (decide ((a1.commits.length : Int) ≥ 12)) = true then (some ((none : Option am7), q48.2)) else ((lS7 a1).bind fun x63 => (ix7 x63 x5 (⟨q48.1, q20.2.1, q20.2.2⟩ : Commit)).bind fun x69 => some ((some x69), q48.2)))
def yq7 : Con := ⟨Rd × am7 × Option Addr × Nat × Option Addr × Nat × Option Addr × Nat, ((Option am7) × Int), 357, fun a => [.pio 0 290, .agg [.raw a.2.2.2.2.1 a.2.2.2.2.2.1 (List.map (af7 false) a.2.1.commits), .raw a.2.2.2.2.2.2.1 a.2.2.2.2.2.2.2 (List.map az7 a.2.1.heads)]], fun a => rE7 a.1 a.2.1, fun a r => ⟨[(true, match r.1 with | some q => jp7 true q | none => [.v (.slice a.2.2.2.2.1 (List.map (af7 false) a.2.1.commits).length a.2.2.2.2.2.1), .v (.slice a.2.2.2.2.2.2.1 (List.map az7 a.2.1.heads).length a.2.2.2.2.2.2.2)])], [some [[.v (.slice a.2.2.1 (List.map eU8 a.1.b).length a.2.2.2.1), .v (.int .i64 r.2)]]]⟩, fun a => [(true, 290, [[.rw a.2.2.1 a.2.2.2.1 (List.map eU8 a.1.b), .v (.int .i64 a.1.p)]])]⟩
def LX7 : IFn := ⟨44, [.inr (2, 2)],
 (Rs [Io (.alloc 210 [.sl true 115 [], .sl true 130 []]) 2]
 (Rs (Io (.call 227 [(false, .c (.string ⟨#[109, 97, 105, 110]⟩))]) 7 :: (Mv 7 6 :: (sq 8 [Io (.pfz 1 (.ext (.t 6) 0)), Xt 6 1] [Io (.alloc 210 [.sl true 115 [], .sl true 130 []]) 3, Sv [some 115, some 130] 3 8, Mv 9 4])))
 (.seq (.drw (sq 10 [Fa 0 3, Ld 1 10, Mv 0, Io (.frz (.call 361 [(true, .t 12)])), Ik 3 11 0, Fa 1 14] [Sv [some 100] 15 13]) [(1, 3)])
 (.seq (Rs (sq 16 [Mv 0, Io (.call 321 [(true, .t 16), (false, .c (.int .i64 7))]), Io (.bin .add (.c (.int .i64 2)) (.t 17))] [Mv 18 5])
 (bO7 0 (.loop (.seq (Rs (sq 19 [Mv 5, Bk .gtr 19 0] [])
 (Ct 20 .skip
 (.exit 0)))
 (.seq (.block 1 (.reg (sq 23 [Mv 0, Io (.rawl (.load 2 true (.t 3))), Io (.pfz 1 (.unr [1000384, 1000385] (.call 357 [(true, .t 23), (false, .t 24)])))] [Sv [some 115, some 130] 3 25])))
 (.reg (sq 21 [Mv 5, Bk .sub 21 1] [Mv 22 5])))))))
 (.seq (Rs (sq 26 [Mv 0, Io (.call 321 [(true, .t 26), (false, .c (.int .i64 4))]), Bk .eql 27 0, Mv 28] (Sg 29 30 [Fa 1 3, Ld 1 30, Ln 31, Bk .gtr 32 1] [Pf 29 33 34]))
 (Ct 34 (.reg (sq 35 [Fa 1 3, Ld 1 35, Fa 1 3, Ld 1 37, Ln 38, Bk .sub 39 1, Io (.trn (.sls 2 (.t 36) none (some (.t 40)))), Fa 1 3] [Sv [some 130] 42 41]))
 .skip))
 (Rs [La 2 3 43, Sv [some 115, some 130] 2 43]
 .ret)))))), lcF []⟩
def LY7 : List (List (Option Nat)) := [[some 115, some 130]]
def dJ7 (a0 : Rd) : Nat → Int → Int → (List Commit) → (List Head) → Option (Int × (List Commit) × (List Head))
 | 0, _, _, _, _ => none
 | n71 + 1, v57, v58, v64, v67 => if (decide (v57 > 0)) = true then ((rE7 (⟨a0.b, v58⟩ : Rd) (⟨v64, v67⟩ : am7)).bind fun x72 => match x72 with | (none, p75) => (dJ7 a0 n71 (IntKind.i64.wrap (v57 - 1)) p75 v64 v67) | (some y74, p75) => (dJ7 a0 n71 (IntKind.i64.wrap (v57 - 1)) p75 y74.commits y74.heads)) else (some (v58, v64, v67))
def rF7 (a0 : Rd) : Option (am7 × Int) := (ry7 (⟨#[109, 97, 105, 110]⟩ : Str)).bind fun x2 => (oe7 a0).bind fun x9 => (idx x2.1.commits 0).bind fun x13 => (bJ7 (⟨a0.b, x9.2⟩ : Rd) 7).bind fun x15 => (dJ7 a0 aT7 (IntKind.i64.wrap (2 + x15.1)) x15.2 (List.set x2.1.commits (0 : Int).toNat (⟨x13.up, x9.1, x13.note⟩ : Commit)) x2.1.heads).bind fun q56 => (bJ7 (⟨a0.b, q56.1⟩ : Rd) 4).bind fun x90 => if (x90.1 == 0) = true then (if (decide ((q56.2.2.length : Int) > 1)) = true then ((slc q56.2.2 0 (IntKind.i64.wrap ((q56.2.2.length : Int) - 1))).bind fun x92 => some ((⟨q56.2.1, x92⟩ : am7), x90.2)) else (some ((⟨q56.2.1, q56.2.2⟩ : am7), x90.2))) else (some ((⟨q56.2.1, q56.2.2⟩ : am7), x90.2))
def AO7 : Con := ⟨Rd × Option Addr × Nat, (am7 × Int), 355, fun a => [.pio 0 290], fun a => rF7 a.1, fun a r => ⟨[(true, w27 r.1)], [some [[.v (.slice a.2.1 (List.map eU8 a.1.b).length a.2.2), .v (.int .i64 r.2)]]]⟩, fun a => [(true, 290, [[.rw a.2.1 a.2.2 (List.map eU8 a.1.b), .v (.int .i64 a.1.p)]])]⟩
def LZ7 : IFn := ⟨77, [.inr (2, 2)],
 (Rs [Io (.alloc 210 [.sl true 115 [], .sl true 130 []]) 2]
 (Rs (sq 5 [Mv 0, Io (.call 355 [(true, .t 5)])] [Io (.alloc 210 [.sl true 115 [], .sl true 130 []]) 3, Sv [some 115, some 130] 3 6])
 (Rs (sq 7 [Mv 0, Fa 0 3, Ld 1 8, Ln 9, Io (.call 321 [(true, .t 7), (false, .t 10)])] [Mv 11 4])
 (.seq (Rs (sq 12 [Mv 0, Io (.call 321 [(true, .t 12), (false, .c (.int .i64 48))])] [])
 (.block 0 (d87 (.reg [Bk .eql 13 0 15, Mv 15 14])
 (Ct 14 (.drw (sq 16 [Fa 1 3, Ld 1 16, Mv 0, Fa 0 3, Ld 1 19, Ln 20, Io (.lit 17 [none] [.v (.int .i64 0)] 2 [(0, .c (.int .i64 (-1))), (1, .t 21)]), Io (.call 356 [(true, .t 18), (false, .t 22)]), Ik 2 17 0, Fa 1 24] [Sv [none] 25 23]) [(1, 4), (1, 6), (1, 7)])
 (Rs [Bk .eql 13 1 27, Mv 27 26]
 (Ct 26 (.drw (sq 28 [Fa 0 3, Ld 1 28, Mv 4, Fa 0 3, Ld 1 31, Mv 4, Ia 3 32 33, Fa 0 34, Ld 1 35, Mv 4, Io (.lit 17 [none] [.v (.int .i64 0)] 1 [(0, .t 37)]), Io (.app 17 true (.t 36) (.t 38)), Ia 3 29 30, Fa 0 40] [Sv [some 17] 41 39]) [(1, 4), (1, 8), (1, 10), (4, 10), (8, 10), (1, 11)])
 (Rs [Bk .eql 13 2 43, Mv 43 42]
 (Ct 42 (.drw (sq 44 [Fa 0 3, Ld 1 44, Mv 4, Mv 0, Io (.frz (.call 335 [(true, .t 47)])), Ia 3 45 46, Fa 1 49] [Sv [some 100] 50 48]) [(1, 4)])
 (Rs [Bk .eql 13 3 52, Mv 52 51]
 (Ct 51 (.reg (sq 53 [Fa 0 3, Ld 1 53, Mv 4, Ia 3 54 55, Fa 2 56] [Iz (.store [none] (.t 57) (.c (.string ⟨#[]⟩)))]))
 (Rs [Bk .eql 13 4 59, Mv 59 58]
 (Ct 58 (.drw (sq 60 [Fa 1 3, Ld 1 60, Fa 1 3, Ld 1 62, Ik 2 63 0, La 2 64, Io (.lit 130 [none, none] [.v (.string ⟨#[]⟩), .v (.int .i64 0)] 1 [(0, .t 65)]), Io (.app 130 true (.t 61) (.t 66)), Fa 1 3] [Sv [some 130] 68 67]) [(1, 3), (1, 5), (1, 6)])
 (Rs [Bk .eql 13 5 70, Mv 70 69]
 (Ct 69 (.reg (sq 71 [Fa 0 3, Ld 1 71, Mv 4, Ia 3 72 73, Fa 0 74] [Iz (.store [some 17] (.t 75) (.c (.slice none 0 0)))]))
 .skip))))))))))))))
 (Rs [La 2 3 76, Sv [some 115, some 130] 2 76]
 .ret))))), lcF []⟩
def L07 : List (List (Option Nat)) := [[some 115, some 130]]
def rG7 (a0 : Rd) : Option (am7 × Int) := (rF7 a0).bind fun x2 => (bJ7 (⟨a0.b, x2.2⟩ : Rd) (x2.1.commits.length : Int)).bind fun x9 => (bJ7 (⟨a0.b, x9.2⟩ : Rd) 48).bind fun x11 => ((some () : Option Unit)).bind fun q13 => if (x11.1 == 0) = true then ((iC7 (⟨a0.b, x11.2⟩ : Rd) ([(-1), (x2.1.commits.length : Int)] : (List Int))).bind fun x25 => (idx x2.1.heads 0).bind fun x27 => some ((⟨x2.1.commits, (List.set x2.1.heads (0 : Int).toNat (⟨x27.name, x25.1⟩ : Head))⟩ : am7), x25.2)) else (if (x11.1 == 1) = true then ((idx x2.1.commits x9.1).bind fun x29 => if aH7 (x29.up ++ ([x9.1] : (List Int))).length = true then some ((⟨(List.set x2.1.commits x9.1.toNat (⟨(x29.up ++ ([x9.1] : (List Int))), x29.sheet, x29.note⟩ : Commit)), x2.1.heads⟩ : am7), x11.2) else none) else (if (x11.1 == 2) = true then ((rx7 (⟨a0.b, x11.2⟩ : Rd)).bind fun x37 => (idx x2.1.commits x9.1).bind fun x41 => some ((⟨(List.set x2.1.commits x9.1.toNat (⟨x41.up, x37.1, x41.note⟩ : Commit)), x2.1.heads⟩ : am7), x37.2)) else (if (x11.1 == 3) = true then ((idx x2.1.commits x9.1).bind fun x43 => some ((⟨(List.set x2.1.commits x9.1.toNat (⟨x43.up, x43.sheet, (⟨#[]⟩ : Str)⟩ : Commit)), x2.1.heads⟩ : am7), x11.2)) else (if (x11.1 == 4) = true then ((idx x2.1.heads 0).bind fun x45 => if aH7 (x2.1.heads ++ ([x45] : (List Head))).length = true then some ((⟨x2.1.commits, (x2.1.heads ++ ([x45] : (List Head)))⟩ : am7), x11.2) else none) else (if (x11.1 == 5) = true then ((idx x2.1.commits x9.1).bind fun x51 => some ((⟨(List.set x2.1.commits x9.1.toNat (⟨[], x51.sheet, x51.note⟩ : Commit)), x2.1.heads⟩ : am7), x11.2)) else (some (x2.1, x11.2)))))))
def Fb7 : Con := ⟨Rd × Option Addr × Nat, (am7 × Int), 317, fun a => [.pio 0 290], fun a => rG7 a.1, fun a r => ⟨[(true, w27 r.1)], [some [[.v (.slice a.2.1 (List.map eU8 a.1.b).length a.2.2), .v (.int .i64 r.2)]]]⟩, fun a => [(true, 290, [[.rw a.2.1 a.2.2 (List.map eU8 a.1.b), .v (.int .i64 a.1.p)]])]⟩
def L17 : IFn := ⟨22, [.inl 4],
 (Rs [Io (.box 210 [some 115, some 130] (.t 0)) 2, Ki 0 4]
 (Rs (sq 6 [La 2 2, Mv 1, Ca 89 [6, 7]] [Mv 8 5])
 (.seq (Rs (sq 9 [La 2 2, Ca 96 [9], Nt 10, Mv 11] (Sf 12 13 [Mv 5, Bk .lss 13 0] [Pk 12 14 15]))
 (Ct 15 (Rs [Ki (-1) 4]
 .ret)
 .skip))
 (Rs (sq 16 [Fa 1 2, Ld 1 16, Mv 5, Ia 2 17 18, Fa 1 19, Ld 1 20] [Mv 21 4])
 .ret)))), lcF []⟩
def L27 : List (List (Option Nat)) := [[none]]
def kf7 (a0 : am7) (a1 : Str) : Option Int := (kc7 a0 a1).bind fun x2 => (iA7 a0).bind fun x4 => if (!x4) = true then (some ((-1))) else (if (decide (x2 < 0)) = true then (some ((-1))) else ((idx a0.heads x2).bind fun x6 => some (x6.at_)))
def s07 : Con := ⟨am7 × Str, Int, 213, fun a => [.agg [.ro (List.map (af7 false) a.1.commits), .ro (List.map az7 a.1.heads)], .v (.string a.2)], fun a => kf7 a.1 a.2, fun a r => ⟨[(false, [.v (.int .i64 r)])], []⟩, fun a => []⟩
def L37 : IFn := ⟨26, [.inl 4],
 (Rs [Kb false 4]
 (.seq (Rs (sq 6 [Mv 0, Ln 6, Mv 1, Ln 8, Bb .neq 7 9] [])
 (Ct 10 (Rs [Kb false 4]
 .ret)
 .skip))
 (.seq (Rs (sq 11 [Mv 0, Ln 11, Ki 0] [])
 (bO7 0 (.loop (Rs [Bb .lss 13 12 14]
 (.seq (Ct 14 .skip
 (.exit 0))
 (.seq (.block 1 (Rs [Mv 13 15, Mv 15 5]
 (.seq (.drw (sq 16 [Mv 0, Mv 5, Ia 2 16 17, La 2 18, Mv 1, Mv 5, Ia 2 20 21, La 2 22, Io (.eqs true true [2, 0] (.t 19) (.t 23))] []) [(3, 7)])
 (Ct 24 (Rs [Kb false 4]
 .ret)
 .skip))))
 (.reg [Bk .add 13 1 25, Mv 25 13])))))))
 (Rs [Kb true 4]
 .ret)))), lcF []⟩
def L47 : List (List (Option Nat)) := [[none]]
def fR7 (a1 : (List Head)) : List Head → Nat → Option (Bool ⊕ Unit)
 | [], k16 => some (.inr ())
 | x17 :: l18, k16 => (idx a1 (k16 : Int)).bind fun x25 => if (!((x17.name == x25.name) && ((x17.at_ == x25.at_) && true))) = true then (some (.inl (false))) else (fR7 a1 l18 (k16 + 1) )
def uu7 (a0 : (List Head)) (a1 : (List Head)) : Option Bool := if ((a0.length : Int) != (a1.length : Int)) = true then (some (false)) else (if aH7 a0.length = true then ((fR7 a1 a0 0 ).bind fun q => match q with | .inl r => some r | .inr q14 => some (true)) else none)
def Fc7 : Con := ⟨(List Head) × (List Head), Bool, 331, fun a => [.ro (List.map az7 a.1), .ro (List.map az7 a.2)], fun a => uu7 a.1 a.2, fun a r => ⟨[(false, [.v (.bool r)])], []⟩, fun a => []⟩
def L57 : IFn := ⟨32, [.inl 6],
 (Rs [Kb false 6]
 (.seq (Rs (sq 10 [Mv 0, Ln 10, Mv 1, Ln 12, Bb .neq 11 13] [])
 (Ct 14 (Rs [Kb false 6]
 .ret)
 .skip))
 (.seq (Rs (sq 15 [Mv 0, Ln 15, Ki 0] [])
 (bO7 0 (.loop (Rs [Bb .lss 17 16 18]
 (.seq (Ct 18 .skip
 (.exit 0))
 (.seq (.block 1 (Rs (sq 19 [Mv 17, Ia 3 15 17, La 3 20] [Io (.alloc 115 [.sl true 17 [], .sl true 100 [], .v (.string ⟨#[]⟩)]) 8, Mv 19 7, Sv [some 17, some 100, none] 8 21])
 (Rs (sq 22 [Mv 1, Mv 7, Ia 3 22 23, La 3 24] [Io (.alloc 115 [.sl true 17 [], .sl true 100 [], .v (.string ⟨#[]⟩)]) 9, Sv [some 17, some 100, none] 9 25])
 (Rs (sq 26 [Mv 2, La 3 8, La 3 9, Io (.calld (.t 26) [(false, .t 27), (false, .t 28)]), Nt 29] [])
 (Ct 30 (Rs [Kb false 6]
 .ret)
 .skip)))))
 (.reg [Bk .add 17 1 31, Mv 31 17])))))))
 (Rs [Kb true 6]
 .ret)))), lcF []⟩
def L67 : List (List (Option Nat)) := [[none]]
def fS7 (a1 : (List Commit)) : List Commit → Nat → Option (Bool ⊕ Unit)
 | [], k28 => some (.inr ())
 | x29 :: l30, k28 => (idx a1 (k28 : Int)).bind fun x38 => (nX7 x29 x38).bind fun x41 => if (!x41) = true then (some (.inl (false))) else (fS7 a1 l30 (k28 + 1) )
def uv7 (a0 : (List Commit)) (a1 : (List Commit)) : Option Bool := if ((a0.length : Int) != (a1.length : Int)) = true then (some (false)) else (if aH7 a0.length = true then ((fS7 a1 a0 0 ).bind fun q => match q with | .inl r => some r | .inr q26 => some (true)) else none)
def Fd7 : Con := ⟨(List Commit) × (List Commit), Bool, 329, fun a => [.ro (List.map (af7 false) a.1), .ro (List.map (af7 false) a.2), .fn 330 []], fun a => uv7 a.1 a.2, fun a r => ⟨[(false, [.v (.bool r)])], []⟩, fun a => []⟩
def L77 : IFn := ⟨17, [.inl 4],
 (Rs (sq 2 [Io (.box 210 [some 115, some 130] (.t 0)), Io (.box 210 [some 115, some 130] (.t 1)), Kb false] [])
 (Rs (sq 5 [Fa 0 2, Ld 1 5, Fa 0 3, Ld 1 7, Io (.call 329 [(false, .t 6), (false, .t 8), (false, .f 330)]), Mv 9] (Sg 10 11 [Fa 1 2, Ld 1 11, Fa 1 3, Ld 1 13, Ca 331 [12, 14]] [Pf 10 15 16, Mv 16 4]))
 .ret)), lcF []⟩
def L87 : List (List (Option Nat)) := [[none]]
def kg7 (a0 : am7) (a1 : am7) : Option Bool := (uv7 a0.commits a1.commits).bind fun x3 => if x3 = true then ((uu7 a0.heads a1.heads).bind fun x5 => some (x5)) else (some (false))
def s17 : Con := ⟨am7 × am7, Bool, 228, fun a => [.agg [.ro (List.map (af7 false) a.1.commits), .ro (List.map az7 a.1.heads)], .agg [.ro (List.map (af7 false) a.2.commits), .ro (List.map az7 a.2.heads)]], fun a => kg7 a.1 a.2, fun a r => ⟨[(false, [.v (.bool r)])], []⟩, fun a => []⟩
def L97 : IFn := ⟨27, [.inl 6],
 (Rs [Io (.box 210 [some 115, some 130] (.t 0)) 3, Kb false 6]
 (Rs (sq 7 [La 2 3, Ca 96 [7], Mv 8] (Sg 9 10 [La 2 3, Mv 1, Ca 90 [10, 11]] (sq 13 [Pf 9 12, Mv 13] (Sg 14 15 [La 2 3, Mv 2, Ca 90 [15, 16]] (sq 18 [Pf 14 17, Mv 18] (Sg 19 20 [La 2 3, Mv 2, Ca 97 [20, 21], Mv 1, Ia 1 22 23, Ld 1 24] [Pf 19 25 26, Mv 26 6]))))))
 .ret)), lcF []⟩
def Ma7 : List (List (Option Nat)) := [[none]]
def kh7 (a0 : am7) (a1 : Int) (a2 : Int) : Option Bool := (iA7 a0).bind fun x2 => if x2 = true then ((iz7 a0 a1).bind fun x4 => if x4 = true then ((iz7 a0 a2).bind fun x6 => if x6 = true then ((hr7 a0 a2).bind fun x8 => (idx x8 a1).bind fun x12 => some (x12)) else (some (false))) else (some (false))) else (some (false))
def s27 : Con := ⟨am7 × Int × Int, Bool, 238, fun a => [.agg [.ro (List.map (af7 false) a.1.commits), .ro (List.map az7 a.1.heads)], .v (.int .i64 a.2.1), .v (.int .i64 a.2.2)], fun a => kh7 a.1 a.2.1 a.2.2, fun a r => ⟨[(false, [.v (.bool r)])], []⟩, fun a => []⟩
def Mb7 : IFn := ⟨26, [.inl 4],
 (Rs [Kb false 4]
 (.seq (Rs (sq 6 [Mv 0, Ln 6, Mv 1, Ln 8, Bb .neq 7 9] [])
 (Ct 10 (Rs [Kb false 4]
 .ret)
 .skip))
 (.seq (Rs (sq 11 [Mv 0, Ln 11, Ki 0] [])
 (bO7 0 (.loop (Rs [Bb .lss 13 12 14]
 (.seq (Ct 14 .skip
 (.exit 0))
 (.seq (.block 1 (Rs [Mv 13 15, Mv 15 5]
 (.seq (.drw (sq 16 [Mv 0, Mv 5, Ia 2 16 17, La 2 18, Mv 1, Mv 5, Ia 2 20 21, La 2 22, Io (.eqs true true [2, 2] (.t 19) (.t 23))] []) [(3, 7)])
 (Ct 24 (Rs [Kb false 4]
 .ret)
 .skip))))
 (.reg [Bk .add 13 1 25, Mv 25 13])))))))
 (Rs [Kb true 4]
 .ret)))), lcF []⟩
def Mc7 : List (List (Option Nat)) := [[none]]
def fT7 (a1 : (List ax7)) : List ax7 → Nat → Option (Bool ⊕ Unit)
 | [], k16 => some (.inr ())
 | x17 :: l18, k16 => (idx a1 (k16 : Int)).bind fun x25 => if (!((x17.id == x25.id) && ((x17.what == x25.what) && true))) = true then (some (.inl (false))) else (fT7 a1 l18 (k16 + 1) )
def uw7 (a0 : (List ax7)) (a1 : (List ax7)) : Option Bool := if ((a0.length : Int) != (a1.length : Int)) = true then (some (false)) else (if aH7 a0.length = true then ((fT7 a1 a0 0 ).bind fun q => match q with | .inl r => some r | .inr q14 => some (true)) else none)
def Fe7 : Con := ⟨(List ax7) × (List ax7), Bool, 351, fun a => [.ro (List.map bc7 a.1), .ro (List.map bc7 a.2)], fun a => uw7 a.1 a.2, fun a r => ⟨[(false, [.v (.bool r)])], []⟩, fun a => []⟩
def Md7 : IFn := ⟨8, [.inl 4],
 (Rs [Kb false 4]
 (Rs (sq 5 [Mv 0, Mv 1, Ca 351 [5, 6]] [Mv 7 4])
 .ret)), lcF []⟩
def Me7 : List (List (Option Nat)) := [[none]]
def rH7 (a0 : (List ax7)) (a1 : (List ax7)) : Option Bool := (uw7 a0 a1).bind fun x1 => some (x1)
def AP7 : Con := ⟨(List ax7) × (List ax7), Bool, 301, fun a => [.ro (List.map bc7 a.1), .ro (List.map bc7 a.2)], fun a => rH7 a.1 a.2, fun a r => ⟨[(false, [.v (.bool r)])], []⟩, fun a => []⟩
def Mf7 : IFn := ⟨24, [.inr (2, 2), .inl 3, .inl 4, .inl 5],
 (Rs (sq 2 [Io (.alloc 210 [.sl true 115 [], .sl true 130 []]), Io (.mv (.c (.string ⟨#[]⟩))), Io (.mv (.c (.string ⟨#[]⟩))), Io (.mv (.c (.string ⟨#[]⟩)))] [])
 (Rs (sq 10 [Mv 0, Ca 316 [10]] [Mv 11 6])
 (Rs (sq 12 [Mv 6, Io (.call 317 [(true, .t 12)])] [Io (.alloc 210 [.sl true 115 [], .sl true 130 []]) 7, Sv [some 115, some 130] 7 13])
 (Rs (sq 14 [Mv 6, Io (.call 327 [(true, .t 14)])] [Mv 15 8])
 (Rs (sq 16 [Mv 6, Io (.call 327 [(true, .t 16)])] [Mv 17 9])
 (.seq (.drw (sq 18 [La 2 7, Mv 8, Mv 9, Mv 6, Io (.lit 49 [none] [.v (.string ⟨#[]⟩)] 4 [(0, .c (.string ⟨#[97, 110, 110]⟩)), (1, .c (.string ⟨#[106, 111, 105, 110]⟩)), (2, .c (.string ⟨#[]⟩)), (3, .c (.string ⟨#[98, 111, 98]⟩))]), Io (.call 326 [(true, .t 21), (false, .w 22)])] (Sv [some 115, some 130] 2 18 :: (sq 3 [Mv 19, Mv 20, Mv 23] []))) [(0, 4), (0, 5)])
 .ret)))))), lcF []⟩
def Mg7 : List (List (Option Nat)) := [[some 115, some 130], [none], [none], [none]]
def rI7 (a0 : (List UInt8)) : Option (am7 × Str × Str × Str) := (rs7 a0).bind fun x2 => (rG7 x2).bind fun x5 => (l27 (⟨x2.b, x5.2⟩ : Rd)).bind fun x12 => (l27 (⟨x2.b, x12.2⟩ : Rd)).bind fun x14 => (ge7 (⟨x2.b, x14.2⟩ : Rd) ([(⟨#[97, 110, 110]⟩ : Str), (⟨#[106, 111, 105, 110]⟩ : Str), (⟨#[]⟩ : Str), (⟨#[98, 111, 98]⟩ : Str)] : (List Str))).bind fun x17 => some (x5.1, x12.1, x14.1, x17.1)
def AQ7 : Con := ⟨(List UInt8) × Option Addr × Nat, (am7 × Str × Str × Str), 303, fun a => [.raw a.2.1 a.2.2 (List.map eU8 a.1)], fun a => rI7 a.1, fun a r => ⟨[(true, w27 r.1), (false, [.v (.string r.2.1)]), (false, [.v (.string r.2.2.1)]), (false, [.v (.string r.2.2.2)])], []⟩, fun a => []⟩
def Mh7 : IFn := ⟨209, [.inl 2],
 (Rs [Kb false 2]
 (.seq (Rs (sq 19 [Mv 0, Ln 19, Bk .gtr 20 1048576] [])
 (Ct 21 (Rs [Kb true 2]
 .ret)
 .skip))
 (Rs (sq 23 [Mv 0, Io (.frz (.call 303 [(false, .t 23)]))] (Mv 24 22 :: (sq 25 [Xt 22 0, Xt 22 1, Xt 22 2, Xt 22 3] (Io (.alloc 210 [.sl true 115 [], .sl true 130 []]) 3 :: (Sv [some 115, some 130] 3 25 :: (sq 4 [Mv 26, Mv 27, Mv 28] []))))))
 (d87 (.reg (sq 30 [La 2 3, Mv 4, Mv 5, Mv 6, Cw 182 [30, 31, 32, 33]] (Mv 34 29 :: (sq 35 [Xt 29 0, Xt 29 1, Xt 29 2] (Io (.alloc 210 [.sl true 115 [], .sl true 130 []]) 7 :: (Sv [some 115, some 130] 7 35 :: (sq 8 [Mv 36, Mv 37] [])))))))
 (Rs (sq 39 [La 2 3, Mv 4, Mv 5, Mv 6, Cw 181 [39, 40, 41, 42]] (Mv 43 38 :: (sq 44 [Xt 38 0, Xt 38 1, Xt 38 2] (Io (.alloc 210 [.sl true 115 [], .sl true 130 []]) 10 :: (Sv [some 115, some 130] 10 44 :: (sq 11 [Mv 45, Mv 46] []))))))
 (.seq (Rs (sq 47 [Mv 9, Mv 12, Bb .neq 47 48, Mv 49] (Sf 50 51 [La 2 7, La 2 10, Cw 228 [51, 52], Nt 53] (sq 55 [Pk 50 54, Mv 55] (Sf 56 57 [Mv 8, Mv 11, Cw 301 [57, 58], Nt 59] [Pk 56 60 61]))))
 (Ct 61 (Rs [Kb false 2]
 .ret)
 .skip))
 (.seq (Rs (sq 62 [Mv 9, Bk .eql 62 6] [])
 (Ct 63 (Rs (sq 64 [Fa 0 7, Ld 1 64, Ln 65, Bk .eql 66 0] [Mv 67 2])
 .ret)
 .skip))
 (d87 (.reg (sq 68 [La 2 3, Mv 4, Cw 213 [68, 69]] [Mv 70 13]))
 (Rs (sq 71 [La 2 3, Mv 5, Cw 213 [71, 72]] [Mv 73 14])
 (Rs (sq 74 [La 2 7, Mv 4, Cw 213 [74, 75]] [Mv 76 15])
 (.seq (Rs [Mv 9 77]
 (.block 0 (Rs [Bk .eql 77 0 79, Mv 79 78]
 (Ct 78 (.seq (.drw (sq 81 [Fa 0 3, Ld 1 81, La 2 3, Mv 13, Mv 14, Cw 148 [83, 84, 85], Io (.iaddr 3 (.w 82) (.t 86)), Fa 1 87, Ld 1 88, Fa 0 3, Ld 1 90, Mv 13, Io (.iaddr 3 (.w 91) (.t 92)), Fa 1 93, Ld 1 94, Fa 0 3, Ld 1 96, Mv 14, Io (.iaddr 3 (.w 97) (.t 98)), Fa 1 99, Ld 1 100, Cw 149 [89, 95, 101]] (Mv 102 80 :: (sq 103 [Xt 80 0, Xt 80 1, Xt 80 2] (sq 16 [Mv 103, Mv 104, Mv 105] [])))) [(1, 2), (1, 5), (1, 10), (2, 10), (5, 10), (8, 10), (1, 14), (2, 14), (5, 14), (8, 14), (1, 16), (2, 16), (5, 16), (8, 16), (10, 16), (14, 16), (1, 20), (2, 20), (5, 20), (8, 20), (10, 20), (14, 20)])
 (Rs (sq 106 [Mv 18, Mv 106] (Sg 107 108 [Mv 17, Ln 108, Bk .eql 109 0] (sq 111 [Pf 107 110, Mv 111] (Sg 112 113 [Mv 8, Ln 113, Bk .eql 114 0] (sq 116 [Pf 112 115, Mv 116] (Sg 117 118 [La 2 7, Cw 96 [118]] (sq 120 [Pf 117 119, Mv 120] (Sg 121 122 [Fa 0 7, Ld 1 122, Mv 15, Io (.iaddr 3 (.w 123) (.t 124)), Fa 1 125, Ld 1 126, Mv 16, Io (.shut (.t 126) (.call 220 [(false, .w 127), (false, .w 128)]))] (sq 130 [Pf 121 129, Mv 130] (Sg 131 132 [La 2 7, Mv 13, Mv 15, Cw 238 [132, 133, 134]] (sq 136 [Pf 131 135, Mv 136] (Sg 137 138 [La 2 7, Mv 14, Mv 15, Cw 238 [138, 139, 140]] (sq 142 [Pf 137 141, Mv 142] (Sg 143 144 [Fa 0 7, Ld 1 144, Ln 145, Fa 0 3, Ld 1 147, Ln 148, Bk .add 149 1, Bb .leq 146 150] (sq 152 [Pf 143 151, Mv 152] (Sg 153 154 [La 2 7, Mv 5, Cw 213 [154, 155], Mv 14, Bb .eql 156 157] [Pf 153 158 159, Mv 159 2]))))))))))))))))
 .ret))
 (Rs [Bk .eql 77 2 161, Mv 161 160]
 (Ct 160 (Rs (sq 162 [Mv 15, Mv 14, Bb .eql 162 163, Mv 164] (Sg 165 166 [La 2 3, Mv 13, Mv 14, Cw 238 [166, 167, 168]] (sq 170 [Pf 165 169, Mv 170] (Sg 171 172 [Mv 13, Mv 14, Bb .neq 172 173] (sq 175 [Pf 171 174, Mv 175] (Sg 176 177 [Fa 0 7, Ld 1 177, Ln 178, Fa 0 3, Ld 1 180, Ln 181, Bb .eql 179 182] [Pf 176 183 184, Mv 184 2]))))))
 .ret)
 (Rs [Bk .eql 77 1 186, Mv 186 185]
 (Ct 185 (Rs (sq 187 [La 2 3, Mv 14, Mv 13, Cw 238 [187, 188, 189], Mv 190] (Sg 191 192 [La 2 7, La 2 3, Cw 228 [192, 193]] [Pf 191 194 195, Mv 195 2]))
 .ret)
 (Rs [Bk .eql 77 3 197, Mv 197 196]
 (Ct 196 (Rs (sq 198 [Mv 8, Ln 198, Bk .gtr 199 0, Mv 200] (Sg 201 202 [La 2 7, La 2 3, Cw 228 [202, 203]] [Pf 201 204 205, Mv 205 2]))
 .ret)
 .skip))))))))))
 (Rs (sq 206 [La 2 7, La 2 3, Cw 228 [206, 207]] [Mv 208 2])
 .ret)))))))))))), lcF []⟩
def Mi7 : List (List (Option Nat)) := [[none]]
def ux7 (a0 : (List UInt8)) : Option Bool := if (decide ((a0.length : Int) > 1048576)) = true then (some (true)) else ((rI7 a0).bind fun x1 => (((n97 x1.1 x1.2.1 x1.2.2.1 x1.2.2.2).bind fun x9 => some (x9.2.2, x9.1.commits, x9.1.heads, x9.2.1) : Option (Int × (List Commit) × (List Head) × (List ax7)))).bind fun q8 => (n87 x1.1 x1.2.1 x1.2.2.1 x1.2.2.2).bind fun x30 => if (q8.1 != x30.2.2) = true then (some (false)) else ((kg7 (⟨q8.2.1, q8.2.2.1⟩ : am7) x30.1).bind fun x39 => if (!x39) = true then (some (false)) else ((rH7 q8.2.2.2 x30.2.1).bind fun x41 => if (!x41) = true then (some (false)) else (if (q8.1 == 6) = true then (some (((q8.2.1.length : Int) == 0))) else ((((kf7 x1.1 x1.2.1).bind fun x44 => some x44 : Option Int)).bind fun q43 => (kf7 x1.1 x1.2.2.1).bind fun x55 => (kf7 (⟨q8.2.1, q8.2.2.1⟩ : am7) x1.2.1).bind fun x57 => if (q8.1 == 0) = true then ((n47 x1.1 q43 x55).bind fun x59 => (idx x1.1.commits x59).bind fun x61 => (idx x1.1.commits q43).bind fun x63 => (idx x1.1.commits x55).bind fun x65 => (n67 x61.sheet x63.sheet x65.sheet).bind fun x67 => if x67.2.2 = true then (if ((x67.2.1.length : Int) == 0) = true then (if ((q8.2.2.2.length : Int) == 0) = true then ((iA7 (⟨q8.2.1, q8.2.2.1⟩ : am7)).bind fun x73 => if x73 = true then ((idx q8.2.1 x57).bind fun x75 => (nW7 x75.sheet x67.1).bind fun x79 => if x79 = true then ((kh7 (⟨q8.2.1, q8.2.2.1⟩ : am7) q43 x57).bind fun x81 => if x81 = true then ((kh7 (⟨q8.2.1, q8.2.2.1⟩ : am7) x55 x57).bind fun x83 => if x83 = true then (if (decide ((q8.2.1.length : Int) ≤ (IntKind.i64.wrap ((x1.1.commits.length : Int) + 1)))) = true then ((kf7 (⟨q8.2.1, q8.2.2.1⟩ : am7) x1.2.2.1).bind fun x85 => some ((x85 == x55))) else (some (false))) else (some (false))) else (some (false))) else (some (false))) else (some (false))) else (some (false))) else (some (false))) else (some (false))) else (if (q8.1 == 2) = true then (if (x57 == x55) = true then ((kh7 x1.1 q43 x55).bind fun x87 => if x87 = true then (if (q43 != x55) = true then (some (((q8.2.1.length : Int) == (x1.1.commits.length : Int)))) else (some (false))) else (some (false))) else (some (false))) else (if (q8.1 == 1) = true then ((kh7 x1.1 x55 q43).bind fun x89 => if x89 = true then ((kg7 (⟨q8.2.1, q8.2.2.1⟩ : am7) x1.1).bind fun x91 => some (x91)) else (some (false))) else (if (q8.1 == 3) = true then (if (decide ((q8.2.2.2.length : Int) > 0)) = true then ((kg7 (⟨q8.2.1, q8.2.2.1⟩ : am7) x1.1).bind fun x93 => some (x93)) else (some (false))) else ((kg7 (⟨q8.2.1, q8.2.2.1⟩ : am7) x1.1).bind fun x95 => some (x95))))))))))
def Mj7 : Con := ⟨(List UInt8) × Option Addr × Nat, Bool, 305, fun a => [.raw a.2.1 a.2.2 (List.map eU8 a.1)], fun a => ux7 a.1, fun a r => ⟨[(false, [.v (.bool r)])], []⟩, fun a => []⟩
end Go.Proofs.AM
