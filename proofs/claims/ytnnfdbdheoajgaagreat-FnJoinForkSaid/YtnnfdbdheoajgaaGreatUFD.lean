/- Lemmas of the proof (UFD), on an abstract machine. Conditions: none. -/
import Derived.Test.YtnnfdbdheoajgaaGreatUFC0
set_option linter.unusedVariables false
set_option maxRecDepth 100000
set_option maxHeartbeats 4000000
namespace Go.Proofs.AM
attribute [local irreducible] vwp cZ7 bI7 f17 vdo jm7 mB7 jX7 fg7 mr7 kD7 bL7 e77 kn7 eX7 jL7 kT7 kS7
def Lv7 : IFn := ⟨92, [.inr (4, 2)],
 (Rs (sq 3 [Io (.box 210 [some 115, some 130] (.t 1)), Io (.alloc 210 [.sl true 115 [], .sl true 130 []])] [])
 (Rs (sq 12 [Mv 0, Io (.call 327 [(true, .t 12)])] [Mv 13 5])
 (Rs (sq 14 [La 2 3, Mv 5, Ca 28 [14, 15]] [Mv 16 6])
 (.seq (Rs (sq 17 [Mv 6, Bk .lss 17 0] [])
 (Ct 18 (.seq (.drw (sq 20 [La 2 3, Mv 5, Fa 1 3, Ld 1 22, Mv 0, Fa 1 3, Ld 1 25, Ln 26, Io (.call 321 [(true, .t 24), (false, .t 27)]), Ia 2 23 28, Fa 0 29, Ld 1 30, Ca 224 [20, 21, 31]] (Mv 32 19 :: (sq 33 [Xt 19 0, Xt 19 1] [Io (.alloc 210 [.sl true 115 [], .sl true 130 []]) 7, Sv [some 115, some 130] 7 33, Mv 34 8]))) [(0, 3), (0, 6), (3, 6), (0, 8), (3, 8), (0, 11), (0, 16), (3, 16), (6, 16), (8, 16), (11, 16), (12, 16)])
 (.seq (Rs (sq 35 [Fa 1 7, Ld 1 35, Ln 36, Bk .gtr 37 0] [])
 (Ct 38 (Rs [La 2 7 39, Sv [some 115, some 130] 4 39]
 .ret)
 .skip))
 (Rs [Io (.ldr 2 (.t 3)) 40, Iz (.store [none, none] (.t 4) (.t 40))]
 .ret)))
 .skip))
 (Rs (sq 41 [Fa 1 3, Ld 1 41, Mv 6, Ia 2 42 43, Fa 1 44, Ld 1 45] [Mv 46 9])
 (dP7 (.reg (sq 47 [Mv 9, Io (.lit 17 [none] [.v (.int .i64 0)] 1 [(0, .t 47)]), Mv 0, Fa 0 3, Ld 1 50, Mv 9, Ia 3 51 52, Fa 1 53, Ld 1 54, Io (.call 336 [(true, .t 49), (false, .t 55)]), Mv 0, Io (.call 377 [(true, .t 57)]), Io (.build [.nil, .nil, .v (.string ⟨#[]⟩)] [(0, 1, .t 48), (1, 1, .t 56), (2, 1, .t 58)])] [Io (.alloc 115 [.sl true 17 [], .sl true 100 [], .v (.string ⟨#[]⟩)]) 10, Sv [some 17, some 100, none] 10 59]))
 (.seq (.drw (sq 60 [Fa 1 3, Ld 1 60, Mv 0, Fa 1 3, Ld 1 63, Ln 64, Io (.call 321 [(true, .t 62), (false, .t 65)]), Ia 2 61 66, Fa 1 67, Ld 1 68] [Mv 69 11]) [(1, 4), (1, 6)])
 (dP7 (Rs (sq 70 [Mv 11, Mv 9, Bb .neq 70 71, Mv 72] (Sg 73 74 [Mv 0, Io (.call 321 [(true, .t 74), (false, .c (.int .i64 4))]), Bk .eql 75 0] [Pf 73 76 77]))
 (Ct 77 (.reg (sq 78 [Mv 9, Mv 11, Io (.lit 17 [none] [.v (.int .i64 0)] 2 [(0, .t 78), (1, .t 79)]), Fa 0 10] [Sv [some 17] 81 80]))
 .skip))
 (.seq (Rs (sq 82 [Fa 0 3, Ld 1 82, Ln 83, Bk .geq 84 12] [])
 (Ct 85 (Rs [Io (.ldr 2 (.t 3)) 86, Iz (.store [none, none] (.t 4) (.t 86))]
 .ret)
 .skip))
 (.seq (.drw (sq 87 [La 2 3, Ca 61 [87], Mv 6, La 3 10, Io (.call 60 [(true, .t 88), (false, .t 89), (false, .t 90)])] [Sv [some 115, some 130] 4 91]) [(0, 3), (1, 3)])
 .ret)))))))))), lcF []⟩
def Lw7 : List (List (Option Nat)) := [[some 115, some 130]]
def q37 (a0 : Rd) (a1 : an7) : Option ((Option an7) × Int) := (qY7 a0).bind fun x3 => (gA7 a1 x3.1).bind fun x5 => if (decide (x5 < 0)) = true then ((bJ7 (⟨a0.b, x3.2⟩ : Rd) (a1.heads.length : Int)).bind fun x7 => (idx a1.heads x7.1).bind fun x9 => (qX7 a1 x3.1 x9.name).bind fun x11 => if (decide ((x11.1.heads.length : Int) > 0)) = true then (some ((some x11.1), x7.2)) else (some ((none : Option an7), x7.2))) else ((idx a1.heads x5).bind fun x18 => (((idx a1.commits x18.at_).bind fun x22 => (q17 (⟨a0.b, x3.2⟩ : Rd) x22.sheet).bind fun x24 => (q27 (⟨a0.b, x24.2⟩ : Rd)).bind fun x26 => some (x26.2, x24.1, x26.1) : Option (Int × (List Feat) × Str))).bind fun q20 => (bJ7 (⟨a0.b, q20.1⟩ : Rd) (a1.heads.length : Int)).bind fun x41 => (idx a1.heads x41.1).bind fun x43 => ((if (x43.at_ != x18.at_) = true then ((bJ7 (⟨a0.b, x41.2⟩ : Rd) 4).bind fun x49 => if (x49.1 == 0) = true then (some ([x18.at_, x43.at_], x49.2)) else (some ([x18.at_], x49.2))) else (some ([x18.at_], x41.2)) : Option ((List Int) × Int))).bind fun q48 => if (decide ((a1.commits.length : Int) ≥ 12)) = true then (some ((none : Option an7), q48.2)) else ((lL7 a1).bind fun x63 => (ix7 x63 x5 (⟨q48.1, q20.2.1, q20.2.2⟩ : Commit)).bind fun x69 => some ((some x69), q48.2)))
def xP7 : Con := ⟨Rd × an7 × Option Addr × Nat × Option Addr × Nat × Option Addr × Nat, ((Option an7) × Int), 357, fun a => [.pio 0 290, .agg [.raw a.2.2.2.2.1 a.2.2.2.2.2.1 (List.map (af7 false) a.2.1.commits), .raw a.2.2.2.2.2.2.1 a.2.2.2.2.2.2.2 (List.map av7 a.2.1.heads)]], fun a => q37 a.1 a.2.1, fun a r => ⟨[(true, match r.1 with | some q => hI7 true q | none => [.v (.slice a.2.2.2.2.1 (List.map (af7 false) a.2.1.commits).length a.2.2.2.2.2.1), .v (.slice a.2.2.2.2.2.2.1 (List.map av7 a.2.1.heads).length a.2.2.2.2.2.2.2)])], [some [[.v (.slice a.2.2.1 (List.map eU8 a.1.b).length a.2.2.2.1), .v (.int .i64 r.2)]]]⟩, fun a => [(true, 290, [[.rw a.2.2.1 a.2.2.2.1 (List.map eU8 a.1.b), .v (.int .i64 a.1.p)]])]⟩
def Lx7 : IFn := ⟨44, [.inr (2, 2)],
 (Rs [Io (.alloc 210 [.sl true 115 [], .sl true 130 []]) 2]
 (Rs (Io (.call 227 [(false, .c (.string ⟨#[109, 97, 105, 110]⟩))]) 7 :: (Mv 7 6 :: (sq 8 [Io (.pfz 1 (.ext (.t 6) 0)), Xt 6 1] [Io (.alloc 210 [.sl true 115 [], .sl true 130 []]) 3, Sv [some 115, some 130] 3 8, Mv 9 4])))
 (.seq (.drw (sq 10 [Fa 0 3, Ld 1 10, Mv 0, Io (.frz (.call 361 [(true, .t 12)])), Ik 3 11 0, Fa 1 14] [Sv [some 100] 15 13]) [(1, 3)])
 (.seq (Rs (sq 16 [Mv 0, Io (.call 321 [(true, .t 16), (false, .c (.int .i64 7))]), Io (.bin .add (.c (.int .i64 2)) (.t 17))] [Mv 18 5])
 (bR7 0 (.loop (.seq (Rs (sq 19 [Mv 5, Bk .gtr 19 0] [])
 (Ct 20 .skip
 (.exit 0)))
 (.seq (.block 1 (.reg (sq 23 [Mv 0, Io (.rawl (.load 2 true (.t 3))), Io (.pfz 1 (.unr [1000384, 1000385] (.call 357 [(true, .t 23), (false, .t 24)])))] [Sv [some 115, some 130] 3 25])))
 (.reg (sq 21 [Mv 5, Bk .sub 21 1] [Mv 22 5])))))))
 (.seq (Rs (sq 26 [Mv 0, Io (.call 321 [(true, .t 26), (false, .c (.int .i64 4))]), Bk .eql 27 0, Mv 28] (Sg 29 30 [Fa 1 3, Ld 1 30, Ln 31, Bk .gtr 32 1] [Pf 29 33 34]))
 (Ct 34 (.reg (sq 35 [Fa 1 3, Ld 1 35, Fa 1 3, Ld 1 37, Ln 38, Bk .sub 39 1, Io (.trn (.sls 2 (.t 36) none (some (.t 40)))), Fa 1 3] [Sv [some 130] 42 41]))
 .skip))
 (Rs [La 2 3 43, Sv [some 115, some 130] 2 43]
 .ret)))))), lcF []⟩
def Ly7 : List (List (Option Nat)) := [[some 115, some 130]]
def dI7 (a0 : Rd) : Nat → Int → Int → (List Commit) → (List Head) → Option (Int × (List Commit) × (List Head))
 | 0, _, _, _, _ => none
 | n71 + 1, v57, v58, v64, v67 => if (decide (v57 > 0)) = true then ((q37 (⟨a0.b, v58⟩ : Rd) (⟨v64, v67⟩ : an7)).bind fun x72 => match x72 with | (none, p75) => (dI7 a0 n71 (IntKind.i64.wrap (v57 - 1)) p75 v64 v67) | (some y74, p75) => (dI7 a0 n71 (IntKind.i64.wrap (v57 - 1)) p75 y74.commits y74.heads)) else (some (v58, v64, v67))
def q57 (a0 : Rd) : Option (an7 × Int) := (qW7 (⟨#[109, 97, 105, 110]⟩ : Str)).bind fun x2 => (nM7 a0).bind fun x9 => (idx x2.1.commits 0).bind fun x13 => (bJ7 (⟨a0.b, x9.2⟩ : Rd) 7).bind fun x15 => (dI7 a0 a47 (IntKind.i64.wrap (2 + x15.1)) x15.2 (List.set x2.1.commits (0 : Int).toNat (⟨x13.up, x9.1, x13.note⟩ : Commit)) x2.1.heads).bind fun q56 => (bJ7 (⟨a0.b, q56.1⟩ : Rd) 4).bind fun x90 => if (x90.1 == 0) = true then (if (decide ((q56.2.2.length : Int) > 1)) = true then ((slc q56.2.2 0 (IntKind.i64.wrap ((q56.2.2.length : Int) - 1))).bind fun x92 => some ((⟨q56.2.1, x92⟩ : an7), x90.2)) else (some ((⟨q56.2.1, q56.2.2⟩ : an7), x90.2))) else (some ((⟨q56.2.1, q56.2.2⟩ : an7), x90.2))
def Au7 : Con := ⟨Rd × Option Addr × Nat, (an7 × Int), 355, fun a => [.pio 0 290], fun a => q57 a.1, fun a r => ⟨[(true, wr7 r.1)], [some [[.v (.slice a.2.1 (List.map eU8 a.1.b).length a.2.2), .v (.int .i64 r.2)]]]⟩, fun a => [(true, 290, [[.rw a.2.1 a.2.2 (List.map eU8 a.1.b), .v (.int .i64 a.1.p)]])]⟩
def Lz7 : IFn := ⟨77, [.inr (2, 2)],
 (Rs [Io (.alloc 210 [.sl true 115 [], .sl true 130 []]) 2]
 (Rs (sq 5 [Mv 0, Io (.call 355 [(true, .t 5)])] [Io (.alloc 210 [.sl true 115 [], .sl true 130 []]) 3, Sv [some 115, some 130] 3 6])
 (Rs (sq 7 [Mv 0, Fa 0 3, Ld 1 8, Ln 9, Io (.call 321 [(true, .t 7), (false, .t 10)])] [Mv 11 4])
 (.seq (Rs (sq 12 [Mv 0, Io (.call 321 [(true, .t 12), (false, .c (.int .i64 48))])] [])
 (.block 0 (dP7 (.reg [Bk .eql 13 0 15, Mv 15 14])
 (Ct 14 (.drw (sq 16 [Fa 1 3, Ld 1 16, Mv 0, Fa 0 3, Ld 1 19, Ln 20, Io (.lit 17 [none] [.v (.int .i64 0)] 2 [(0, .c (.int .i64 (-1))), (1, .t 21)]), Io (.call 356 [(true, .t 18), (false, .t 22)]), Ik 2 17 0, Fa 1 24] [Sv [none] 25 23]) [(1, 4), (1, 6), (1, 7)])
 (Rs [Bk .eql 13 1 27, Mv 27 26]
 (Ct 26 (.drw (sq 28 [Fa 0 3, Ld 1 28, Mv 4, Fa 0 3, Ld 1 31, Mv 4, Ia 3 32 33, Fa 0 34, Ld 1 35, Mv 4, Io (.lit 17 [none] [.v (.int .i64 0)] 1 [(0, .t 37)]), Io (.app 17 true (.t 36) (.t 38)), Ia 3 29 30, Fa 0 40] [Sv [some 17] 41 39]) [(1, 4), (1, 8), (1, 10), (4, 10), (8, 10), (1, 11)])
 (Rs [Bk .eql 13 2 43, Mv 43 42]
 (Ct 42 (.drw (sq 44 [Fa 0 3, Ld 1 44, Mv 4, Mv 0, Io (.frz (.call 335 [(true, .t 47)])), Ia 3 45 46, Fa 1 49] [Sv [some 100] 50 48]) [(1, 4)])
 (Rs [Bk .eql 13 3 52, Mv 52 51]
 (Ct 51 (.reg (sq 53 [Fa 0 3, Ld 1 53, Mv 4, Ia 3 54 55, Fa 2 56] [Iz (.store [none] (.t 57) (.c (.string ⟨#[]⟩)))]))
 (Rs [Bk .eql 13 4 59, Mv 59 58]
 (Ct 58 (.drw (sq 60 [Fa 1 3, Ld 1 60, Fa 1 3, Ld 1 62, Ik 2 63 0, La 2 64, Io (.lit 130 [none, none] [.v (.string ⟨#[]⟩), .v (.int .i64 0)] 1 [(0, .t 65)]), Io (.app 130 true (.t 61) (.t 66)), Fa 1 3] [Sv [some 130] 68 67]) [(1, 3), (1, 5), (1, 6)])
 (Rs [Bk .eql 13 5 70, Mv 70 69]
 (Ct 69 (.reg (sq 71 [Fa 0 3, Ld 1 71, Mv 4, Ia 3 72 73, Fa 0 74] [Iz (.store [some 17] (.t 75) (.c (.slice none 0 0)))]))
 .skip))))))))))))))
 (Rs [La 2 3 76, Sv [some 115, some 130] 2 76]
 .ret))))), lcF []⟩
def LA7 : List (List (Option Nat)) := [[some 115, some 130]]
def q67 (a0 : Rd) : Option (an7 × Int) := (q57 a0).bind fun x2 => (bJ7 (⟨a0.b, x2.2⟩ : Rd) (x2.1.commits.length : Int)).bind fun x9 => (bJ7 (⟨a0.b, x9.2⟩ : Rd) 48).bind fun x11 => ((some () : Option Unit)).bind fun q13 => if (x11.1 == 0) = true then ((iH7 (⟨a0.b, x11.2⟩ : Rd) ([(-1), (x2.1.commits.length : Int)] : (List Int))).bind fun x25 => (idx x2.1.heads 0).bind fun x27 => some ((⟨x2.1.commits, (List.set x2.1.heads (0 : Int).toNat (⟨x27.name, x25.1⟩ : Head))⟩ : an7), x25.2)) else (if (x11.1 == 1) = true then ((idx x2.1.commits x9.1).bind fun x29 => if aI7 (x29.up ++ ([x9.1] : (List Int))).length = true then some ((⟨(List.set x2.1.commits x9.1.toNat (⟨(x29.up ++ ([x9.1] : (List Int))), x29.sheet, x29.note⟩ : Commit)), x2.1.heads⟩ : an7), x11.2) else none) else (if (x11.1 == 2) = true then ((qV7 (⟨a0.b, x11.2⟩ : Rd)).bind fun x37 => (idx x2.1.commits x9.1).bind fun x41 => some ((⟨(List.set x2.1.commits x9.1.toNat (⟨x41.up, x37.1, x41.note⟩ : Commit)), x2.1.heads⟩ : an7), x37.2)) else (if (x11.1 == 3) = true then ((idx x2.1.commits x9.1).bind fun x43 => some ((⟨(List.set x2.1.commits x9.1.toNat (⟨x43.up, x43.sheet, (⟨#[]⟩ : Str)⟩ : Commit)), x2.1.heads⟩ : an7), x11.2)) else (if (x11.1 == 4) = true then ((idx x2.1.heads 0).bind fun x45 => if aI7 (x2.1.heads ++ ([x45] : (List Head))).length = true then some ((⟨x2.1.commits, (x2.1.heads ++ ([x45] : (List Head)))⟩ : an7), x11.2) else none) else (if (x11.1 == 5) = true then ((idx x2.1.commits x9.1).bind fun x51 => some ((⟨(List.set x2.1.commits x9.1.toNat (⟨[], x51.sheet, x51.note⟩ : Commit)), x2.1.heads⟩ : an7), x11.2)) else (some (x2.1, x11.2)))))))
def EI7 : Con := ⟨Rd × Option Addr × Nat, (an7 × Int), 317, fun a => [.pio 0 290], fun a => q67 a.1, fun a r => ⟨[(true, wr7 r.1)], [some [[.v (.slice a.2.1 (List.map eU8 a.1.b).length a.2.2), .v (.int .i64 r.2)]]]⟩, fun a => [(true, 290, [[.rw a.2.1 a.2.2 (List.map eU8 a.1.b), .v (.int .i64 a.1.p)]])]⟩
def LB7 : IFn := ⟨22, [.inl 4],
 (Rs [Io (.box 210 [some 115, some 130] (.t 0)) 2, Ki 0 4]
 (Rs (sq 6 [La 2 2, Mv 1, Ca 89 [6, 7]] [Mv 8 5])
 (.seq (Rs (sq 9 [La 2 2, Ca 96 [9], Nt 10, Mv 11] (Sf 12 13 [Mv 5, Bk .lss 13 0] [Pk 12 14 15]))
 (Ct 15 (Rs [Ki (-1) 4]
 .ret)
 .skip))
 (Rs (sq 16 [Fa 1 2, Ld 1 16, Mv 5, Ia 2 17 18, Fa 1 19, Ld 1 20] [Mv 21 4])
 .ret)))), lcF []⟩
def LC7 : List (List (Option Nat)) := [[none]]
def iI7 (a0 : an7) (a1 : Str) : Option Int := (gB7 a0 a1).bind fun x2 => (iy7 a0).bind fun x4 => if (!x4) = true then (some ((-1))) else (if (decide (x2 < 0)) = true then (some ((-1))) else ((idx a0.heads x2).bind fun x6 => some (x6.at_)))
def sx7 : Con := ⟨an7 × Str, Int, 213, fun a => [.agg [.ro (List.map (af7 false) a.1.commits), .ro (List.map av7 a.1.heads)], .v (.string a.2)], fun a => iI7 a.1 a.2, fun a r => ⟨[(false, [.v (.int .i64 r)])], []⟩, fun a => []⟩
def LD7 : IFn := ⟨54, [.inr (6, 2), .inl 7],
 (Rs (Io (.box 210 [some 115, some 130] (.t 0)) 3 :: (sq 6 [Io (.alloc 210 [.sl true 115 [], .sl true 130 []]), Ki 0] []))
 (.seq (Rs (sq 10 [La 2 3, Ca 96 [10], Nt 11, Mv 12] (Sf 13 14 [Mv 1, Ca 80 [14], Nt 15] [Pk 13 16 17]))
 (Ct 17 (Rs [Io (.build [.nil, .nil] []) 18, Sv [some 115, some 130] 6 18, Ki 4 7]
 .ret)
 .skip))
 (dP7 (.reg (sq 19 [La 2 3, Ca 150 [19]] [Io (.alloc 210 [.sl true 115 [], .sl true 130 []]) 8, Sv [some 115, some 130] 8 20]))
 (Rs (sq 21 [La 2 3, Mv 2, Ca 89 [21, 22]] [Mv 23 9])
 (.seq (.block 0 (Rs (sq 25 [Mv 9, Bk .lss 25 0] [Mv 26 24])
 (Ct 24 (Rs [La 2 8 27, Sv [some 115, some 130] 6 27, Ki 1 7]
 .ret)
 (Rs (sq 29 [La 2 3, Mv 1, Ca 89 [29, 30], Bk .geq 31 0, Mv 32] (Sf 33 34 [Fa 1 3, Ld 1 34, Ln 35, Bk .eql 36 4] [Pk 33 37 38, Mv 38 28]))
 (Ct 28 (Rs [La 2 8 39, Sv [some 115, some 130] 6 39, Ki 2 7]
 .ret)
 .skip)))))
 (.seq (.drw (sq 40 [Fa 1 8, Ld 1 40, Mv 1, Fa 1 3, Ld 1 43, Mv 9, Ia 2 44 45, Fa 1 46, Ld 1 47, Io (.build [.v (.string ⟨#[]⟩), .v (.int .i64 0)] [(0, 1, .t 42), (1, 1, .t 48)]), Io (.lit 130 [none, none] [.v (.string ⟨#[]⟩), .v (.int .i64 0)] 1 [(0, .t 49)]), Io (.app 130 true (.t 41) (.t 50)), Fa 1 8] [Sv [some 130] 52 51]) [(1, 4), (1, 8), (1, 10)])
 (Rs [La 2 8 53, Sv [some 115, some 130] 6 53, Ki 0 7]
 .ret))))))), lcF []⟩
def LE7 : List (List (Option Nat)) := [[some 115, some 130], [none]]
def nN7 (a0 : an7) (a1 : Str) (a2 : Str) : Option (an7 × Int) := (iy7 a0).bind fun x3 => if (!x3) = true then (some ((⟨[], []⟩ : an7), 4)) else ((ga7 a1).bind fun x5 => if (!x5) = true then (some ((⟨[], []⟩ : an7), 4)) else ((((lR7 a0).bind fun x8 => some (x8.commits, x8.heads) : Option ((List Commit) × (List Head)))).bind fun q7 => (gB7 a0 a2).bind fun x22 => if (decide (x22 < 0)) = true then (some ((⟨q7.1, q7.2⟩ : an7), 1)) else ((gB7 a0 a1).bind fun x24 => if (decide (x24 ≥ 0)) = true then (some ((⟨q7.1, q7.2⟩ : an7), 2)) else (if ((a0.heads.length : Int) == 4) = true then (some ((⟨q7.1, q7.2⟩ : an7), 2)) else ((idx a0.heads x22).bind fun x26 => if aI7 (q7.2 ++ ([(⟨a1, x26.at_⟩ : Head)] : (List Head))).length = true then some ((⟨q7.1, (q7.2 ++ ([(⟨a1, x26.at_⟩ : Head)] : (List Head)))⟩ : an7), 0) else none)))))
def Av7 : Con := ⟨an7 × Str × Str, (an7 × Int), 223, fun a => [.agg [.ro (List.map (af7 false) a.1.commits), .ro (List.map av7 a.1.heads)], .v (.string a.2.1), .v (.string a.2.2)], fun a => nN7 a.1 a.2.1 a.2.2, fun a r => ⟨[(true, hI7 true r.1), (false, [.v (.int .i64 r.2)])], []⟩, fun a => []⟩
def LF7 : IFn := ⟨14, [.inr (2, 2), .inl 3],
 (Rs (sq 2 [Io (.alloc 210 [.sl true 115 [], .sl true 130 []]), Io (.mv (.c (.string ⟨#[]⟩)))] [])
 (Rs (sq 6 [Mv 0, Ca 316 [6]] [Mv 7 4])
 (Rs (sq 8 [Mv 4, Io (.call 317 [(true, .t 8)])] [Io (.alloc 210 [.sl true 115 [], .sl true 130 []]) 5, Sv [some 115, some 130] 5 9])
 (.seq (.drw (sq 10 [La 2 5, Mv 4, Io (.lit 49 [none] [.v (.string ⟨#[]⟩)] 4 [(0, .c (.string ⟨#[109, 97, 105, 110]⟩)), (1, .c (.string ⟨#[97, 110, 110]⟩)), (2, .c (.string ⟨#[98, 111, 98]⟩)), (3, .c (.string ⟨#[99, 97, 116]⟩))]), Io (.call 326 [(true, .t 11), (false, .w 12)])] [Sv [some 115, some 130] 2 10, Mv 13 3]) [(0, 2), (0, 3)])
 .ret)))), lcF []⟩
def LG7 : List (List (Option Nat)) := [[some 115, some 130], [none]]
def q77 (a0 : (List UInt8)) : Option (an7 × Str) := (qQ7 a0).bind fun x2 => (q67 x2).bind fun x5 => (gc7 (⟨x2.b, x5.2⟩ : Rd) ([(⟨#[109, 97, 105, 110]⟩ : Str), (⟨#[97, 110, 110]⟩ : Str), (⟨#[98, 111, 98]⟩ : Str), (⟨#[99, 97, 116]⟩ : Str)] : (List Str))).bind fun x13 => some (x5.1, x13.1)
def Aw7 : Con := ⟨(List UInt8) × Option Addr × Nat, (an7 × Str), 231, fun a => [.raw a.2.1 a.2.2 (List.map eU8 a.1)], fun a => q77 a.1, fun a r => ⟨[(true, wr7 r.1), (false, [.v (.string r.2)])], []⟩, fun a => []⟩
def LH7 : IFn := ⟨22, [.inl 4],
 (Rs [Io (.box 210 [some 115, some 130] (.t 0)) 2, Ki 0 4]
 (Rs (sq 6 [La 2 2, Mv 1, Ca 28 [6, 7]] [Mv 8 5])
 (.seq (Rs (sq 9 [La 2 2, Ca 33 [9], Nt 10, Mv 11] (Sf 12 13 [Mv 5, Bk .lss 13 0] [Pk 12 14 15]))
 (Ct 15 (Rs [Ki (-1) 4]
 .ret)
 .skip))
 (Rs (sq 16 [Fa 1 2, Ld 1 16, Mv 5, Ia 2 17 18, Fa 1 19, Ld 1 20] [Mv 21 4])
 .ret)))), lcF []⟩
def LI7 : List (List (Option Nat)) := [[none]]
def hq7 (a0 : an7) (a1 : Str) : Option Int := (gA7 a0 a1).bind fun x2 => (j57 a0).bind fun x4 => if (!x4) = true then (some ((-1))) else (if (decide (x2 < 0)) = true then (some ((-1))) else ((idx a0.heads x2).bind fun x6 => some (x6.at_)))
def oC7 : Con := ⟨an7 × Str, Int, 232, fun a => [.agg [.ro (List.map (af7 false) a.1.commits), .ro (List.map av7 a.1.heads)], .v (.string a.2)], fun a => hq7 a.1 a.2, fun a r => ⟨[(false, [.v (.int .i64 r)])], []⟩, fun a => []⟩
def LJ7 : IFn := ⟨20, [.inl 4],
 (Rs [Ki 0 4]
 (Rs (sq 7 [Mv 0, Ca 101 [7]] [Mv 8 5])
 (Rs (sq 9 [Mv 1, Ca 101 [9]] [Mv 10 6])
 (.seq (Rs [Mv 5 11]
 (Ct 11 (.seq (Rs [Mv 6 12]
 (Ct 12 (Rs [Ki 0 4]
 .ret)
 .skip))
 (Rs [Ki (-1) 4]
 .ret))
 .skip))
 (.seq (Rs [Mv 6 13]
 (Ct 13 (Rs [Ki 1 4]
 .ret)
 .skip))
 (.seq (Rs (sq 14 [Mv 0, Mv 1, Bb .lss 14 15] [])
 (Ct 16 (Rs [Ki (-1) 4]
 .ret)
 .skip))
 (.seq (Rs (sq 17 [Mv 0, Mv 1, Bb .gtr 17 18] [])
 (Ct 19 (Rs [Ki 1 4]
 .ret)
 .skip))
 (Rs [Ki 0 4]
 .ret)))))))), lcF []⟩
def LK7 : List (List (Option Nat)) := [[none]]
def xQ7 (a0 : Str) (a1 : Str) : Option Int := (tU7 a0).bind fun x1 => (tU7 a1).bind fun x3 => if x1 = true then (if x3 = true then (some (0)) else (some ((-1)))) else (if x3 = true then (some (1)) else (if (slt a0 a1) = true then (some ((-1))) else (if (!(slt a0 a1 || seq a0 a1)) = true then (some (1)) else (some (0)))))
def EJ7 : Con := ⟨Str × Str, Int, 360, fun a => [.v (.string a.1), .v (.string a.2)], fun a => xQ7 a.1 a.2, fun a r => ⟨[(false, [.v (.int .i64 r)])], []⟩, fun a => []⟩
def LL7 : IFn := ⟨10, [.inl 4],
 (Rs (sq 2 [Io (.box 100 [none, none, some 66, some 82] (.t 0)), Io (.box 100 [none, none, some 66, some 82] (.t 1)), Ki 0] [])
 (Rs (sq 5 [Fa 0 2, Ld 1 5, Fa 0 3, Ld 1 7, Ca 360 [6, 8]] [Mv 9 4])
 .ret)), lcF []⟩
def LM7 : List (List (Option Nat)) := [[none]]
def BU7 (a0 : Feat) (a1 : Feat) : Option Int := (xQ7 a0.id a1.id).bind fun x3 => some (x3)
def LN7 : Con := ⟨Feat × Feat, Int, 333, fun a => [.agg [.v (.string a.1.id), .v (.int .i64 a.1.shape.kind), .ro (List.map ePt a.1.shape.pts), .ro (List.map bc7 a.1.tags)], .agg [.v (.string a.2.id), .v (.int .i64 a.2.shape.kind), .ro (List.map ePt a.2.shape.pts), .ro (List.map bc7 a.2.tags)]], fun a => BU7 a.1 a.2, fun a r => ⟨[(false, [.v (.int .i64 r)])], []⟩, fun a => []⟩
def xR7 (a0 : List Feat) : Option (List Feat) := p47 a0
def EK7 : Con := sb7 332 333
theorem NB7 {a0 r : List Feat} (h : xR7 a0 = some r) : r.length = a0.length := wS7 h
def LO7 : IFn := ⟨43, [.inl 4, .inl 5],
 (Rs (sq 3 [Io (.box 100 [none, none, some 66, some 82] (.t 1)), Io (.mv (.c (.slice none 0 0))), Kb false] [])
 (.seq (Rs (sq 8 [Mv 0, Ca 86 [8], Nt 9, Mv 10] (Sf 11 12 [La 4 3, Ca 82 [12], Nt 13] [Pk 11 14 15]))
 (Ct 15 (Rs (Io (.lit 100 [none, none, some 66, some 82] [.v (.string ⟨#[]⟩), .v (.int .i64 0), .sl true 66 [], .sl true 82 []] 0 []) 16 :: (sq 4 [Mv 16, Kb false] []))
 .ret)
 .skip))
 (Rs (sq 17 [Mv 0, Io (.pfz 16 (.call 93 [(false, .t 17)]))] [Mv 18 6])
 (.seq (Rs (sq 19 [Mv 6, Fa 0 3, Ld 1 20, Ca 125 [19, 21]] [Mv 22 7])
 (Rs (sq 23 [Mv 7, Bk .geq 23 0] [])
 (Ct 24 (Rs (sq 25 [Mv 6, Mv 7, La 4 3, Io (.frz (.call 92 [(false, .t 27)])), Ia 4 25 26] [Sv [none, none, some 66, some 82] 29 28])
 (Rs (Mv 6 30 :: (sq 4 [Mv 30, Kb true] []))
 .ret))
 .skip)))
 (.seq (Rs (sq 31 [Mv 6, Ln 31, Bk .eql 32 8] [])
 (Ct 33 (Rs (Io (.lit 100 [none, none, some 66, some 82] [.v (.string ⟨#[]⟩), .v (.int .i64 0), .sl true 66 [], .sl true 82 []] 0 []) 34 :: (sq 4 [Mv 34, Kb false] []))
 .ret)
 .skip))
 (Rs (sq 35 [Mv 6, Io (.frz (.load 4 true (.t 3))), Io (.lit 100 [none, none, some 66, some 82] [.v (.string ⟨#[]⟩), .v (.int .i64 0), .sl true 66 [], .sl true 82 []] 1 [(0, .t 36)]), Io (.app 100 true (.t 35) (.t 37))] [Mv 38 6])
 (Rs (sq 39 [Mv 6, Io (.call 332 [(true, .t 39), (false, .f 333)])] [])
 (Rs (sq 41 [Mv 6, Io (.pfz 16 (.call 93 [(false, .t 41)]))] (sq 4 [Mv 42, Kb true] []))
 .ret)))))))), lcF []⟩
def LP7 : List (List (Option Nat)) := [[some 100], [none]]
def nO7 (a0 : (List Feat)) (a1 : Feat) : Option ((List Feat) × Bool) := (gb7 a0).bind fun x2 => if (!x2) = true then (some (([] : (List Feat)), false)) else ((hl7 a1).bind fun x4 => if (!x4) = true then (some (([] : (List Feat)), false)) else ((lO7 a0).bind fun x8 => (kb7 x8 a1.id).bind fun x12 => if (decide (x12 ≥ 0)) = true then ((ho7 a1).bind fun x14 => (idx x8 x12).bind fun x20 => some ((List.set x8 x12.toNat x14), true)) else (if ((x8.length : Int) == 8) = true then (some (([] : (List Feat)), false)) else (if aI7 (x8 ++ ([a1] : (List Feat))).length = true then (xR7 (x8 ++ ([a1] : (List Feat)))).bind fun x27 => (lO7 x27).bind fun x29 => some (x29, true) else none))))
def xS7 : Con := ⟨(List Feat) × Feat, ((List Feat) × Bool), 233, fun a => [.ro (List.map (ag7 false) a.1), .agg [.v (.string a.2.id), .v (.int .i64 a.2.shape.kind), .ro (List.map ePt a.2.shape.pts), .ro (List.map bc7 a.2.tags)]], fun a => nO7 a.1 a.2, fun a r => ⟨[(false, [sl true 100 (List.map (ag7 false) r.1)]), (false, [.v (.bool r.2)])], []⟩, fun a => []⟩
def LQ7 : IFn := ⟨60, [.inr (8, 2), .inl 9],
 (Rs (Io (.box 210 [some 115, some 130] (.t 0)) 4 :: (sq 8 [Io (.alloc 210 [.sl true 115 [], .sl true 130 []]), Ki 0] []))
 (.seq (Rs (sq 13 [La 2 4, Ca 96 [13], Nt 14, Mv 15] (Sf 16 17 [Mv 2, Ca 86 [17], Nt 18] (sq 20 [Pk 16 19, Mv 20] (Sf 21 22 [Mv 3, Ca 80 [22], Nt 23] [Pk 21 24 25]))))
 (Ct 25 (Rs [Io (.build [.nil, .nil] []) 26, Sv [some 115, some 130] 8 26, Ki 4 9]
 .ret)
 .skip))
 (dP7 (.reg (sq 27 [La 2 4, Ca 150 [27]] [Io (.alloc 210 [.sl true 115 [], .sl true 130 []]) 10, Sv [some 115, some 130] 10 28]))
 (Rs (sq 29 [La 2 4, Mv 1, Ca 89 [29, 30]] [Mv 31 11])
 (.seq (Rs (sq 32 [Mv 11, Bk .lss 32 0] [])
 (Ct 33 (Rs [La 2 10 34, Sv [some 115, some 130] 8 34, Ki 1 9]
 .ret)
 .skip))
 (Rs (sq 35 [Fa 1 4, Ld 1 35, Mv 11, Ia 2 36 37, Fa 1 38, Ld 1 39] [Mv 40 12])
 (.seq (Rs (sq 41 [Fa 0 4, Ld 1 41, Mv 12, Ia 3 42 43, Fa 1 44, Ld 1 45, Mv 2, Ca 220 [46, 47]] [])
 (Ct 48 (Rs [La 2 10 49, Sv [some 115, some 130] 8 49, Ki 3 9]
 .ret)
 .skip))
 (.seq (Rs (sq 50 [Mv 11, Mv 12, Io (.lit 17 [none] [.v (.int .i64 0)] 1 [(0, .t 51)]), Mv 2, Mv 3, Io (.build [.nil, .nil, .v (.string ⟨#[]⟩)] [(0, 1, .t 52), (1, 1, .t 53), (2, 1, .t 54)]), Io (.call 152 [(true, .t 10), (false, .t 50), (false, .t 55)]), Nt 56] [])
 (Ct 57 (Rs [La 2 10 58, Sv [some 115, some 130] 8 58, Ki 2 9]
 .ret)
 .skip))
 (Rs [La 2 10 59, Sv [some 115, some 130] 8 59, Ki 0 9]
 .ret))))))))), lcF []⟩
def LR7 : List (List (Option Nat)) := [[some 115, some 130], [none]]
def kd7 (a0 : an7) (a1 : Str) (a2 : (List Feat)) (a3 : Str) : Option (an7 × Int) := (iy7 a0).bind fun x3 => if (!x3) = true then (some ((⟨[], []⟩ : an7), 4)) else ((gb7 a2).bind fun x5 => if (!x5) = true then (some ((⟨[], []⟩ : an7), 4)) else ((ga7 a3).bind fun x7 => if (!x7) = true then (some ((⟨[], []⟩ : an7), 4)) else ((((lR7 a0).bind fun x10 => some (x10.commits, x10.heads) : Option ((List Commit) × (List Head)))).bind fun q9 => (gB7 a0 a1).bind fun x24 => if (decide (x24 < 0)) = true then (some ((⟨q9.1, q9.2⟩ : an7), 1)) else ((idx a0.heads x24).bind fun x26 => (idx a0.commits x26.at_).bind fun x28 => (nC7 x28.sheet a2).bind fun x30 => if x30 = true then (some ((⟨q9.1, q9.2⟩ : an7), 3)) else ((kc7 (⟨q9.1, q9.2⟩ : an7) x24 (⟨[x26.at_], a2, a3⟩ : Commit)).bind fun x33 => if (!x33.1) = true then (some (x33.2, 2)) else (some (x33.2, 0)))))))
def xT7 : Con := ⟨an7 × Str × (List Feat) × Str, (an7 × Int), 234, fun a => [.agg [.ro (List.map (af7 false) a.1.commits), .ro (List.map av7 a.1.heads)], .v (.string a.2.1), .ro (List.map (ag7 false) a.2.2.1), .v (.string a.2.2.2)], fun a => kd7 a.1 a.2.1 a.2.2.1 a.2.2.2, fun a r => ⟨[(true, hI7 true r.1), (false, [.v (.int .i64 r.2)])], []⟩, fun a => []⟩
def LS7 : IFn := ⟨23, [.inr (4, 4), .inl 5],
 (Rs (sq 4 [Io (.alloc 100 [.v (.string ⟨#[]⟩), .v (.int .i64 0), .sl true 66 [], .sl true 82 []]), Kb false] [])
 (Rs (sq 7 [Mv 0, Mv 1, Ca 125 [7, 8]] [Mv 9 6])
 (.seq (Rs (sq 10 [Mv 0, Ca 86 [10], Nt 11, Mv 12] (Sf 13 14 [Mv 6, Bk .lss 14 0] [Pk 13 15 16]))
 (Ct 16 (Rs [Io (.build [.v (.string ⟨#[]⟩), .v (.int .i64 0), .nil, .nil] []) 17, Sv [none, none, some 66, some 82] 4 17, Kb false 5]
 .ret)
 .skip))
 (Rs (sq 18 [Mv 0, Mv 6, Ia 4 18 19, La 4 20, Ca 92 [21]] [Sv [none, none, some 66, some 82] 4 22, Kb true 5])
 .ret)))), lcF []⟩
def LT7 : List (List (Option Nat)) := [[none, none, some 66, some 82], [none]]
def ke7 (a0 : (List Feat)) (a1 : Str) : Option (Feat × Bool) := (kb7 a0 a1).bind fun x2 => (gb7 a0).bind fun x4 => if (!x4) = true then (some ((⟨(⟨#[]⟩ : Str), ⟨0, []⟩, []⟩ : Feat), false)) else (if (decide (x2 < 0)) = true then (some ((⟨(⟨#[]⟩ : Str), ⟨0, []⟩, []⟩ : Feat), false)) else ((idx a0 x2).bind fun x6 => (ho7 x6).bind fun x8 => some (x8, true)))
def xU7 : Con := ⟨(List Feat) × Str, (Feat × Bool), 235, fun a => [.ro (List.map (ag7 false) a.1), .v (.string a.2)], fun a => ke7 a.1 a.2, fun a r => ⟨[(true, ag7 true r.1), (false, [.v (.bool r.2)])], []⟩, fun a => []⟩
def LU7 : IFn := ⟨203, [.inl 2],
 (Rs [Kb false 2]
 (.seq (Rs (sq 27 [Mv 0, Ln 27, Bk .gtr 28 1048576] [])
 (Ct 29 (Rs [Kb true 2]
 .ret)
 .skip))
 (Rs (sq 31 [Mv 0, Io (.frz (.call 231 [(false, .t 31)]))] (Mv 32 30 :: (sq 33 [Xt 30 0, Xt 30 1] [Io (.alloc 210 [.sl true 115 [], .sl true 130 []]) 3, Sv [some 115, some 130] 3 33, Mv 34 4])))
 (Rs (sq 35 [La 2 3, Mv 4, Cw 213 [35, 36]] [Mv 37 5])
 (.seq (Rs (sq 38 [Mv 5, La 2 3, Mv 4, Cw 232 [39, 40], Bb .neq 38 41, Mv 42] (Sf 43 44 [Mv 5, Bk .lss 44 0] (sq 46 [Pk 43 45, Mv 46] (Sf 47 48 [Fa 0 3, Ld 1 48, Ln 49, Bk .gtr 50 11] (sq 52 [Pk 47 51, Mv 52] (Sf 53 54 [Fa 1 3, Ld 1 54, Ln 55, Bk .geq 56 4] (sq 58 [Pk 53 57, Mv 58] (Sf 59 60 [Fa 0 3, Ld 1 60, Mv 5, Io (.iaddr 3 (.w 61) (.t 62)), Fa 1 63, Ld 1 64, Ln 65, Bk .gtr 66 6] [Pk 59 67 68]))))))))
 (Ct 68 (Rs (sq 69 [Mv 5, La 2 3, Mv 4, Cw 232 [70, 71], Bb .eql 69 72] [Mv 73 2])
 .ret)
 .skip))
 (dP7 (.reg (sq 74 [Io (.build [.v (.int .i64 0), .v (.int .i64 0)] [(0, 1, .c (.int .i64 1))]), Io (.lit 66 [none, none] [.v (.int .i64 0), .v (.int .i64 0)] 1 [(0, .t 74)]), Io (.build [.v (.int .i64 0), .nil] [(0, 1, .c (.int .i64 1)), (1, 1, .t 75)]), Io (.build [.v (.string ⟨#[]⟩), .v (.int .i64 0), .nil, .nil] [(0, 1, .c (.string ⟨#[121, 121]⟩)), (1, 2, .t 76)])] [Io (.alloc 100 [.v (.string ⟨#[]⟩), .v (.int .i64 0), .sl true 66 [], .sl true 82 []]) 6, Sv [none, none, some 66, some 82] 6 77]))
 (Rs (sq 78 [Io (.build [.v (.int .i64 0), .v (.int .i64 0)] [(0, 1, .c (.int .i64 2))]), Io (.lit 66 [none, none] [.v (.int .i64 0), .v (.int .i64 0)] 1 [(0, .t 78)]), Io (.build [.v (.int .i64 0), .nil] [(0, 1, .c (.int .i64 1)), (1, 1, .t 79)]), Io (.build [.v (.string ⟨#[]⟩), .v (.int .i64 0), .nil, .nil] [(0, 1, .c (.string ⟨#[122, 122]⟩)), (1, 2, .t 80)])] [Io (.alloc 100 [.v (.string ⟨#[]⟩), .v (.int .i64 0), .sl true 66 [], .sl true 82 []]) 7, Sv [none, none, some 66, some 82] 7 81])
 (.seq (.drw (sq 83 [Fa 0 3, Ld 1 83, Mv 5, Io (.iaddr 3 (.w 84) (.t 85)), Fa 1 86, Ld 1 87, Io (.frz (.load 4 true (.t 6))), Io (.frz (.call 233 [(false, .w 88), (false, .w 89)]))] (Mv 90 82 :: (sq 91 [Xt 82 0, Xt 82 1] (sq 8 [Mv 91, Mv 92] [])))) [(1, 6), (5, 6)])
 (.seq (.drw (sq 94 [Fa 0 3, Ld 1 94, Mv 5, Io (.iaddr 3 (.w 95) (.t 96)), Fa 1 97, Ld 1 98, Io (.frz (.load 4 true (.t 7))), Io (.frz (.call 233 [(false, .w 99), (false, .w 100)]))] (Mv 101 93 :: (sq 102 [Xt 93 0, Xt 93 1] (sq 10 [Mv 102, Mv 103] [])))) [(1, 6), (5, 6)])
 (dP7 (.reg (sq 105 [La 2 3, Mv 4, Io (.frz (.call 223 [(false, .w 105), (false, .c (.string ⟨#[102, 111, 114, 107]⟩)), (false, .w 106)]))] (Mv 107 104 :: (sq 108 [Xt 104 0, Xt 104 1] [Io (.alloc 210 [.sl true 115 [], .sl true 130 []]) 12, Sv [some 115, some 130] 12 108, Mv 109 13]))))
 (Rs (sq 111 [La 2 12, Mv 8, Io (.frz (.call 234 [(false, .w 111), (false, .c (.string ⟨#[102, 111, 114, 107]⟩)), (false, .w 112), (false, .c (.string ⟨#[97, 110, 110]⟩))]))] (Mv 113 110 :: (sq 114 [Xt 110 0, Xt 110 1] [Sv [some 115, some 130] 12 114, Mv 115 14])))
 (Rs (sq 117 [La 2 12, Mv 4, Mv 10, Io (.frz (.call 234 [(false, .w 117), (false, .w 118), (false, .w 119), (false, .c (.string ⟨#[98, 111, 98]⟩))]))] (Mv 120 116 :: (sq 121 [Xt 116 0, Xt 116 1] [Sv [some 115, some 130] 12 121, Mv 122 15])))
 (dP7 (.reg (sq 124 [La 2 12, Mv 4, Io (.frz (.call 182 [(false, .w 124), (false, .w 125), (false, .c (.string ⟨#[102, 111, 114, 107]⟩)), (false, .c (.string ⟨#[106, 111, 105, 110]⟩))]))] (Mv 126 123 :: (sq 127 [Xt 123 0, Xt 123 1, Xt 123 2] (Io (.alloc 210 [.sl true 115 [], .sl true 130 []]) 16 :: (Sv [some 115, some 130] 16 127 :: (sq 17 [Mv 128, Mv 129] [])))))))
 (Rs (sq 131 [La 2 12, Mv 4, Io (.call 181 [(false, .w 131), (false, .w 132), (false, .c (.string ⟨#[102, 111, 114, 107]⟩)), (false, .c (.string ⟨#[106, 111, 105, 110]⟩))])] (Mv 133 130 :: (sq 134 [Xt 130 0, Xt 130 1, Xt 130 2] (Io (.alloc 210 [.sl true 115 [], .sl true 130 []]) 19 :: (Sv [some 115, some 130] 19 134 :: (sq 20 [Mv 135, Mv 136] []))))))
 (.seq (.seq (.drw (sq 137 [Mv 13, Mv 14, Bb .add 137 138, Mv 15, Bb .add 139 140, Bk .neq 141 0, Mv 142] (Sf 143 144 [Mv 18, Mv 21, Bb .neq 144 145] (sq 147 [Pk 143 146, Mv 147] (Sf 148 149 [Mv 18, Bk .neq 149 0] (sq 151 [Pk 148 150, Mv 151] (Sf 152 153 [Mv 17, Ln 153, Bk .gtr 154 0] (sq 156 [Pk 152 155, Mv 156] (Sf 157 158 [La 2 12, La 2 12, Mv 4, Cw 213 [159, 160], La 2 12, Io (.call 213 [(false, .w 162), (false, .c (.string ⟨#[102, 111, 114, 107]⟩))]), Cw 148 [158, 161, 163], Mv 5, Bb .neq 164 165] [Pk 157 166 167])))))))) [(21, 22), (21, 24), (21, 25), (22, 25), (24, 25), (21, 26)])
 (Ct 167 (Rs [Kb false 2]
 .ret)
 .skip))
 (.seq (.drw (sq 168 [Fa 0 16, Ld 1 168, La 2 16, Mv 4, Cw 213 [170, 171], Io (.iaddr 3 (.w 169) (.t 172)), Fa 1 173, Ld 1 174] [Mv 175 22]) [(1, 2), (1, 4)])
 (dP7 (.reg (sq 177 [Mv 22, Io (.call 235 [(false, .w 177), (false, .c (.string ⟨#[121, 121]⟩))])] (Mv 178 176 :: (sq 179 [Xt 176 0, Xt 176 1] [Io (.alloc 100 [.v (.string ⟨#[]⟩), .v (.int .i64 0), .sl true 66 [], .sl true 82 []]) 23, Sv [none, none, some 66, some 82] 23 179, Mv 180 24]))))
 (Rs (sq 182 [Mv 22, Io (.call 235 [(false, .w 182), (false, .c (.string ⟨#[122, 122]⟩))])] (Mv 183 181 :: (sq 184 [Xt 181 0, Xt 181 1] [Io (.alloc 100 [.v (.string ⟨#[]⟩), .v (.int .i64 0), .sl true 66 [], .sl true 82 []]) 25, Sv [none, none, some 66, some 82] 25 184, Mv 185 26])))
 (Rs (sq 186 [Mv 24, Mv 186] (Gt 187 (Mv 26 188) :: (sq 189 [Pf 187 188, Mv 189] (Sg 190 191 [Mv 22, Ln 191, Fa 0 3, Ld 1 193, Mv 5, Io (.iaddr 3 (.w 194) (.t 195)), Fa 1 196, Ld 1 197, Ln 198, Bk .add 199 2, Bb .eql 192 200] [Pf 190 201 202, Mv 202 2]))))
 .ret))))))))))))))))))), lcF []⟩
def LV7 : List (List (Option Nat)) := [[none]]
def t07 (a0 : (List UInt8)) : Option Bool := if (decide ((a0.length : Int) > 1048576)) = true then (some (true)) else ((q77 a0).bind fun x1 => (iI7 x1.1 x1.2).bind fun x8 => (hq7 x1.1 x1.2).bind fun x10 => if (x8 != x10) = true then ((hq7 x1.1 x1.2).bind fun x14 => some ((x8 == x14))) else (if (decide (x8 < 0)) = true then ((hq7 x1.1 x1.2).bind fun x16 => some ((x8 == x16))) else (if (decide ((x1.1.commits.length : Int) > 11)) = true then ((hq7 x1.1 x1.2).bind fun x18 => some ((x8 == x18))) else (if (decide ((x1.1.heads.length : Int) ≥ 4)) = true then ((hq7 x1.1 x1.2).bind fun x20 => some ((x8 == x20))) else ((idx x1.1.commits x8).bind fun x12 => if (decide ((x12.sheet.length : Int) > 6)) = true then ((hq7 x1.1 x1.2).bind fun x22 => some ((x8 == x22))) else (((some () : Option Unit)).bind fun q24 => (nO7 x12.sheet (⟨(⟨#[121, 121]⟩ : Str), ⟨1, [(⟨1, 0⟩ : Pt)]⟩, []⟩ : Feat)).bind fun x35 => (nO7 x12.sheet (⟨(⟨#[122, 122]⟩ : Str), ⟨1, [(⟨2, 0⟩ : Pt)]⟩, []⟩ : Feat)).bind fun x39 => (((nN7 x1.1 (⟨#[102, 111, 114, 107]⟩ : Str) x1.2).bind fun x44 => some (x44.2, x44.1.commits, x44.1.heads) : Option (Int × (List Commit) × (List Head)))).bind fun q43 => (kd7 (⟨q43.2.1, q43.2.2⟩ : an7) (⟨#[102, 111, 114, 107]⟩ : Str) x35.1 (⟨#[97, 110, 110]⟩ : Str)).bind fun x56 => (kd7 x56.1 x1.2 x39.1 (⟨#[98, 111, 98]⟩ : Str)).bind fun x62 => (((nH7 x62.1 x1.2 (⟨#[102, 111, 114, 107]⟩ : Str) (⟨#[106, 111, 105, 110]⟩ : Str)).bind fun x69 => some (x69.2.1, x69.2.2, x69.1.commits, x69.1.heads) : Option ((List aG7) × Int × (List Commit) × (List Head)))).bind fun q68 => (nG7 x62.1 x1.2 (⟨#[102, 111, 114, 107]⟩ : Str) (⟨#[106, 111, 105, 110]⟩ : Str)).bind fun x85 => if ((IntKind.i64.wrap ((IntKind.i64.wrap (q43.1 + x56.2)) + x62.2)) != 0) = true then (some (false)) else (if (q68.2.1 != x85.2.2) = true then (some (false)) else (if (q68.2.1 != 0) = true then (some (false)) else (if (decide ((q68.1.length : Int) > 0)) = true then (some (false)) else ((iI7 x62.1 x1.2).bind fun x94 => (iI7 x62.1 (⟨#[102, 111, 114, 107]⟩ : Str)).bind fun x96 => (nE7 x62.1 x94 x96).bind fun x98 => if (x98 != x8) = true then (some (false)) else ((iI7 (⟨q68.2.2.1, q68.2.2.2⟩ : an7) x1.2).bind fun x100 => (idx q68.2.2.1 x100).bind fun x102 => (((ke7 x102.sheet (⟨#[121, 121]⟩ : Str)).bind fun x105 => some x105.2 : Option Bool)).bind fun q104 => (ke7 x102.sheet (⟨#[122, 122]⟩ : Str)).bind fun x114 => if q104 = true then (if x114.2 = true then (some (((x102.sheet.length : Int) == (IntKind.i64.wrap ((x12.sheet.length : Int) + 2))))) else (some (false))) else (some (false)))))))))))))
def LW7 : Con := ⟨(List UInt8) × Option Addr × Nat, Bool, 230, fun a => [.raw a.2.1 a.2.2 (List.map eU8 a.1)], fun a => t07 a.1, fun a r => ⟨[(false, [.v (.bool r)])], []⟩, fun a => []⟩
end Go.Proofs.AM
