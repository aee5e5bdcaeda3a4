/- Lemmas of the proof (UPD), on an abstract machine. Conditions: none. -/
import Derived.Test.YtnnfdbdheoajgaaGreatUPC0
set_option linter.unusedVariables false
set_option maxRecDepth 100000
set_option maxHeartbeats 4000000
namespace Go.Proofs.AM
attribute [local irreducible] vwp cX7 bF7 f77 vdo ja7 mN7 jQ7 fj7 mB7 kC7 bI7 fa7 kj7 eY7 jE7 kS7 kR7
def LE7 : IFn := ⟨92, [.inr (4, 2)],
 (Rs (sq 3 [Io (.box 210 [some 115, some 130] (.t 1)), Io (.alloc 210 [.sl true 115 [], .sl true 130 []])] [])
 (Rs (sq 12 [Mv 0, Io (.call 327 [(true, .t 12)])] [Mv 13 5])
 (Rs (sq 14 [La 2 3, Mv 5, Ca 28 [14, 15]] [Mv 16 6])
 (.seq (Rs (sq 17 [Mv 6, Bk .lss 17 0] [])
 (Ct 18 (.seq (.drw (sq 20 [La 2 3, Mv 5, Fa 1 3, Ld 1 22, Mv 0, Fa 1 3, Ld 1 25, Ln 26, Io (.call 321 [(true, .t 24), (false, .t 27)]), Ia 2 23 28, Fa 0 29, Ld 1 30, Ca 224 [20, 21, 31]] (Mv 32 19 :: (sq 33 [Xt 19 0, Xt 19 1] [Io (.alloc 210 [.sl true 115 [], .sl true 130 []]) 7, Sv [some 115, some 130] 7 33, Mv 34 8]))) [(0, 3), (0, 6), (3, 6), (0, 8), (3, 8), (0, 11), (0, 16), (3, 16), (6, 16), (8, 16), (11, 16), (12, 16)])
 (.seq (Rs (sq 35 [Fa 1 7, Ld 1 35, Ln 36, Bk .gtr 37 0] [])
 (Ct 38 (Rs [La 2 7 39, Sv [some 115, some 130] 4 39]
 .ret)
 .skip))
 (Rs [Io (.ldr 2 (.t 3)) 40, Iz (.store [none, none] (.t 4) (.t 40))]
 .ret)))
 .skip))
 (Rs (sq 41 [Fa 1 3, Ld 1 41, Mv 6, Ia 2 42 43, Fa 1 44, Ld 1 45] [Mv 46 9])
 (eL7 (.reg (sq 47 [Mv 9, Io (.lit 17 [none] [.v (.int .i64 0)] 1 [(0, .t 47)]), Mv 0, Fa 0 3, Ld 1 50, Mv 9, Ia 3 51 52, Fa 1 53, Ld 1 54, Io (.call 336 [(true, .t 49), (false, .t 55)]), Mv 0, Io (.call 377 [(true, .t 57)]), Io (.build [.nil, .nil, .v (.string ⟨#[]⟩)] [(0, 1, .t 48), (1, 1, .t 56), (2, 1, .t 58)])] [Io (.alloc 115 [.sl true 17 [], .sl true 100 [], .v (.string ⟨#[]⟩)]) 10, Sv [some 17, some 100, none] 10 59]))
 (.seq (.drw (sq 60 [Fa 1 3, Ld 1 60, Mv 0, Fa 1 3, Ld 1 63, Ln 64, Io (.call 321 [(true, .t 62), (false, .t 65)]), Ia 2 61 66, Fa 1 67, Ld 1 68] [Mv 69 11]) [(1, 4), (1, 6)])
 (eL7 (Rs (sq 70 [Mv 11, Mv 9, Bb .neq 70 71, Mv 72] (Sg 73 74 [Mv 0, Io (.call 321 [(true, .t 74), (false, .c (.int .i64 4))]), Bk .eql 75 0] [Pf 73 76 77]))
 (Ct 77 (.reg (sq 78 [Mv 9, Mv 11, Io (.lit 17 [none] [.v (.int .i64 0)] 2 [(0, .t 78), (1, .t 79)]), Fa 0 10] [Sv [some 17] 81 80]))
 .skip))
 (.seq (Rs (sq 82 [Fa 0 3, Ld 1 82, Ln 83, Bk .geq 84 12] [])
 (Ct 85 (Rs [Io (.ldr 2 (.t 3)) 86, Iz (.store [none, none] (.t 4) (.t 86))]
 .ret)
 .skip))
 (.seq (.drw (sq 87 [La 2 3, Ca 61 [87], Mv 6, La 3 10, Io (.call 60 [(true, .t 88), (false, .t 89), (false, .t 90)])] [Sv [some 115, some 130] 4 91]) [(0, 3), (1, 3)])
 .ret)))))))))), lcF []⟩
def LF7 : List (List (Option Nat)) := [[some 115, some 130]]
def ry7 (a0 : Rd) (a1 : ao7) : Option ((Option ao7) × Int) := (lU7 a0).bind fun x3 => (hg7 a1 x3.1).bind fun x5 => if (decide (x5 < 0)) = true then ((bG7 (⟨a0.b, x3.2⟩ : Rd) (a1.heads.length : Int)).bind fun x7 => (idx a1.heads x7.1).bind fun x9 => (rt7 a1 x3.1 x9.name).bind fun x11 => if (decide ((x11.1.heads.length : Int) > 0)) = true then (some ((some x11.1), x7.2)) else (some ((none : Option ao7), x7.2))) else ((idx a1.heads x5).bind fun x18 => (((idx a1.commits x18.at_).bind fun x22 => (rw7 (⟨a0.b, x3.2⟩ : Rd) x22.sheet).bind fun x24 => (rx7 (⟨a0.b, x24.2⟩ : Rd)).bind fun x26 => some (x26.2, x24.1, x26.1) : Option (Int × (List Feat) × Str))).bind fun q20 => (bG7 (⟨a0.b, q20.1⟩ : Rd) (a1.heads.length : Int)).bind fun x41 => (idx a1.heads x41.1).bind fun x43 => ((if (x43.at_ != x18.at_) = true then ((bG7 (⟨a0.b, x41.2⟩ : Rd) 4).bind fun x49 => if (x49.1 == 0) = true then (some ([x18.at_, x43.at_], x49.2)) else (some ([x18.at_], x49.2))) else (some ([x18.at_], x41.2)) : Option ((List Int) × Int))).bind fun q48 => if (decide ((a1.commits.length : Int) ≥ 12)) = true then (some ((none : Option ao7), q48.2)) else ((lK7 a1).bind fun x63 => (ir7 x63 x5 (⟨q48.1, q20.2.1, q20.2.2⟩ : Commit)).bind fun x69 => some ((some x69), q48.2)))
def ye7 : Con := ⟨Rd × ao7 × Option Addr × Nat × Option Addr × Nat × Option Addr × Nat, ((Option ao7) × Int), 357, fun a => [.pio 0 290, .agg [.raw a.2.2.2.2.1 a.2.2.2.2.2.1 (List.map (af7 false) a.2.1.commits), .raw a.2.2.2.2.2.2.1 a.2.2.2.2.2.2.2 (List.map aw7 a.2.1.heads)]], fun a => ry7 a.1 a.2.1, fun a r => ⟨[(true, match r.1 with | some q => jc7 true q | none => [.v (.slice a.2.2.2.2.1 (List.map (af7 false) a.2.1.commits).length a.2.2.2.2.2.1), .v (.slice a.2.2.2.2.2.2.1 (List.map aw7 a.2.1.heads).length a.2.2.2.2.2.2.2)])], [some [[.v (.slice a.2.2.1 (List.map eU8 a.1.b).length a.2.2.2.1), .v (.int .i64 r.2)]]]⟩, fun a => [(true, 290, [[.rw a.2.2.1 a.2.2.2.1 (List.map eU8 a.1.b), .v (.int .i64 a.1.p)]])]⟩
def LG7 : IFn := ⟨44, [.inr (2, 2)],
 (Rs [Io (.alloc 210 [.sl true 115 [], .sl true 130 []]) 2]
 (Rs (Io (.call 227 [(false, .c (.string ⟨#[109, 97, 105, 110]⟩))]) 7 :: (Mv 7 6 :: (sq 8 [Io (.pfz 1 (.ext (.t 6) 0)), Xt 6 1] [Io (.alloc 210 [.sl true 115 [], .sl true 130 []]) 3, Sv [some 115, some 130] 3 8, Mv 9 4])))
 (.seq (.drw (sq 10 [Fa 0 3, Ld 1 10, Mv 0, Io (.frz (.call 361 [(true, .t 12)])), Ik 3 11 0, Fa 1 14] [Sv [some 100] 15 13]) [(1, 3)])
 (.seq (Rs (sq 16 [Mv 0, Io (.call 321 [(true, .t 16), (false, .c (.int .i64 7))]), Io (.bin .add (.c (.int .i64 2)) (.t 17))] [Mv 18 5])
 (bL7 0 (.loop (.seq (Rs (sq 19 [Mv 5, Bk .gtr 19 0] [])
 (Ct 20 .skip
 (.exit 0)))
 (.seq (.block 1 (.reg (sq 23 [Mv 0, Io (.rawl (.load 2 true (.t 3))), Io (.pfz 1 (.unr [1000384, 1000385] (.call 357 [(true, .t 23), (false, .t 24)])))] [Sv [some 115, some 130] 3 25])))
 (.reg (sq 21 [Mv 5, Bk .sub 21 1] [Mv 22 5])))))))
 (.seq (Rs (sq 26 [Mv 0, Io (.call 321 [(true, .t 26), (false, .c (.int .i64 4))]), Bk .eql 27 0, Mv 28] (Sg 29 30 [Fa 1 3, Ld 1 30, Ln 31, Bk .gtr 32 1] [Pf 29 33 34]))
 (Ct 34 (.reg (sq 35 [Fa 1 3, Ld 1 35, Fa 1 3, Ld 1 37, Ln 38, Bk .sub 39 1, Io (.trn (.sls 2 (.t 36) none (some (.t 40)))), Fa 1 3] [Sv [some 130] 42 41]))
 .skip))
 (Rs [La 2 3 43, Sv [some 115, some 130] 2 43]
 .ret)))))), lcF []⟩
def LH7 : List (List (Option Nat)) := [[some 115, some 130]]
def dH7 (a0 : Rd) : Nat → Int → Int → (List Commit) → (List Head) → Option (Int × (List Commit) × (List Head))
 | 0, _, _, _, _ => none
 | n71 + 1, v57, v58, v64, v67 => if (decide (v57 > 0)) = true then ((ry7 (⟨a0.b, v58⟩ : Rd) (⟨v64, v67⟩ : ao7)).bind fun x72 => match x72 with | (none, p75) => (dH7 a0 n71 (IntKind.i64.wrap (v57 - 1)) p75 v64 v67) | (some y74, p75) => (dH7 a0 n71 (IntKind.i64.wrap (v57 - 1)) p75 y74.commits y74.heads)) else (some (v58, v64, v67))
def rz7 (a0 : Rd) : Option (ao7 × Int) := (rs7 (⟨#[109, 97, 105, 110]⟩ : Str)).bind fun x2 => (n77 a0).bind fun x9 => (idx x2.1.commits 0).bind fun x13 => (bG7 (⟨a0.b, x9.2⟩ : Rd) 7).bind fun x15 => (dH7 a0 aS7 (IntKind.i64.wrap (2 + x15.1)) x15.2 (List.set x2.1.commits (0 : Int).toNat (⟨x13.up, x9.1, x13.note⟩ : Commit)) x2.1.heads).bind fun q56 => (bG7 (⟨a0.b, q56.1⟩ : Rd) 4).bind fun x90 => if (x90.1 == 0) = true then (if (decide ((q56.2.2.length : Int) > 1)) = true then ((slc q56.2.2 0 (IntKind.i64.wrap ((q56.2.2.length : Int) - 1))).bind fun x92 => some ((⟨q56.2.1, x92⟩ : ao7), x90.2)) else (some ((⟨q56.2.1, q56.2.2⟩ : ao7), x90.2))) else (some ((⟨q56.2.1, q56.2.2⟩ : ao7), x90.2))
def AD7 : Con := ⟨Rd × Option Addr × Nat, (ao7 × Int), 355, fun a => [.pio 0 290], fun a => rz7 a.1, fun a r => ⟨[(true, wX7 r.1)], [some [[.v (.slice a.2.1 (List.map eU8 a.1.b).length a.2.2), .v (.int .i64 r.2)]]]⟩, fun a => [(true, 290, [[.rw a.2.1 a.2.2 (List.map eU8 a.1.b), .v (.int .i64 a.1.p)]])]⟩
def LI7 : IFn := ⟨77, [.inr (2, 2)],
 (Rs [Io (.alloc 210 [.sl true 115 [], .sl true 130 []]) 2]
 (Rs (sq 5 [Mv 0, Io (.call 355 [(true, .t 5)])] [Io (.alloc 210 [.sl true 115 [], .sl true 130 []]) 3, Sv [some 115, some 130] 3 6])
 (Rs (sq 7 [Mv 0, Fa 0 3, Ld 1 8, Ln 9, Io (.call 321 [(true, .t 7), (false, .t 10)])] [Mv 11 4])
 (.seq (Rs (sq 12 [Mv 0, Io (.call 321 [(true, .t 12), (false, .c (.int .i64 48))])] [])
 (.block 0 (eL7 (.reg [Bk .eql 13 0 15, Mv 15 14])
 (Ct 14 (.drw (sq 16 [Fa 1 3, Ld 1 16, Mv 0, Fa 0 3, Ld 1 19, Ln 20, Io (.lit 17 [none] [.v (.int .i64 0)] 2 [(0, .c (.int .i64 (-1))), (1, .t 21)]), Io (.call 356 [(true, .t 18), (false, .t 22)]), Ik 2 17 0, Fa 1 24] [Sv [none] 25 23]) [(1, 4), (1, 6), (1, 7)])
 (Rs [Bk .eql 13 1 27, Mv 27 26]
 (Ct 26 (.drw (sq 28 [Fa 0 3, Ld 1 28, Mv 4, Fa 0 3, Ld 1 31, Mv 4, Ia 3 32 33, Fa 0 34, Ld 1 35, Mv 4, Io (.lit 17 [none] [.v (.int .i64 0)] 1 [(0, .t 37)]), Io (.app 17 true (.t 36) (.t 38)), Ia 3 29 30, Fa 0 40] [Sv [some 17] 41 39]) [(1, 4), (1, 8), (1, 10), (4, 10), (8, 10), (1, 11)])
 (Rs [Bk .eql 13 2 43, Mv 43 42]
 (Ct 42 (.drw (sq 44 [Fa 0 3, Ld 1 44, Mv 4, Mv 0, Io (.frz (.call 335 [(true, .t 47)])), Ia 3 45 46, Fa 1 49] [Sv [some 100] 50 48]) [(1, 4)])
 (Rs [Bk .eql 13 3 52, Mv 52 51]
 (Ct 51 (.reg (sq 53 [Fa 0 3, Ld 1 53, Mv 4, Ia 3 54 55, Fa 2 56] [Iz (.store [none] (.t 57) (.c (.string ⟨#[]⟩)))]))
 (Rs [Bk .eql 13 4 59, Mv 59 58]
 (Ct 58 (.drw (sq 60 [Fa 1 3, Ld 1 60, Fa 1 3, Ld 1 62, Ik 2 63 0, La 2 64, Io (.lit 130 [none, none] [.v (.string ⟨#[]⟩), .v (.int .i64 0)] 1 [(0, .t 65)]), Io (.app 130 true (.t 61) (.t 66)), Fa 1 3] [Sv [some 130] 68 67]) [(1, 3), (1, 5), (1, 6)])
 (Rs [Bk .eql 13 5 70, Mv 70 69]
 (Ct 69 (.reg (sq 71 [Fa 0 3, Ld 1 71, Mv 4, Ia 3 72 73, Fa 0 74] [Iz (.store [some 17] (.t 75) (.c (.slice none 0 0)))]))
 .skip))))))))))))))
 (Rs [La 2 3 76, Sv [some 115, some 130] 2 76]
 .ret))))), lcF []⟩
def LJ7 : List (List (Option Nat)) := [[some 115, some 130]]
def rA7 (a0 : Rd) : Option (ao7 × Int) := (rz7 a0).bind fun x2 => (bG7 (⟨a0.b, x2.2⟩ : Rd) (x2.1.commits.length : Int)).bind fun x9 => (bG7 (⟨a0.b, x9.2⟩ : Rd) 48).bind fun x11 => ((some () : Option Unit)).bind fun q13 => if (x11.1 == 0) = true then ((iv7 (⟨a0.b, x11.2⟩ : Rd) ([(-1), (x2.1.commits.length : Int)] : (List Int))).bind fun x25 => (idx x2.1.heads 0).bind fun x27 => some ((⟨x2.1.commits, (List.set x2.1.heads (0 : Int).toNat (⟨x27.name, x25.1⟩ : Head))⟩ : ao7), x25.2)) else (if (x11.1 == 1) = true then ((idx x2.1.commits x9.1).bind fun x29 => if aG7 (x29.up ++ ([x9.1] : (List Int))).length = true then some ((⟨(List.set x2.1.commits x9.1.toNat (⟨(x29.up ++ ([x9.1] : (List Int))), x29.sheet, x29.note⟩ : Commit)), x2.1.heads⟩ : ao7), x11.2) else none) else (if (x11.1 == 2) = true then ((rr7 (⟨a0.b, x11.2⟩ : Rd)).bind fun x37 => (idx x2.1.commits x9.1).bind fun x41 => some ((⟨(List.set x2.1.commits x9.1.toNat (⟨x41.up, x37.1, x41.note⟩ : Commit)), x2.1.heads⟩ : ao7), x37.2)) else (if (x11.1 == 3) = true then ((idx x2.1.commits x9.1).bind fun x43 => some ((⟨(List.set x2.1.commits x9.1.toNat (⟨x43.up, x43.sheet, (⟨#[]⟩ : Str)⟩ : Commit)), x2.1.heads⟩ : ao7), x11.2)) else (if (x11.1 == 4) = true then ((idx x2.1.heads 0).bind fun x45 => if aG7 (x2.1.heads ++ ([x45] : (List Head))).length = true then some ((⟨x2.1.commits, (x2.1.heads ++ ([x45] : (List Head)))⟩ : ao7), x11.2) else none) else (if (x11.1 == 5) = true then ((idx x2.1.commits x9.1).bind fun x51 => some ((⟨(List.set x2.1.commits x9.1.toNat (⟨[], x51.sheet, x51.note⟩ : Commit)), x2.1.heads⟩ : ao7), x11.2)) else (some (x2.1, x11.2)))))))
def ET7 : Con := ⟨Rd × Option Addr × Nat, (ao7 × Int), 317, fun a => [.pio 0 290], fun a => rA7 a.1, fun a r => ⟨[(true, wX7 r.1)], [some [[.v (.slice a.2.1 (List.map eU8 a.1.b).length a.2.2), .v (.int .i64 r.2)]]]⟩, fun a => [(true, 290, [[.rw a.2.1 a.2.2 (List.map eU8 a.1.b), .v (.int .i64 a.1.p)]])]⟩
def LK7 : IFn := ⟨22, [.inl 4],
 (Rs [Io (.box 210 [some 115, some 130] (.t 0)) 2, Ki 0 4]
 (Rs (sq 6 [La 2 2, Mv 1, Ca 89 [6, 7]] [Mv 8 5])
 (.seq (Rs (sq 9 [La 2 2, Ca 96 [9], Nt 10, Mv 11] (Sf 12 13 [Mv 5, Bk .lss 13 0] [Pk 12 14 15]))
 (Ct 15 (Rs [Ki (-1) 4]
 .ret)
 .skip))
 (Rs (sq 16 [Fa 1 2, Ld 1 16, Mv 5, Ia 2 17 18, Fa 1 19, Ld 1 20] [Mv 21 4])
 .ret)))), lcF []⟩
def LL7 : List (List (Option Nat)) := [[none]]
def lV7 (a0 : ao7) (a1 : Str) : Option Int := (j37 a0 a1).bind fun x2 => (j57 a0).bind fun x4 => if (!x4) = true then (some ((-1))) else (if (decide (x2 < 0)) = true then (some ((-1))) else ((idx a0.heads x2).bind fun x6 => some (x6.at_)))
def vJ7 : Con := ⟨ao7 × Str, Int, 213, fun a => [.agg [.ro (List.map (af7 false) a.1.commits), .ro (List.map aw7 a.1.heads)], .v (.string a.2)], fun a => lV7 a.1 a.2, fun a r => ⟨[(false, [.v (.int .i64 r)])], []⟩, fun a => []⟩
def LM7 : IFn := ⟨26, [.inl 4],
 (Rs [Kb false 4]
 (.seq (Rs (sq 6 [Mv 0, Ln 6, Mv 1, Ln 8, Bb .neq 7 9] [])
 (Ct 10 (Rs [Kb false 4]
 .ret)
 .skip))
 (.seq (Rs (sq 11 [Mv 0, Ln 11, Ki 0] [])
 (bL7 0 (.loop (Rs [Bb .lss 13 12 14]
 (.seq (Ct 14 .skip
 (.exit 0))
 (.seq (.block 1 (Rs [Mv 13 15, Mv 15 5]
 (.seq (.drw (sq 16 [Mv 0, Mv 5, Ia 2 16 17, La 2 18, Mv 1, Mv 5, Ia 2 20 21, La 2 22, Io (.eqs true true [2, 0] (.t 19) (.t 23))] []) [(3, 7)])
 (Ct 24 (Rs [Kb false 4]
 .ret)
 .skip))))
 (.reg [Bk .add 13 1 25, Mv 25 13])))))))
 (Rs [Kb true 4]
 .ret)))), lcF []⟩
def LN7 : List (List (Option Nat)) := [[none]]
def fT7 (a1 : (List Head)) : List Head → Nat → Option (Bool ⊕ Unit)
 | [], k16 => some (.inr ())
 | x17 :: l18, k16 => (idx a1 (k16 : Int)).bind fun x25 => if (!((x17.name == x25.name) && ((x17.at_ == x25.at_) && true))) = true then (some (.inl (false))) else (fT7 a1 l18 (k16 + 1) )
def uo7 (a0 : (List Head)) (a1 : (List Head)) : Option Bool := if ((a0.length : Int) != (a1.length : Int)) = true then (some (false)) else (if aG7 a0.length = true then ((fT7 a1 a0 0 ).bind fun q => match q with | .inl r => some r | .inr q14 => some (true)) else none)
def EU7 : Con := ⟨(List Head) × (List Head), Bool, 331, fun a => [.ro (List.map aw7 a.1), .ro (List.map aw7 a.2)], fun a => uo7 a.1 a.2, fun a r => ⟨[(false, [.v (.bool r)])], []⟩, fun a => []⟩
def LO7 : IFn := ⟨32, [.inl 6],
 (Rs [Kb false 6]
 (.seq (Rs (sq 10 [Mv 0, Ln 10, Mv 1, Ln 12, Bb .neq 11 13] [])
 (Ct 14 (Rs [Kb false 6]
 .ret)
 .skip))
 (.seq (Rs (sq 15 [Mv 0, Ln 15, Ki 0] [])
 (bL7 0 (.loop (Rs [Bb .lss 17 16 18]
 (.seq (Ct 18 .skip
 (.exit 0))
 (.seq (.block 1 (Rs (sq 19 [Mv 17, Ia 3 15 17, La 3 20] [Io (.alloc 115 [.sl true 17 [], .sl true 100 [], .v (.string ⟨#[]⟩)]) 8, Mv 19 7, Sv [some 17, some 100, none] 8 21])
 (Rs (sq 22 [Mv 1, Mv 7, Ia 3 22 23, La 3 24] [Io (.alloc 115 [.sl true 17 [], .sl true 100 [], .v (.string ⟨#[]⟩)]) 9, Sv [some 17, some 100, none] 9 25])
 (Rs (sq 26 [Mv 2, La 3 8, La 3 9, Io (.calld (.t 26) [(false, .t 27), (false, .t 28)]), Nt 29] [])
 (Ct 30 (Rs [Kb false 6]
 .ret)
 .skip)))))
 (.reg [Bk .add 17 1 31, Mv 31 17])))))))
 (Rs [Kb true 6]
 .ret)))), lcF []⟩
def LP7 : List (List (Option Nat)) := [[none]]
def fU7 (a1 : (List Commit)) : List Commit → Nat → Option (Bool ⊕ Unit)
 | [], k28 => some (.inr ())
 | x29 :: l30, k28 => (idx a1 (k28 : Int)).bind fun x38 => (nS7 x29 x38).bind fun x41 => if (!x41) = true then (some (.inl (false))) else (fU7 a1 l30 (k28 + 1) )
def up7 (a0 : (List Commit)) (a1 : (List Commit)) : Option Bool := if ((a0.length : Int) != (a1.length : Int)) = true then (some (false)) else (if aG7 a0.length = true then ((fU7 a1 a0 0 ).bind fun q => match q with | .inl r => some r | .inr q26 => some (true)) else none)
def EV7 : Con := ⟨(List Commit) × (List Commit), Bool, 329, fun a => [.ro (List.map (af7 false) a.1), .ro (List.map (af7 false) a.2), .fn 330 []], fun a => up7 a.1 a.2, fun a r => ⟨[(false, [.v (.bool r)])], []⟩, fun a => []⟩
def LQ7 : IFn := ⟨17, [.inl 4],
 (Rs (sq 2 [Io (.box 210 [some 115, some 130] (.t 0)), Io (.box 210 [some 115, some 130] (.t 1)), Kb false] [])
 (Rs (sq 5 [Fa 0 2, Ld 1 5, Fa 0 3, Ld 1 7, Io (.call 329 [(false, .t 6), (false, .t 8), (false, .f 330)]), Mv 9] (Sg 10 11 [Fa 1 2, Ld 1 11, Fa 1 3, Ld 1 13, Ca 331 [12, 14]] [Pf 10 15 16, Mv 16 4]))
 .ret)), lcF []⟩
def LR7 : List (List (Option Nat)) := [[none]]
def rB7 (a0 : ao7) (a1 : ao7) : Option Bool := (up7 a0.commits a1.commits).bind fun x3 => if x3 = true then ((uo7 a0.heads a1.heads).bind fun x5 => some (x5)) else (some (false))
def AE7 : Con := ⟨ao7 × ao7, Bool, 228, fun a => [.agg [.ro (List.map (af7 false) a.1.commits), .ro (List.map aw7 a.1.heads)], .agg [.ro (List.map (af7 false) a.2.commits), .ro (List.map aw7 a.2.heads)]], fun a => rB7 a.1 a.2, fun a r => ⟨[(false, [.v (.bool r)])], []⟩, fun a => []⟩
def LS7 : IFn := ⟨27, [.inl 6],
 (Rs [Io (.box 210 [some 115, some 130] (.t 0)) 3, Kb false 6]
 (Rs (sq 7 [La 2 3, Ca 96 [7], Mv 8] (Sg 9 10 [La 2 3, Mv 1, Ca 90 [10, 11]] (sq 13 [Pf 9 12, Mv 13] (Sg 14 15 [La 2 3, Mv 2, Ca 90 [15, 16]] (sq 18 [Pf 14 17, Mv 18] (Sg 19 20 [La 2 3, Mv 2, Ca 97 [20, 21], Mv 1, Ia 1 22 23, Ld 1 24] [Pf 19 25 26, Mv 26 6]))))))
 .ret)), lcF []⟩
def LT7 : List (List (Option Nat)) := [[none]]
def lW7 (a0 : ao7) (a1 : Int) (a2 : Int) : Option Bool := (j57 a0).bind fun x2 => if x2 = true then ((it7 a0 a1).bind fun x4 => if x4 = true then ((it7 a0 a2).bind fun x6 => if x6 = true then ((hk7 a0 a2).bind fun x8 => (idx x8 a1).bind fun x12 => some (x12)) else (some (false))) else (some (false))) else (some (false))
def vK7 : Con := ⟨ao7 × Int × Int, Bool, 238, fun a => [.agg [.ro (List.map (af7 false) a.1.commits), .ro (List.map aw7 a.1.heads)], .v (.int .i64 a.2.1), .v (.int .i64 a.2.2)], fun a => lW7 a.1 a.2.1 a.2.2, fun a r => ⟨[(false, [.v (.bool r)])], []⟩, fun a => []⟩
def LU7 : IFn := ⟨24, [.inr (2, 2), .inl 3, .inl 4, .inl 5],
 (Rs (sq 2 [Io (.alloc 210 [.sl true 115 [], .sl true 130 []]), Io (.mv (.c (.string ⟨#[]⟩))), Io (.mv (.c (.string ⟨#[]⟩))), Io (.mv (.c (.string ⟨#[]⟩)))] [])
 (Rs (sq 10 [Mv 0, Ca 316 [10]] [Mv 11 6])
 (Rs (sq 12 [Mv 6, Io (.call 317 [(true, .t 12)])] [Io (.alloc 210 [.sl true 115 [], .sl true 130 []]) 7, Sv [some 115, some 130] 7 13])
 (Rs (sq 14 [Mv 6, Io (.call 327 [(true, .t 14)])] [Mv 15 8])
 (Rs (sq 16 [Mv 6, Io (.call 327 [(true, .t 16)])] [Mv 17 9])
 (.seq (.drw (sq 18 [La 2 7, Mv 8, Mv 9, Mv 6, Io (.lit 49 [none] [.v (.string ⟨#[]⟩)] 4 [(0, .c (.string ⟨#[97, 110, 110]⟩)), (1, .c (.string ⟨#[106, 111, 105, 110]⟩)), (2, .c (.string ⟨#[]⟩)), (3, .c (.string ⟨#[98, 111, 98]⟩))]), Io (.call 326 [(true, .t 21), (false, .w 22)])] (Sv [some 115, some 130] 2 18 :: (sq 3 [Mv 19, Mv 20, Mv 23] []))) [(0, 4), (0, 5)])
 .ret)))))), lcF []⟩
def LV7 : List (List (Option Nat)) := [[some 115, some 130], [none], [none], [none]]
def rC7 (a0 : (List UInt8)) : Option (ao7 × Str × Str × Str) := (rm7 a0).bind fun x2 => (rA7 x2).bind fun x5 => (lU7 (⟨x2.b, x5.2⟩ : Rd)).bind fun x12 => (lU7 (⟨x2.b, x12.2⟩ : Rd)).bind fun x14 => (gc7 (⟨x2.b, x14.2⟩ : Rd) ([(⟨#[97, 110, 110]⟩ : Str), (⟨#[106, 111, 105, 110]⟩ : Str), (⟨#[]⟩ : Str), (⟨#[98, 111, 98]⟩ : Str)] : (List Str))).bind fun x17 => some (x5.1, x12.1, x14.1, x17.1)
def AF7 : Con := ⟨(List UInt8) × Option Addr × Nat, (ao7 × Str × Str × Str), 303, fun a => [.raw a.2.1 a.2.2 (List.map eU8 a.1)], fun a => rC7 a.1, fun a r => ⟨[(true, wX7 r.1), (false, [.v (.string r.2.1)]), (false, [.v (.string r.2.2.1)]), (false, [.v (.string r.2.2.2)])], []⟩, fun a => []⟩
def LW7 : IFn := ⟨148, [.inl 2],
 (Rs [Kb false 2]
 (.seq (Rs (sq 18 [Mv 0, Ln 18, Bk .gtr 19 1048576] [])
 (Ct 20 (Rs [Kb true 2]
 .ret)
 .skip))
 (Rs (sq 22 [Mv 0, Io (.frz (.call 303 [(false, .t 22)]))] (Mv 23 21 :: (sq 24 [Xt 21 0, Xt 21 1, Xt 21 2, Xt 21 3] (Io (.alloc 210 [.sl true 115 [], .sl true 130 []]) 3 :: (Sv [some 115, some 130] 3 24 :: (sq 4 [Mv 25, Mv 26, Mv 27] []))))))
 (eL7 (.reg (sq 29 [La 2 3, Mv 4, Mv 5, Mv 6, Io (.frz (.call 182 [(false, .w 29), (false, .w 30), (false, .w 31), (false, .w 32)]))] (Mv 33 28 :: (sq 34 [Xt 28 0, Xt 28 1, Xt 28 2] (Io (.alloc 210 [.sl true 115 [], .sl true 130 []]) 7 :: (Sv [some 115, some 130] 7 34 :: (sq 8 [Mv 35, Mv 36] [])))))))
 (Rs (sq 38 [La 2 3, Mv 4, Mv 5, Mv 6, Cw 181 [38, 39, 40, 41]] (Mv 42 37 :: (sq 43 [Xt 37 0, Xt 37 1, Xt 37 2] (Io (.alloc 210 [.sl true 115 [], .sl true 130 []]) 10 :: (Sv [some 115, some 130] 10 43 :: (sq 11 [Mv 44, Mv 45] []))))))
 (.seq (Rs (sq 46 [Mv 9, Mv 12, Bb .neq 46 47, Mv 48] (Sf 49 50 [Mv 9, Bk .neq 50 0] [Pk 49 51 52]))
 (Ct 52 (Rs (sq 53 [Mv 9, Mv 12, Bb .eql 53 54] [Mv 55 2])
 .ret)
 .skip))
 (Rs (sq 56 [La 2 3, Mv 4, Cw 213 [56, 57]] [Mv 58 13])
 (Rs (sq 59 [La 2 3, Mv 5, Cw 213 [59, 60]] [Mv 61 14])
 (Rs (sq 62 [La 2 7, Mv 4, Cw 213 [62, 63]] [Mv 64 15])
 (.seq (Rs [Ki 0 16]
 (bL7 0 (.loop (.seq (Rs (sq 65 [Mv 16, Fa 0 3, Ld 1 66, Ln 67, Bb .lss 65 68] [])
 (Ct 69 .skip
 (.exit 0)))
 (.seq (.block 1 (.seq (.drw (sq 72 [Mv 16, Mv 15, Bb .neq 72 73, Mv 74] (Sg 75 76 [La 2 7, Mv 16, Mv 15, Cw 238 [76, 77, 78], La 2 3, Mv 16, Mv 13, Cw 238 [80, 81, 82], Mv 83] (Sf 84 85 [La 2 3, Mv 16, Mv 14, Cw 238 [85, 86, 87]] (Sg 75 89 [Pk 84 88, Io (.eqs true false [1] (.t 79) (.t 89))] [Pf 75 90 91])))) [(4, 8), (7, 8)])
 (Ct 91 (Rs [Kb false 2]
 .ret)
 .skip)))
 (.reg (sq 70 [Mv 16, Bk .add 70 1] [Mv 71 16])))))))
 (.seq (.drw (sq 92 [Fa 0 7, Ld 1 92, Fa 0 3, Ld 1 94, Ln 95, Io (.sls 3 (.t 93) none (some (.t 96))), Fa 1 3, Ld 1 98, Io (.build [.nil, .nil] [(0, 1, .t 97), (1, 1, .t 99)])] [Io (.alloc 210 [.sl true 115 [], .sl true 130 []]) 17, Sv [some 115, some 130] 17 100]) [(1, 3), (1, 7), (3, 7), (1, 9), (3, 9), (7, 9)])
 (Rs (sq 101 [La 2 17, La 2 3, Cw 228 [101, 102], Mv 103] (Sg 104 105 [Fa 0 7, Ld 1 105, Mv 15, Io (.iaddr 3 (.w 106) (.t 107)), Fa 2 108, Ld 1 109, Mv 6, Bb .eql 110 111] (sq 113 [Pf 104 112, Mv 113] (Sg 114 115 [Fa 0 7, Ld 1 115, Mv 15, Io (.iaddr 3 (.w 116) (.t 117)), Fa 0 118, Ld 1 119, Ln 120, Bk .eql 121 2] (sq 123 [Pf 114 122, Mv 123] (Sg 124 125 [Fa 0 7, Ld 1 125, Mv 15, Io (.iaddr 3 (.w 126) (.t 127)), Fa 0 128, Ld 1 129, Io (.iaddr 1 (.w 130) (.c (.int .i64 0))), Ld 1 131, Mv 13, Bb .eql 132 133] (sq 135 [Pf 124 134, Mv 135] (Sg 136 137 [Fa 0 7, Ld 1 137, Mv 15, Io (.iaddr 3 (.w 138) (.t 139)), Fa 0 140, Ld 1 141, Io (.iaddr 1 (.w 142) (.c (.int .i64 1))), Ld 1 143, Mv 14, Bb .eql 144 145] [Pf 136 146 147, Mv 147 2]))))))))
 .ret)))))))))))), lcF []⟩
def LX7 : List (List (Option Nat)) := [[none]]
def dI7 (x36 : Int) (q8 : (Int × (List Commit) × (List Head))) (x1 : (ao7 × Str × Str × Str)) (x32 : Int) (x34 : Int) : List Commit → Nat → Option (Bool ⊕ Unit)
 | [], k65 => some (.inr ())
 | x66 :: l67, k65 => if ((k65 : Int) != x36) = true then ((lW7 (⟨q8.2.1, q8.2.2⟩ : ao7) (k65 : Int) x36).bind fun x74 => (lW7 x1.1 (k65 : Int) x32).bind fun x76 => if x76 = true then (if (!(x74 == true)) = true then (some (.inl (false))) else (dI7 x36 q8 x1 x32 x34 l67 (k65 + 1) )) else ((lW7 x1.1 (k65 : Int) x34).bind fun x78 => if (!(x74 == x78)) = true then (some (.inl (false))) else (dI7 x36 q8 x1 x32 x34 l67 (k65 + 1) ))) else (dI7 x36 q8 x1 x32 x34 l67 (k65 + 1) )
def uq7 (a0 : (List UInt8)) : Option Bool := if (decide ((a0.length : Int) > 1048576)) = true then (some (true)) else ((rC7 a0).bind fun x1 => (((n17 x1.1 x1.2.1 x1.2.2.1 x1.2.2.2).bind fun x9 => some (x9.2.2, x9.1.commits, x9.1.heads) : Option (Int × (List Commit) × (List Head)))).bind fun q8 => (n07 x1.1 x1.2.1 x1.2.2.1 x1.2.2.2).bind fun x23 => if (q8.1 != x23.2.2) = true then (some ((q8.1 == x23.2.2))) else (if (q8.1 != 0) = true then (some ((q8.1 == x23.2.2))) else ((lV7 x1.1 x1.2.1).bind fun x32 => (lV7 x1.1 x1.2.2.1).bind fun x34 => (lV7 (⟨q8.2.1, q8.2.2⟩ : ao7) x1.2.1).bind fun x36 => if aG7 x1.1.commits.length = true then ((dI7 x36 q8 x1 x32 x34 x1.1.commits 0 ).bind fun q => match q with | .inl r => some r | .inr q61 => (slc q8.2.1 0 (x1.1.commits.length : Int)).bind fun x82 => (rB7 (⟨x82, x1.1.heads⟩ : ao7) x1.1).bind fun x85 => if x85 = true then ((idx q8.2.1 x36).bind fun x87 => if (seq x87.note x1.2.2.2) = true then (if ((x87.up.length : Int) == 2) = true then ((idx x87.up 0).bind fun x89 => if (x89 == x32) = true then ((idx x87.up 1).bind fun x91 => some ((x91 == x34))) else (some (false))) else (some (false))) else (some (false))) else (some (false))) else none)))
def LY7 : Con := ⟨(List UInt8) × Option Addr × Nat, Bool, 304, fun a => [.raw a.2.1 a.2.2 (List.map eU8 a.1)], fun a => uq7 a.1, fun a r => ⟨[(false, [.v (.bool r)])], []⟩, fun a => []⟩
end Go.Proofs.AM
