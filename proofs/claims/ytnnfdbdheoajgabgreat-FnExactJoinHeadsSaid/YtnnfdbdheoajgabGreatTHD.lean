/- Lemmas of the proof (THD), on an abstract machine. Conditions: none. -/
import Derived.Test.YtnnfdbdheoajgabGreatTHC0
set_option linter.unusedVariables false
set_option maxRecDepth 100000
set_option maxHeartbeats 4000000
namespace Go.Proofs.AM
attribute [local irreducible] vwp cM7 bF7 fN7 vdo i07 mF7 jF7 eX7 mr7 ku7 bJ7 eO7 j37 dN7 jt7 mq7 my7
def OA7 : IFn := ⟨21, [.inl 4],
 (Rs [Ki 0 4]
 (.seq (Rs [Ki 0 5]
 (bk7 0 (.loop (.seq (Rs (sq 6 [Mv 5, Mv 0, Ln 7, Bb .lss 6 8] [])
 (Ct 9 .skip
 (.exit 0)))
 (.seq (.block 1 (.seq (Rs (sq 12 [Mv 0, Mv 5, Ia 1 12 13, Ld 1 14, Mv 1, Bb .neq 15 16] [])
 (Ct 17 (Rs [Ki (-1) 4]
 .ret)
 .skip))
 (.reg (sq 18 [Mv 1, Bk .add 18 1] [Mv 19 1]))))
 (.reg (sq 10 [Mv 5, Bk .add 10 1] [Mv 11 5])))))))
 (Rs [Mv 1 20, Mv 20 4]
 .ret))), lcF []⟩
def OB7 : List (List (Option Nat)) := [[none]]
def fz7 : List Int → Nat → Int → Option (Int ⊕ Int)
 | [], k14, v12 => some (.inr v12)
 | x15 :: l16, k14, v12 => if (x15 != v12) = true then (some (.inl ((-1)))) else (fz7 l16 (k14 + 1) (IntKind.i64.wrap (v12 + 1)))
def n47 (a0 : (List Int)) (a1 : Int) : Option Int := if aE7 a0.length = true then ((fz7 a0 0 a1).bind fun q => match q with | .inl r => some r | .inr q11 => some (q11)) else none
def GR7 : Con := ⟨(List Int) × Int, Int, 175, fun a => [.ro (List.map be7 a.1), .v (.int .i64 a.2)], fun a => n47 a.1 a.2, fun a r => ⟨[(false, [.v (.int .i64 r)])], []⟩, fun a => []⟩
def OC7 : IFn := ⟨52, [.inl 4],
 (Rs [Ki 0 4]
 (.seq (Rs [Ki 0 5]
 (bk7 0 (.loop (.seq (Rs (sq 6 [Mv 5, Mv 0, Ln 7, Bb .lss 6 8] [])
 (Ct 9 .skip
 (.exit 0)))
 (.seq (.block 1 (.seq (.seq (.drw (sq 12 [Mv 0, Mv 5, Ia 4 12 13, Fa 0 14, Ld 1 15, Mv 1, Ca 166 [17], Bb .neq 16 18] []) [(4, 6)])
 (Ct 19 (Rs [Ki (-1) 4]
 .ret)
 .skip))
 (Rs (sq 20 [Mv 1, Bk .add 20 1] [Mv 21 1])
 (.seq (Rs (sq 22 [Mv 0, Mv 5, Ia 4 22 23, Fa 1 24, Fa 0 25, Ld 1 26, Mv 1, Bb .neq 27 28] [])
 (Ct 29 (Rs [Ki (-1) 4]
 .ret)
 .skip))
 (Rs (sq 30 [Mv 1, Bk .add 30 1] [Mv 31 1])
 (Rs (sq 32 [Mv 0, Mv 5, Ia 4 32 33, Fa 1 34, Fa 1 35, Ld 1 36, Mv 1, Ca 173 [37, 38]] [Mv 39 1])
 (.seq (Rs (sq 40 [Mv 1, Bk .lss 40 0] [])
 (Ct 41 (Rs [Ki (-1) 4]
 .ret)
 .skip))
 (Rs (sq 42 [Mv 0, Mv 5, Ia 4 42 43, Fa 3 44, Ld 1 45, Mv 1, Ca 174 [46, 47]] [Mv 48 1])
 (Rs (sq 49 [Mv 1, Bk .lss 49 0] [])
 (Ct 50 (Rs [Ki (-1) 4]
 .ret)
 .skip))))))))))
 (.reg (sq 10 [Mv 5, Bk .add 10 1] [Mv 11 5])))))))
 (Rs [Mv 1 51, Mv 51 4]
 .ret))), lcF []⟩
def OD7 : List (List (Option Nat)) := [[none]]
def fA7 : List Feat → Nat → Int → Option (Int ⊕ Int)
 | [], k30, v28 => some (.inr v28)
 | x31 :: l32, k30, v28 => (cT7 v28).bind fun x39 => if (!seq x31.id x39) = true then (some (.inl ((-1)))) else (if (x31.shape.kind != (IntKind.i64.wrap (v28 + 1))) = true then (some (.inl ((-1)))) else ((rI7 x31.shape.pts (IntKind.i64.wrap ((IntKind.i64.wrap (v28 + 1)) + 1))).bind fun x41 => if (decide (x41 < 0)) = true then (some (.inl ((-1)))) else ((rJ7 x31.tags x41).bind fun x43 => if (decide (x43 < 0)) = true then (some (.inl ((-1)))) else (fA7 l32 (k30 + 1) x43))))
def rK7 (a0 : (List Feat)) (a1 : Int) : Option Int := if aE7 a0.length = true then ((fA7 a0 0 a1).bind fun q => match q with | .inl r => some r | .inr q27 => some (q27)) else none
def GS7 : Con := ⟨(List Feat) × Int, Int, 176, fun a => [.ro (List.map (am7 false) a.1), .v (.int .i64 a.2)], fun a => rK7 a.1 a.2, fun a r => ⟨[(false, [.v (.int .i64 r)])], []⟩, fun a => []⟩
def OE7 : IFn := ⟨41, [.inl 4],
 (Rs [Ki 0 4]
 (.seq (Rs [Ki 0 5]
 (bk7 0 (.loop (.seq (Rs (sq 6 [Mv 5, Mv 0, Ln 7, Bb .lss 6 8] [])
 (Ct 9 .skip
 (.exit 0)))
 (.seq (.block 1 (Rs (sq 12 [Mv 0, Mv 5, Ia 3 12 13, Fa 0 14, Ld 1 15, Mv 1, Ca 175 [16, 17]] [Mv 18 1])
 (.seq (Rs (sq 19 [Mv 1, Bk .lss 19 0] [])
 (Ct 20 (Rs [Ki (-1) 4]
 .ret)
 .skip))
 (Rs (sq 21 [Mv 0, Mv 5, Ia 3 21 22, Fa 1 23, Ld 1 24, Mv 1, Ca 176 [25, 26]] [Mv 27 1])
 (.seq (Rs (sq 28 [Mv 1, Bk .lss 28 0] [])
 (Ct 29 (Rs [Ki (-1) 4]
 .ret)
 .skip))
 (.seq (.seq (.drw (sq 30 [Mv 0, Mv 5, Ia 3 30 31, Fa 2 32, Ld 1 33, Mv 1, Ca 166 [35], Bb .neq 34 36] []) [(4, 6)])
 (Ct 37 (Rs [Ki (-1) 4]
 .ret)
 .skip))
 (.reg (sq 38 [Mv 1, Bk .add 38 1] [Mv 39 1]))))))))
 (.reg (sq 10 [Mv 5, Bk .add 10 1] [Mv 11 5])))))))
 (Rs [Mv 1 40, Mv 40 4]
 .ret))), lcF []⟩
def OF7 : List (List (Option Nat)) := [[none]]
def fB7 : List Commit → Nat → Int → Option (Int ⊕ Int)
 | [], k30, v28 => some (.inr v28)
 | x31 :: l32, k30, v28 => (n47 x31.up v28).bind fun x39 => if (decide (x39 < 0)) = true then (some (.inl ((-1)))) else ((rK7 x31.sheet x39).bind fun x41 => if (decide (x41 < 0)) = true then (some (.inl ((-1)))) else ((cT7 x41).bind fun x43 => if (!seq x31.note x43) = true then (some (.inl ((-1)))) else (fB7 l32 (k30 + 1) (IntKind.i64.wrap (x41 + 1)))))
def rL7 (a0 : (List Commit)) (a1 : Int) : Option Int := if aE7 a0.length = true then ((fB7 a0 0 a1).bind fun q => match q with | .inl r => some r | .inr q27 => some (q27)) else none
def GT7 : Con := ⟨(List Commit) × Int, Int, 177, fun a => [.ro (List.map (af7 false) a.1), .v (.int .i64 a.2)], fun a => rL7 a.1 a.2, fun a r => ⟨[(false, [.v (.int .i64 r)])], []⟩, fun a => []⟩
def OG7 : IFn := ⟨32, [.inl 4],
 (Rs [Ki 0 4]
 (.seq (Rs [Ki 0 5]
 (bk7 0 (.loop (.seq (Rs (sq 6 [Mv 5, Mv 0, Ln 7, Bb .lss 6 8] [])
 (Ct 9 .skip
 (.exit 0)))
 (.seq (.block 1 (.seq (.seq (.drw (sq 12 [Mv 0, Mv 5, Ia 2 12 13, Fa 0 14, Ld 1 15, Mv 1, Ca 166 [17], Bb .neq 16 18] []) [(4, 6)])
 (Ct 19 (Rs [Ki (-1) 4]
 .ret)
 .skip))
 (Rs (sq 20 [Mv 1, Bk .add 20 1] [Mv 21 1])
 (.seq (Rs (sq 22 [Mv 0, Mv 5, Ia 2 22 23, Fa 1 24, Ld 1 25, Mv 1, Bb .neq 26 27] [])
 (Ct 28 (Rs [Ki (-1) 4]
 .ret)
 .skip))
 (.reg (sq 29 [Mv 1, Bk .add 29 1] [Mv 30 1]))))))
 (.reg (sq 10 [Mv 5, Bk .add 10 1] [Mv 11 5])))))))
 (Rs [Mv 1 31, Mv 31 4]
 .ret))), lcF []⟩
def OH7 : List (List (Option Nat)) := [[none]]
def fC7 : List bg7 → Nat → Int → Option (Int ⊕ Int)
 | [], k18, v16 => some (.inr v16)
 | x19 :: l20, k18, v16 => (cT7 v16).bind fun x27 => if (!seq x19.name x27) = true then (some (.inl ((-1)))) else (if (x19.at_ != (IntKind.i64.wrap (v16 + 1))) = true then (some (.inl ((-1)))) else (fC7 l20 (k18 + 1) (IntKind.i64.wrap ((IntKind.i64.wrap (v16 + 1)) + 1))))
def rM7 (a0 : (List bg7)) (a1 : Int) : Option Int := if aE7 a0.length = true then ((fC7 a0 0 a1).bind fun q => match q with | .inl r => some r | .inr q15 => some (q15)) else none
def GU7 : Con := ⟨(List bg7) × Int, Int, 178, fun a => [.ro (List.map aw7 a.1), .v (.int .i64 a.2)], fun a => rM7 a.1 a.2, fun a r => ⟨[(false, [.v (.int .i64 r)])], []⟩, fun a => []⟩
def OI7 : IFn := ⟨18, [.inl 4],
 (Rs [Io (.box 466 [some 387, some 402] (.t 0)) 2, Ki 0 4]
 (Rs (sq 5 [Fa 0 2, Ld 1 5, Mv 1, Ca 10 [6, 7]] [Mv 8 1])
 (.seq (Rs (sq 9 [Mv 1, Bk .lss 9 0] [])
 (Ct 10 (Rs [Ki (-1) 4]
 .ret)
 .skip))
 (Rs (sq 11 [Fa 1 2, Ld 1 11, Mv 1, Ca 11 [12, 13]] [Mv 14 1])
 (.seq (Rs (sq 15 [Mv 1, Bk .lss 15 0] [])
 (Ct 16 (Rs [Ki (-1) 4]
 .ret)
 .skip))
 (Rs [Mv 1 17, Mv 17 4]
 .ret)))))), lcF []⟩
def OJ7 : List (List (Option Nat)) := [[none]]
def rN7 (a0 : az7) (a1 : Int) : Option Int := (uB7 a0.commits a1).bind fun x2 => if (decide (x2 < 0)) = true then (some ((-1))) else ((uC7 a0.heads x2).bind fun x4 => if (decide (x4 < 0)) = true then (some ((-1))) else (some (x4)))
def BD7 : Con := ⟨az7 × Int, Int, 179, fun a => [.agg [.ro (List.map (af7 false) a.1.commits), .ro (List.map aw7 a.1.heads)], .v (.int .i64 a.2)], fun a => rN7 a.1 a.2, fun a r => ⟨[(false, [.v (.int .i64 r)])], []⟩, fun a => []⟩
def OK7 : IFn := ⟨13, [.inr (2, 2)],
 (Rs (sq 1 [Io (.box 466 [some 387, some 402] (.t 0)), Io (.alloc 210 [.sl true 115 [], .sl true 130 []])] [])
 (Rs [Io (.alloc 210 [.sl true 115 [], .sl true 130 []]) 3]
 (Rs (sq 4 [Fa 0 1, Ld 1 4, Ca 74 [5], Fa 0 3] [Sv [some 115] 7 6])
 (Rs (sq 8 [Fa 1 1, Ld 1 8, Ca 75 [9], Fa 1 3] [Sv [some 130] 11 10])
 (Rs [La 2 3 12, Sv [some 115, some 130] 2 12]
 .ret))))), lcF []⟩
def OL7 : List (List (Option Nat)) := [[some 115, some 130]]
def jS7 (a0 : az7) : Option az7 := (uP7 a0.commits).bind fun x4 => (uQ7 a0.heads).bind fun x8 => some ((⟨x4, x8⟩ : az7))
def tc7 : Con := ⟨az7, az7, 180, fun a => [.agg [.ro (List.map (af7 false) a.commits), .ro (List.map aw7 a.heads)]], fun a => jS7 a, fun a r => ⟨[(true, j47 true r)], []⟩, fun a => []⟩
def OM7 : IFn := ⟨85, [.inr (8, 2), .inl 9, .inl 10],
 (Rs (Io (.box 210 [some 115, some 130] (.t 0)) 4 :: (sq 8 [Io (.alloc 210 [.sl true 115 [], .sl true 130 []]), Io (.mv (.c (.slice none 0 0))), Ki 0] []))
 (Rs [Io (.lit 178 [none, none] [.v (.string ⟨#[]⟩), .v (.string ⟨#[]⟩)] 0 []) 17, Mv 17 11]
 (.seq (Rs (sq 18 [La 2 4, Ca 33 [18], Nt 19, Mv 20] (Sf 21 22 [Mv 3, Ca 14 [22], Nt 23] [Pk 21 24 25]))
 (Ct 25 (Rs (sq 26 [Io (.build [.nil, .nil] []), Mv 11] (Sv [some 115, some 130] 8 26 :: (sq 9 [Mv 27, Ki 6] [])))
 .ret)
 .skip))
 (fP7 (.reg (sq 28 [La 2 4, Ca 61 [28]] [Io (.alloc 210 [.sl true 115 [], .sl true 130 []]) 12, Sv [some 115, some 130] 12 29]))
 (Rs (sq 30 [La 2 4, Mv 1, Ca 28 [30, 31]] [Mv 32 13])
 (Rs (sq 33 [La 2 4, Mv 2, Ca 28 [33, 34]] [Mv 35 14])
 (.seq (Rs (sq 36 [Mv 13, Bk .lss 36 0, Mv 37] (Sf 38 39 [Mv 14, Bk .lss 39 0] [Pk 38 40 41]))
 (Ct 41 (Rs (sq 42 [La 2 12, Mv 11] (Sv [some 115, some 130] 8 42 :: (sq 9 [Mv 43, Ki 4] [])))
 .ret)
 .skip))
 (Rs (sq 44 [Fa 1 4, Ld 1 44, Mv 13, Ia 2 45 46, Fa 1 47, Ld 1 48] [Mv 49 15])
 (Rs (sq 50 [Fa 1 4, Ld 1 50, Mv 14, Ia 2 51 52, Fa 1 53, Ld 1 54] [Mv 55 16])
 (.seq (.block 0 (Rs (sq 57 [La 2 4, Mv 16, Mv 15, Ca 62 [57, 58, 59]] [Mv 60 56])
 (Ct 56 (Rs (sq 61 [La 2 12, Mv 11] (Sv [some 115, some 130] 8 61 :: (sq 9 [Mv 62, Ki 1] [])))
 .ret)
 (Rs (sq 64 [La 2 4, Mv 15, Mv 16, Ca 62 [64, 65, 66]] [Mv 67 63])
 (Ct 63 (Rs (sq 68 [Fa 1 12, Ld 1 68, Mv 13, Mv 16, Ia 2 69 70, Fa 1 72] [Sv [none] 73 71])
 (Rs (sq 74 [La 2 12, Mv 11] (Sv [some 115, some 130] 8 74 :: (sq 9 [Mv 75, Ki 2] [])))
 .ret))
 .skip)))))
 (Rs (sq 76 [La 2 12, Mv 13, Mv 15, Mv 16, Mv 3, Io (.call 63 [(true, .t 76), (false, .t 77), (false, .t 78), (false, .t 79), (false, .t 80)]), Xt 81 0, Xt 81 1, Xt 81 2] (Sv [some 115, some 130] 8 82 :: (sq 9 [Mv 83, Mv 84] [])))
 .ret))))))))))), lcF []⟩
def ON7 : List (List (Option Nat)) := [[some 115, some 130], [some 178], [none]]
def n67 (a0 : az7) (a1 : Str) (a2 : Str) (a3 : Str) : Option (az7 × (List ap7) × Int) := (nM7 a0).bind fun x4 => if (!x4) = true then (some ((⟨[], []⟩ : az7), ([] : (List ap7)), 6)) else ((hc7 a3).bind fun x6 => if (!x6) = true then (some ((⟨[], []⟩ : az7), ([] : (List ap7)), 6)) else ((((q87 a0).bind fun x9 => some (x9.commits, x9.heads) : Option ((List Commit) × (List bg7)))).bind fun q8 => (lx7 a0 a1).bind fun x31 => (lx7 a0 a2).bind fun x33 => if (decide (x31 < 0)) = true then (some ((⟨q8.1, q8.2⟩ : az7), ([] : (List ap7)), 4)) else (if (decide (x33 < 0)) = true then (some ((⟨q8.1, q8.2⟩ : az7), ([] : (List ap7)), 4)) else ((idx a0.heads x31).bind fun x35 => (idx a0.heads x33).bind fun x37 => (nU7 a0 x37.at_ x35.at_).bind fun x39 => if x39 = true then (some ((⟨q8.1, q8.2⟩ : az7), ([] : (List ap7)), 1)) else ((nU7 a0 x35.at_ x37.at_).bind fun x41 => if x41 = true then ((idx q8.2 x31).bind fun x43 => some ((⟨q8.1, (List.set q8.2 x31.toNat (⟨x43.name, x37.at_⟩ : bg7))⟩ : az7), ([] : (List ap7)), 2)) else ((uH7 (⟨q8.1, q8.2⟩ : az7) x31 x35.at_ x37.at_ a3).bind fun x45 => some (x45.1, x45.2.1, x45.2.2)))))))
def BE7 : Con := ⟨az7 × Str × Str × Str, (az7 × (List ap7) × Int), 181, fun a => [.agg [.ro (List.map (af7 false) a.1.commits), .ro (List.map aw7 a.1.heads)], .v (.string a.2.1), .v (.string a.2.2.1), .v (.string a.2.2.2)], fun a => n67 a.1 a.2.1 a.2.2.1 a.2.2.2, fun a r => ⟨[(true, j47 true r.1), (false, [sl true 178 (List.map aM7 r.2.1)]), (false, [.v (.int .i64 r.2.2)])], []⟩, fun a => []⟩
def OO7 : IFn := ⟨115, [.inr (8, 2), .inl 9, .inl 10],
 (Rs (Io (.box 210 [some 115, some 130] (.t 0)) 4 :: (sq 8 [Io (.alloc 210 [.sl true 115 [], .sl true 130 []]), Io (.mv (.c (.slice none 0 0))), Ki 0] []))
 (Rs [Io (.lit 178 [none, none] [.v (.string ⟨#[]⟩), .v (.string ⟨#[]⟩)] 0 []) 20, Mv 20 11]
 (.seq (Rs (sq 21 [La 2 4, Ca 96 [21], Nt 22, Mv 23] (Sf 24 25 [Mv 3, Ca 80 [25], Nt 26] [Pk 24 27 28]))
 (Ct 28 (Rs (sq 29 [Io (.build [.nil, .nil] []), Mv 11] (Sv [some 115, some 130] 8 29 :: (sq 9 [Mv 30, Ki 6] [])))
 .ret)
 .skip))
 (fP7 (.reg (sq 31 [La 2 4, Ca 150 [31]] [Io (.alloc 210 [.sl true 115 [], .sl true 130 []]) 12, Sv [some 115, some 130] 12 32]))
 (.seq (.drw (sq 33 [La 2 4, Mv 1, Ca 89 [33, 34], La 2 4, Mv 2, Ca 89 [36, 37]] (sq 13 [Mv 35, Mv 38] [])) [(0, 3), (2, 3)])
 (.seq (Rs (sq 39 [Mv 13, Bk .lss 39 0, Mv 40] (Sf 41 42 [Mv 14, Bk .lss 42 0] [Pk 41 43 44]))
 (Ct 44 (Rs (sq 45 [La 2 12, Mv 11] (Sv [some 115, some 130] 8 45 :: (sq 9 [Mv 46, Ki 4] [])))
 .ret)
 .skip))
 (.seq (.drw (sq 47 [Fa 1 4, Ld 1 47, Mv 13, Ia 2 48 49, Fa 1 50, Ld 1 51, Fa 1 4, Ld 1 53, Mv 14, Ia 2 54 55, Fa 1 56, Ld 1 57] (sq 15 [Mv 52, Mv 58] [])) [(1, 7), (5, 7), (1, 11), (5, 11)])
 (.seq (.block 0 (Rs (sq 60 [La 2 4, Mv 15, Ca 97 [60, 61], Mv 16, Ia 1 62 63, Ld 1 64] [Mv 65 59])
 (Ct 59 (Rs (sq 66 [La 2 12, Mv 11] (Sv [some 115, some 130] 8 66 :: (sq 9 [Mv 67, Ki 1] [])))
 .ret)
 (Rs (sq 69 [La 2 4, Mv 16, Ca 97 [69, 70], Mv 15, Ia 1 71 72, Ld 1 73] [Mv 74 68])
 (Ct 68 (Rs (sq 75 [Fa 1 12, Ld 1 75, Mv 13, Mv 16, Ia 2 76 77, Fa 1 79] [Sv [none] 80 78])
 (Rs (sq 81 [La 2 12, Mv 11] (Sv [some 115, some 130] 8 81 :: (sq 9 [Mv 82, Ki 2] [])))
 .ret))
 .skip)))))
 (Rs (sq 84 [La 2 4, Mv 15, Mv 16, Ca 151 [84, 85, 86]] (Mv 87 83 :: (sq 88 [Xt 83 0, Xt 83 1, Xt 83 2] (sq 17 [Mv 88, Mv 89, Mv 90] []))))
 (.seq (.block 1 (Rs (sq 92 [Mv 19, Nt 92] [Mv 93 91])
 (Ct 91 (Rs (sq 94 [La 2 12, Mv 11] (Sv [some 115, some 130] 8 94 :: (sq 9 [Mv 95, Ki 5] [])))
 .ret)
 (Rs (sq 97 [Mv 18, Ln 97, Bk .gtr 98 0] [Mv 99 96])
 (Ct 96 (Rs (sq 100 [La 2 12, Mv 18] (Sv [some 115, some 130] 8 100 :: (sq 9 [Mv 101, Ki 3] [])))
 .ret)
 .skip)))))
 (.seq (Rs (sq 102 [Mv 13, Mv 15, Mv 16, Io (.lit 17 [none] [.v (.int .i64 0)] 2 [(0, .t 103), (1, .t 104)]), Mv 17, Mv 3, Io (.build [.nil, .nil, .v (.string ⟨#[]⟩)] [(0, 1, .t 105), (1, 1, .t 106), (2, 1, .t 107)]), Io (.call 152 [(true, .t 12), (false, .t 102), (false, .t 108)]), Nt 109] [])
 (Ct 110 (Rs (sq 111 [La 2 12, Mv 11] (Sv [some 115, some 130] 8 111 :: (sq 9 [Mv 112, Ki 5] [])))
 .ret)
 .skip))
 (Rs (sq 113 [La 2 12, Mv 11] (Sv [some 115, some 130] 8 113 :: (sq 9 [Mv 114, Ki 0] [])))
 .ret)))))))))))), lcF []⟩
def OP7 : List (List (Option Nat)) := [[some 115, some 130], [some 178], [none]]
def lK7 (a0 : az7) (a1 : Str) (a2 : Str) (a3 : Str) : Option (az7 × (List ap7) × Int) := (nY7 a0).bind fun x4 => if (!x4) = true then (some ((⟨[], []⟩ : az7), ([] : (List ap7)), 6)) else ((hd7 a3).bind fun x6 => if (!x6) = true then (some ((⟨[], []⟩ : az7), ([] : (List ap7)), 6)) else ((((rz7 a0).bind fun x9 => some (x9.commits, x9.heads) : Option ((List Commit) × (List bg7)))).bind fun q8 => (lE7 a0 a1).bind fun x23 => (lE7 a0 a2).bind fun x25 => if (decide (x23 < 0)) = true then (some ((⟨q8.1, q8.2⟩ : az7), ([] : (List ap7)), 4)) else (if (decide (x25 < 0)) = true then (some ((⟨q8.1, q8.2⟩ : az7), ([] : (List ap7)), 4)) else ((idx a0.heads x23).bind fun x27 => (idx a0.heads x25).bind fun x29 => (id7 a0 x27.at_).bind fun x31 => (idx x31 x29.at_).bind fun x35 => if x35 = true then (some ((⟨q8.1, q8.2⟩ : az7), ([] : (List ap7)), 1)) else ((id7 a0 x29.at_).bind fun x37 => (idx x37 x27.at_).bind fun x41 => if x41 = true then ((idx q8.2 x23).bind fun x43 => some ((⟨q8.1, (List.set q8.2 x23.toNat (⟨x43.name, x29.at_⟩ : bg7))⟩ : az7), ([] : (List ap7)), 2)) else ((n37 a0 x27.at_ x29.at_).bind fun x45 => if (!x45.2.2) = true then (some ((⟨q8.1, q8.2⟩ : az7), ([] : (List ap7)), 5)) else (if (decide ((x45.2.1.length : Int) > 0)) = true then (some ((⟨q8.1, q8.2⟩ : az7), x45.2.1, 3)) else ((rA7 (⟨q8.1, q8.2⟩ : az7) x23 (⟨[x27.at_, x29.at_], x45.1, a3⟩ : Commit)).bind fun x52 => if (!x52.1) = true then (some (x52.2, ([] : (List ap7)), 5)) else (some (x52.2, ([] : (List ap7)), 0))))))))))
def y17 : Con := ⟨az7 × Str × Str × Str, (az7 × (List ap7) × Int), 182, fun a => [.agg [.ro (List.map (af7 false) a.1.commits), .ro (List.map aw7 a.1.heads)], .v (.string a.2.1), .v (.string a.2.2.1), .v (.string a.2.2.2)], fun a => lK7 a.1 a.2.1 a.2.2.1 a.2.2.2, fun a r => ⟨[(true, j47 true r.1), (false, [sl true 178 (List.map aM7 r.2.1)]), (false, [.v (.int .i64 r.2.2)])], []⟩, fun a => []⟩
def OQ7 : IFn := ⟨17, [.inl 4],
 (Rs (sq 2 [Io (.box 210 [some 115, some 130] (.t 0)), Io (.box 210 [some 115, some 130] (.t 1)), Kb false] [])
 (.seq (Rs (sq 5 [Fa 0 2, Ld 1 5, Fa 0 3, Ld 1 7, Ca 163 [6, 8], Nt 9] [])
 (Ct 10 (Rs [Kb false 4]
 .ret)
 .skip))
 (.seq (Rs (sq 11 [Fa 1 2, Ld 1 11, Fa 1 3, Ld 1 13, Ca 164 [12, 14], Nt 15] [])
 (Ct 16 (Rs [Kb false 4]
 .ret)
 .skip))
 (Rs [Kb true 4]
 .ret)))), lcF []⟩
def OR7 : List (List (Option Nat)) := [[none]]
def jT7 (a0 : az7) (a1 : az7) : Option Bool := (u67 a0.commits a1.commits).bind fun x3 => if (!x3) = true then (some (false)) else ((u77 a0.heads a1.heads).bind fun x5 => if (!x5) = true then (some (false)) else (some (true)))
def td7 : Con := ⟨az7 × az7, Bool, 183, fun a => [.agg [.ro (List.map (af7 false) a.1.commits), .ro (List.map aw7 a.1.heads)], .agg [.ro (List.map (af7 false) a.2.commits), .ro (List.map aw7 a.2.heads)]], fun a => jT7 a.1 a.2, fun a r => ⟨[(false, [.v (.bool r)])], []⟩, fun a => []⟩
def OS7 : IFn := ⟨27, [.inl 4],
 (Rs [Kb false 4]
 (.seq (Rs (sq 6 [Mv 0, Ln 6, Mv 1, Ln 8, Bb .neq 7 9] [])
 (Ct 10 (Rs [Kb false 4]
 .ret)
 .skip))
 (.seq (Rs [Ki 0 5]
 (bk7 0 (.loop (.seq (Rs (sq 11 [Mv 5, Mv 0, Ln 12, Bb .lss 11 13] [])
 (Ct 14 .skip
 (.exit 0)))
 (.seq (.block 1 (.seq (.drw (sq 17 [Mv 0, Mv 5, Ia 2 17 18, La 2 19, Mv 1, Mv 5, Ia 2 21 22, La 2 23, Ca 165 [20, 24], Nt 25] []) [(3, 7)])
 (Ct 26 (Rs [Kb false 4]
 .ret)
 .skip)))
 (.reg (sq 15 [Mv 5, Bk .add 15 1] [Mv 16 5])))))))
 (Rs [Kb true 4]
 .ret)))), lcF []⟩
def OT7 : List (List (Option Nat)) := [[none]]
def gV7 (a1 : (List ap7)) : List ap7 → Nat → Option (Bool ⊕ Unit)
 | [], k22 => some (.inr ())
 | x23 :: l24, k22 => (idx a1 (k22 : Int)).bind fun x31 => (rH7 x23 x31).bind fun x33 => if (!x33) = true then (some (.inl (false))) else (gV7 a1 l24 (k22 + 1) )
def n77 (a0 : (List ap7)) (a1 : (List ap7)) : Option Bool := if ((a0.length : Int) != (a1.length : Int)) = true then (some (false)) else (if aE7 a0.length = true then ((gV7 a1 a0 0 ).bind fun q => match q with | .inl r => some r | .inr q20 => some (true)) else none)
def ws7 : Con := ⟨(List ap7) × (List ap7), Bool, 184, fun a => [.ro (List.map aM7 a.1), .ro (List.map aM7 a.2)], fun a => n77 a.1 a.2, fun a r => ⟨[(false, [.v (.bool r)])], []⟩, fun a => []⟩
def OU7 : IFn := ⟨14, [.inl 4],
 (Rs [Io (.box 210 [some 115, some 130] (.t 0)) 2, Ki 0 4]
 (Rs (sq 5 [Fa 0 2, Ld 1 5, Mv 1, Io (.call 171 [(true, .t 6), (false, .t 7)])] [Mv 8 1])
 (Rs (sq 9 [Fa 1 2, Ld 1 9, Mv 1, Io (.call 172 [(true, .t 10), (false, .t 11)])] [Mv 12 1])
 (Rs [Mv 1 13, Mv 13 4]
 .ret)))), lcF [(0, 1000256), (1, 1000257)]⟩
def OV7 : List (List (Option Nat)) := [[none]]
def hg7 (a0 : az7) (a1 : Int) : Option (Int × az7) := (ii7 a0.commits a1).bind fun x2 => (ij7 a0.heads x2.1).bind fun x4 => some (x4.1, (⟨x2.2, x4.2⟩ : az7))
def y27 : Con := ⟨az7 × Int, (Int × az7), 185, fun a => [.agg [.io 0 a.1.commits.length 115, .io 1 a.1.heads.length 130], .v (.int .i64 a.2)], fun a => hg7 a.1 a.2, fun a r => ⟨[(false, [.v (.int .i64 r.1)])], [some (List.map (af7 true) r.2.commits), some (List.map aw7 r.2.heads)]⟩, fun a => [(false, 115, List.map (af7 true) a.1.commits), (false, 130, List.map aw7 a.1.heads)]⟩
theorem OW7 {a0 : az7} {a1 : Int} {r : (Int × az7)} (h : hg7 a0 a1 = some r) : (r.2.commits).length = (a0.commits).length ∧ (r.2.heads).length = (a0.heads).length := by
 unfold hg7 at h
 simp only [Option.bind_eq_some_iff] at h
 obtain ⟨_, e0, _, e1, h⟩ := h
 have m0 := Os7 e0
 have m1 := Ov7 e1
 cases h
 exact ⟨m0, m1⟩
def OX7 : IFn := ⟨29, [.inl 4],
 (Rs [Ki 0 4]
 (.seq (Rs [Ki 0 5]
 (bk7 0 (.loop (.seq (Rs (sq 6 [Mv 5, Mv 0, Ln 7, Bb .lss 6 8] [])
 (Ct 9 .skip
 (.exit 0)))
 (.seq (.block 1 (Rs (sq 12 [Mv 0, Mv 5, Mv 1, Ca 166 [14], Ia 2 12 13, Fa 0 16] [Sv [none] 17 15])
 (Rs (sq 18 [Mv 1, Bk .add 18 1] [Mv 19 1])
 (Rs (sq 20 [Mv 0, Mv 5, Mv 1, Ca 166 [22], Ia 2 20 21, Fa 1 24] [Sv [none] 25 23])
 (.reg (sq 26 [Mv 1, Bk .add 26 1] [Mv 27 1]))))))
 (.reg (sq 10 [Mv 5, Bk .add 10 1] [Mv 11 5])))))))
 (Rs [Mv 1 28, Mv 28 4]
 .ret))), lcF []⟩
def OY7 : List (List (Option Nat)) := [[none]]
def dv7 : Nat → Int → Int → (List ap7) → Option (Int × (List ap7))
 | 0, _, _, _ => none
 | n32 + 1, v29, v30, v31 => if (decide (v30 < (v31.length : Int))) = true then ((cT7 v29).bind fun x33 => (idx v31 v30).bind fun x35 => (cT7 (IntKind.i64.wrap (v29 + 1))).bind fun x37 => (idx (List.set v31 v30.toNat (⟨x33, x35.what⟩ : ap7)) v30).bind fun x39 => dv7 n32 (IntKind.i64.wrap ((IntKind.i64.wrap (v29 + 1)) + 1)) (IntKind.i64.wrap (v30 + 1)) (List.set (List.set v31 v30.toNat (⟨x33, x35.what⟩ : ap7)) v30.toNat (⟨x39.id, x37⟩ : ap7))) else (some (v29, v31))
def lL7 (a0 : (List ap7)) (a1 : Int) : Option (Int × (List ap7)) := (dv7 aQ7 a1 0 a0).bind fun q28 => some (q28.1, q28.2)
def BF7 : Con := ⟨(List ap7) × Int, (Int × (List ap7)), 186, fun a => [.io 0 a.1.length 178, .v (.int .i64 a.2)], fun a => lL7 a.1 a.2, fun a r => ⟨[(false, [.v (.int .i64 r.1)])], [some (List.map aM7 r.2)]⟩, fun a => [(false, 178, List.map aM7 a.1)]⟩
theorem QZ7 {a0 : (List ap7)} {a1 : Int} {r : (Int × (List ap7))} (h : lL7 a0 a1 = some r) : (r.2).length = (a0).length := by
 unfold lL7 at h
 obtain ⟨q, h1, h2⟩ := bnd h
 have key := gf7 (gl := dv7) (fun _ _ _ => rfl) (fun n k i a q h => by
  simp only [dv7] at h
  split at h
  ·simp only [Option.bind_eq_some_iff] at h
   obtain ⟨_, _, _, _, _, _, _, _, h⟩ := h
   exact .inl ⟨_, _, _, by simp, h⟩
  ·cases h
   exact .inr rfl) _ _ _ _ _ h1
 cases h2
 exact key
def OZ7 : IFn := ⟨18, [.inl 4],
 (Rs [Io (.box 210 [some 115, some 130] (.t 0)) 2, Ki 0 4]
 (Rs (sq 5 [Fa 0 2, Ld 1 5, Mv 1, Ca 177 [6, 7]] [Mv 8 1])
 (.seq (Rs (sq 9 [Mv 1, Bk .lss 9 0] [])
 (Ct 10 (Rs [Ki (-1) 4]
 .ret)
 .skip))
 (Rs (sq 11 [Fa 1 2, Ld 1 11, Mv 1, Ca 178 [12, 13]] [Mv 14 1])
 (.seq (Rs (sq 15 [Mv 1, Bk .lss 15 0] [])
 (Ct 16 (Rs [Ki (-1) 4]
 .ret)
 .skip))
 (Rs [Mv 1 17, Mv 17 4]
 .ret)))))), lcF []⟩
def O07 : List (List (Option Nat)) := [[none]]
def n87 (a0 : az7) (a1 : Int) : Option Int := (rL7 a0.commits a1).bind fun x2 => if (decide (x2 < 0)) = true then (some ((-1))) else ((rM7 a0.heads x2).bind fun x4 => if (decide (x4 < 0)) = true then (some ((-1))) else (some (x4)))
def y37 : Con := ⟨az7 × Int, Int, 187, fun a => [.agg [.ro (List.map (af7 false) a.1.commits), .ro (List.map aw7 a.1.heads)], .v (.int .i64 a.2)], fun a => n87 a.1 a.2, fun a r => ⟨[(false, [.v (.int .i64 r)])], []⟩, fun a => []⟩
def O17 : IFn := ⟨33, [.inl 4],
 (Rs [Ki 0 4]
 (.seq (Rs [Ki 0 5]
 (bk7 0 (.loop (.seq (Rs (sq 6 [Mv 5, Mv 0, Ln 7, Bb .lss 6 8] [])
 (Ct 9 .skip
 (.exit 0)))
 (.seq (.block 1 (.seq (.seq (.drw (sq 12 [Mv 0, Mv 5, Ia 2 12 13, Fa 0 14, Ld 1 15, Mv 1, Ca 166 [17], Bb .neq 16 18] []) [(4, 6)])
 (Ct 19 (Rs [Ki (-1) 4]
 .ret)
 .skip))
 (Rs (sq 20 [Mv 1, Bk .add 20 1] [Mv 21 1])
 (.seq (.seq (.drw (sq 22 [Mv 0, Mv 5, Ia 2 22 23, Fa 1 24, Ld 1 25, Mv 1, Ca 166 [27], Bb .neq 26 28] []) [(4, 6)])
 (Ct 29 (Rs [Ki (-1) 4]
 .ret)
 .skip))
 (.reg (sq 30 [Mv 1, Bk .add 30 1] [Mv 31 1]))))))
 (.reg (sq 10 [Mv 5, Bk .add 10 1] [Mv 11 5])))))))
 (Rs [Mv 1 32, Mv 32 4]
 .ret))), lcF []⟩
def O27 : List (List (Option Nat)) := [[none]]
def fD7 : List ap7 → Nat → Int → Option (Int ⊕ Int)
 | [], k24, v22 => some (.inr v22)
 | x25 :: l26, k24, v22 => (cT7 v22).bind fun x33 => if (!seq x25.id x33) = true then (some (.inl ((-1)))) else ((cT7 (IntKind.i64.wrap (v22 + 1))).bind fun x35 => if (!seq x25.what x35) = true then (some (.inl ((-1)))) else (fD7 l26 (k24 + 1) (IntKind.i64.wrap ((IntKind.i64.wrap (v22 + 1)) + 1))))
def n97 (a0 : (List ap7)) (a1 : Int) : Option Int := if aE7 a0.length = true then ((fD7 a0 0 a1).bind fun q => match q with | .inl r => some r | .inr q21 => some (q21)) else none
def y47 : Con := ⟨(List ap7) × Int, Int, 188, fun a => [.ro (List.map aM7 a.1), .v (.int .i64 a.2)], fun a => n97 a.1 a.2, fun a r => ⟨[(false, [.v (.int .i64 r)])], []⟩, fun a => []⟩
def O37 : IFn := ⟨157, [.inl 8],
 (Rs [Io (.box 466 [some 387, some 402] (.t 0)) 4, Kb false 8]
 (.seq (Rs (sq 23 [Mv 1, Ls 23, Bk .gtr 24 1048576] [])
 (Ct 25 (Rs [Kb true 8]
 .ret)
 .skip))
 (.seq (Rs (sq 26 [Mv 2, Ls 26, Bk .gtr 27 1048576] [])
 (Ct 28 (Rs [Kb true 8]
 .ret)
 .skip))
 (.seq (Rs (sq 29 [Mv 3, Ls 29, Bk .gtr 30 1048576] [])
 (Ct 31 (Rs [Kb true 8]
 .ret)
 .skip))
 (Rs [Ki 1048576 9]
 (Rs (sq 32 [La 2 4, Mv 9, Ca 179 [32, 33]] [Mv 34 9])
 (.seq (Rs (sq 35 [Mv 9, Bk .lss 35 0] [])
 (Ct 36 (Rs [Kb true 8]
 .ret)
 .skip))
 (fP7 (.reg (sq 38 [La 2 4, Ca 180 [38], Mv 1, Mv 2, Mv 3, Ca 181 [39, 40, 41, 42]] (Mv 43 37 :: (sq 44 [Xt 37 0, Xt 37 1, Xt 37 2] (Io (.alloc 210 [.sl true 115 [], .sl true 130 []]) 10 :: (Sv [some 115, some 130] 10 44 :: (sq 11 [Mv 45, Mv 46] [])))))))
 (Rs (sq 47 [La 2 4, Ca 180 [47]] [Io (.alloc 210 [.sl true 115 [], .sl true 130 []]) 13, Sv [some 115, some 130] 13 48])
 (fP7 (.reg (sq 50 [La 2 13, Mv 1, Mv 2, Mv 3, Ca 182 [50, 51, 52, 53]] (Mv 54 49 :: (sq 55 [Xt 49 0, Xt 49 1, Xt 49 2] (Io (.alloc 210 [.sl true 115 [], .sl true 130 []]) 14 :: (Sv [some 115, some 130] 14 55 :: (sq 15 [Mv 56, Mv 57] [])))))))
 (.seq (Rs (sq 58 [La 2 14, La 2 10, Ca 183 [58, 59], Nt 60, Mv 61] (Sf 62 63 [Mv 15, Mv 11, Ca 184 [63, 64], Nt 65] (sq 67 [Pk 62 66, Mv 67] (Sf 68 69 [Mv 16, Mv 12, Bb .neq 69 70] [Pk 68 71 72]))))
 (Ct 72 (Rs [Kb false 8]
 .ret)
 .skip))
 (.seq (.seq (.drw (sq 73 [La 2 13, La 2 4, Ca 180 [74], Ca 183 [73, 75], Nt 76] []) [(0, 1), (0, 2)])
 (Ct 77 (Rs [Kb false 8]
 .ret)
 .skip))
 (Rs [Ki 1 17]
 (Rs (sq 78 [La 2 13, Mv 17, Io (.call 185 [(true, .t 78), (false, .t 79)])] [Mv 80 17])
 (.seq (Rs (sq 81 [Mv 17, Bk .lss 81 0, Mv 82] (Sf 83 84 [La 2 14, La 2 10, Ca 183 [84, 85], Nt 86] (sq 88 [Pk 83 87, Mv 88] (Sf 89 90 [Mv 15, Mv 11, Ca 184 [90, 91], Nt 92] (sq 94 [Pk 89 93, Mv 94] (Sf 95 96 [Mv 16, Mv 12, Bb .neq 96 97] [Pk 95 98 99]))))))
 (Ct 99 (Rs [Kb false 8]
 .ret)
 .skip))
 (Rs [Ki 1 18]
 (Rs (sq 100 [La 2 14, Mv 18, Io (.call 185 [(true, .t 100), (false, .t 101)])] [Mv 102 18])
 (fP7 (.reg (sq 103 [Mv 15, Mv 18, Io (.call 186 [(true, .t 103), (false, .t 104)])] [Mv 105 18]))
 (Rs [Ki 1 19]
 (Rs (sq 106 [La 2 14, Mv 19, Ca 187 [106, 107]] [Mv 108 19])
 (.seq (Rs (sq 109 [Mv 19, Bk .lss 109 0] [])
 (Ct 110 (Rs [Kb false 8]
 .ret)
 .skip))
 (Rs (sq 111 [Mv 15, Mv 19, Ca 188 [111, 112]] [Mv 113 19])
 (.seq (Rs (sq 114 [Mv 19, Bk .lss 114 0] [])
 (Ct 115 (Rs [Kb false 8]
 .ret)
 .skip))
 (.seq (Rs (sq 116 [Mv 19, Mv 18, Bb .neq 116 117] [])
 (Ct 118 (Rs [Kb false 8]
 .ret)
 .skip))
 (fP7 (.reg (sq 120 [La 2 4, Ca 180 [120], Mv 1, Mv 2, Mv 3, Ca 182 [121, 122, 123, 124]] (Mv 125 119 :: (sq 126 [Xt 119 0, Xt 119 1, Xt 119 2] (Io (.alloc 210 [.sl true 115 [], .sl true 130 []]) 20 :: (Sv [some 115, some 130] 20 126 :: (sq 21 [Mv 127, Mv 128] [])))))))
 (.seq (Rs (sq 129 [La 2 20, La 2 10, Ca 183 [129, 130], Nt 131, Mv 132] (Sf 133 134 [Mv 21, Mv 11, Ca 184 [134, 135], Nt 136] (sq 138 [Pk 133 137, Mv 138] (Sf 139 140 [Mv 22, Mv 12, Bb .neq 140 141] [Pk 139 142 143]))))
 (Ct 143 (Rs [Kb false 8]
 .ret)
 .skip))
 (Rs [Ki 1 19]
 (Rs (sq 144 [La 2 14, Mv 19, Ca 187 [144, 145]] [Mv 146 19])
 (.seq (Rs (sq 147 [Mv 19, Bk .lss 147 0] [])
 (Ct 148 (Rs [Kb false 8]
 .ret)
 .skip))
 (Rs (sq 149 [Mv 15, Mv 19, Ca 188 [149, 150]] [Mv 151 19])
 (.seq (Rs (sq 152 [Mv 19, Bk .lss 152 0] [])
 (Ct 153 (Rs [Kb false 8]
 .ret)
 .skip))
 (.seq (Rs (sq 154 [Mv 19, Mv 18, Bb .neq 154 155] [])
 (Ct 156 (Rs [Kb false 8]
 .ret)
 .skip))
 (Rs [Kb true 8]
 .ret))))))))))))))))))))))))))))))))), lcF []⟩
def O47 : List (List (Option Nat)) := [[none]]
def u87 (a0 : az7) (a1 : Str) (a2 : Str) (a3 : Str) : Option Bool := if (decide ((a1.size : Int) > 1048576)) = true then (some (true)) else (if (decide ((a2.size : Int) > 1048576)) = true then (some (true)) else (if (decide ((a3.size : Int) > 1048576)) = true then (some (true)) else ((rN7 a0 1048576).bind fun x2 => if (decide (x2 < 0)) = true then (some (true)) else ((((jS7 a0).bind fun x5 => (n67 x5 a1 a2 a3).bind fun x11 => some (x11.2.2, x11.1.commits, x11.1.heads, x11.2.1) : Option (Int × (List Commit) × (List bg7) × (List ap7)))).bind fun q4 => (jS7 a0).bind fun x32 => (((lK7 x32 a1 a2 a3).bind fun x40 => some (x40.2.2, x40.1.commits, x40.1.heads, x40.2.1) : Option (Int × (List Commit) × (List bg7) × (List ap7)))).bind fun q39 => (jT7 (⟨q39.2.1, q39.2.2.1⟩ : az7) (⟨q4.2.1, q4.2.2.1⟩ : az7)).bind fun x73 => if (!x73) = true then (some (false)) else ((n77 q39.2.2.2 q4.2.2.2).bind fun x75 => if (!x75) = true then (some (false)) else (if (q39.1 != q4.1) = true then (some (false)) else ((jS7 a0).bind fun x77 => (jT7 x32 x77).bind fun x83 => if (!x83) = true then (some (false)) else ((hg7 x32 1).bind fun x85 => if (decide (x85.1 < 0)) = true then (some (false)) else ((jT7 (⟨q39.2.1, q39.2.2.1⟩ : az7) (⟨q4.2.1, q4.2.2.1⟩ : az7)).bind fun x87 => if (!x87) = true then (some (false)) else ((n77 q39.2.2.2 q4.2.2.2).bind fun x89 => if (!x89) = true then (some (false)) else (if (q39.1 != q4.1) = true then (some (false)) else ((hg7 (⟨q39.2.1, q39.2.2.1⟩ : az7) 1).bind fun x91 => (((lL7 q39.2.2.2 x91.1).bind fun x94 => some (x94.1, x94.2) : Option (Int × (List ap7)))).bind fun q93 => (n87 x91.2 1).bind fun x113 => if (decide (x113 < 0)) = true then (some (false)) else ((n97 q93.2 x113).bind fun x115 => if (decide (x115 < 0)) = true then (some (false)) else (if (x115 != q93.1) = true then (some (false)) else ((((jS7 a0).bind fun x118 => (lK7 x118 a1 a2 a3).bind fun x124 => some (x124.2.2, x124.1.commits, x124.1.heads, x124.2.1) : Option (Int × (List Commit) × (List bg7) × (List ap7)))).bind fun q117 => (jT7 (⟨q117.2.1, q117.2.2.1⟩ : az7) (⟨q4.2.1, q4.2.2.1⟩ : az7)).bind fun x158 => if (!x158) = true then (some (false)) else ((n77 q117.2.2.2 q4.2.2.2).bind fun x160 => if (!x160) = true then (some (false)) else (if (q117.1 != q4.1) = true then (some (false)) else ((n87 x91.2 1).bind fun x162 => if (decide (x162 < 0)) = true then (some (false)) else ((n97 q93.2 x162).bind fun x164 => if (decide (x164 < 0)) = true then (some (false)) else (if (x164 != q93.1) = true then (some (false)) else (some (true))))))))))))))))))))))
def O57 : Con := ⟨az7 × Str × Str × Str, Bool, 313, fun a => [.agg [.ro (List.map (af7 false) a.1.commits), .ro (List.map aw7 a.1.heads)], .v (.string a.2.1), .v (.string a.2.2.1), .v (.string a.2.2.2)], fun a => u87 a.1 a.2.1 a.2.2.1 a.2.2.2, fun a r => ⟨[(false, [.v (.bool r)])], []⟩, fun a => []⟩
end Go.Proofs.AM
