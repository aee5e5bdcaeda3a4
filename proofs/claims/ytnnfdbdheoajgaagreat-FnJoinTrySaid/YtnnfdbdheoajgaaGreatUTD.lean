/- Lemmas of the proof (UTD), on an abstract machine. Conditions: none. -/
import Derived.Test.YtnnfdbdheoajgaaGreatSF
set_option linter.unusedVariables false
set_option maxRecDepth 100000
set_option maxHeartbeats 4000000
namespace Go.Proofs.AM
attribute [local irreducible] vwp c27 bH7 f37 vdo jL7 na7 j57 f47 mn7 lg7 bO7 e17 kj7 fd7 j47 mc7 mb7
def Hi7 : IFn := ⟨9, [.inl 2],
 (Rs [Kb false 2]
 (Rs (sq 3 [Mv 0, Bk .geq 3 (-1000), Mv 4] (Sg 5 6 [Mv 0, Bk .leq 6 1000] [Pf 5 7 8, Mv 8 2]))
 .ret)), lcF []⟩
def Hj7 : List (List (Option Nat)) := [[none]]
def nm7 (a0 : Int) : Option Bool := if (decide (a0 ≥ (-1000))) = true then (some ((decide (a0 ≤ 1000)))) else (some (false))
def DR7 : Con := ⟨Int, Bool, 12, fun a => [.v (.int .i64 a)], fun a => nm7 a, fun a r => ⟨[(false, [.v (.bool r)])], []⟩, fun a => []⟩
def Hk7 : IFn := ⟨45, [.inl 2],
 (Rs [Kb false 2]
 (.seq (Rs [Ki 0 3]
 (bU7 0 (.loop (.seq (Rs (sq 4 [Mv 3, Mv 0, Ln 5, Bb .lss 4 6] [])
 (Ct 7 .skip
 (.exit 0)))
 (.seq (.block 1 (.seq (.drw (sq 10 [Mv 0, Mv 3, Ia 2 10 11, Fa 0 12, Ld 1 13, Ca 12 [14], Nt 15, Mv 16] (Sf 17 18 [Mv 0, Mv 3, Ia 2 18 19, Fa 1 20, Ld 1 21, Ca 12 [22], Nt 23] (sq 25 [Pk 17 24, Mv 25] (Sf 26 27 [Mv 3, Bk .gtr 27 0, Mv 28] (Sg 29 30 [Mv 0, Mv 3, Ia 2 30 31, La 2 32, Mv 0, Mv 3, Bk .sub 35 1, Ia 2 34 36, La 2 37, Io (.eqs false true [0, 0] (.t 33) (.t 38))] [Gf 26 (Pf 29 39 40), Pk 26 40 41]))))) [(23, 28)])
 (Ct 41 (Rs [Kb false 2]
 .ret)
 .skip)))
 (.reg (sq 8 [Mv 3, Bk .add 8 1] [Mv 9 3])))))))
 (Rs (sq 42 [Mv 0, Ln 42, Bk .leq 43 6] [Mv 44 2])
 .ret))), lcF []⟩
def Hl7 : List (List (Option Nat)) := [[none]]
def d37 (a0 : (List Pt)) : List Pt → Nat → Option (Bool ⊕ Unit)
 | [], k26 => some (.inr ())
 | x27 :: l28, k26 => (nm7 x27.x).bind fun x35 => if (!x35) = true then (some (.inl (false))) else ((nm7 x27.y).bind fun x37 => if (!x37) = true then (some (.inl (false))) else (if (decide ((k26 : Int) > 0)) = true then ((idx a0 (IntKind.i64.wrap ((k26 : Int) - 1))).bind fun x39 => if ((x27.x == x39.x) && ((x27.y == x39.y) && true)) = true then (some (.inl (false))) else (d37 a0 l28 (k26 + 1) )) else (d37 a0 l28 (k26 + 1) )))
def qi7 (a0 : (List Pt)) : Option Bool := if aH7 a0.length = true then ((d37 a0 a0 0 ).bind fun q => match q with | .inl r => some r | .inr q24 => some ((decide ((a0.length : Int) ≤ 6)))) else none
def DS7 : Con := ⟨(List Pt), Bool, 13, fun a => [.ro (List.map ePt a)], fun a => qi7 a, fun a r => ⟨[(false, [.v (.bool r)])], []⟩, fun a => []⟩
def Hm7 : IFn := ⟨28, [.inl 2],
 (Rs [Kb false 2]
 (.seq (Rs [Ki 0 3]
 (bU7 0 (.loop (.seq (Rs (sq 4 [Mv 3, Mv 0, Ls 5, Bb .lss 4 6] [])
 (Ct 7 .skip
 (.exit 0)))
 (.seq (.block 1 (Rs (sq 10 [Mv 0, Mv 3, Si 10 11, Io (.bin .lss (.t 12) (.c (.int .u8 97))), Mv 13] (Sf 14 15 [Mv 0, Mv 3, Si 15 16, Io (.bin .gtr (.t 17) (.c (.int .u8 122)))] [Pk 14 18 19]))
 (Ct 19 (Rs [Kb false 2]
 .ret)
 .skip)))
 (.reg (sq 8 [Mv 3, Bk .add 8 1] [Mv 9 3])))))))
 (Rs (sq 20 [Mv 0, Ls 20, Bk .geq 21 1, Mv 22] (Sg 23 24 [Mv 0, Ls 24, Bk .leq 25 6] [Pf 23 26 27, Mv 27 2]))
 .ret))), lcF []⟩
def Hn7 : List (List (Option Nat)) := [[none]]
def ff7 : List UInt8 → Nat → Option (Bool ⊕ Unit)
 | [], k10 => some (.inr ())
 | x11 :: l12, k10 => if (decide ((x11.toNat : Int) < 97)) = true then (some (.inl (false))) else (if (decide ((x11.toNat : Int) > 122)) = true then (some (.inl (false))) else (ff7 l12 (k10 + 1) ))
def gp7 (a0 : Str) : Option Bool := if aH7 a0.size = true then ((ff7 a0.data.toList 0 ).bind fun q => match q with | .inl r => some r | .inr q8 => if (decide ((a0.size : Int) ≥ 1)) = true then (some ((decide ((a0.size : Int) ≤ 6)))) else (some (false))) else none
def sx7 : Con := ⟨Str, Bool, 14, fun a => [.v (.string a)], fun a => gp7 a, fun a r => ⟨[(false, [.v (.bool r)])], []⟩, fun a => []⟩
def Ho7 : IFn := ⟨38, [.inl 2],
 (Rs (sq 1 [Io (.box 226 [none, some 66] (.t 0)), Kb false] [])
 (Rs (sq 4 [Fa 1 1, Ld 1 4, Ln 5] [Mv 6 3])
 (.seq (Rs (sq 7 [Fa 1 1, Ld 1 7, Ca 13 [8], Nt 9] [])
 (Ct 10 (Rs [Kb false 2]
 .ret)
 .skip))
 (.seq (Rs (sq 11 [Fa 0 1, Ld 1 11] [])
 (.block 0 (Rs [Bk .eql 12 1 14, Mv 14 13]
 (Ct 13 (Rs (sq 15 [Mv 3, Bk .eql 15 1] [Mv 16 2])
 .ret)
 (Rs [Bk .eql 12 2 18, Mv 18 17]
 (Ct 17 (Rs (sq 19 [Mv 3, Bk .geq 19 2] [Mv 20 2])
 .ret)
 (Rs [Bk .eql 12 3 22, Mv 22 21]
 (Ct 21 (.seq (.drw (sq 23 [Mv 3, Bk .geq 23 3, Mv 24] (Sg 25 26 [Fa 1 1, Ld 1 26, Ik 2 27 0, La 2 28, Fa 1 1, Ld 1 30, Mv 3, Bk .sub 32 1, Ia 2 31 33, La 2 34, Io (.eqs true true [0, 0] (.t 29) (.t 35))] [Pf 25 36 37, Mv 37 2])) [(4, 8), (6, 8), (4, 12), (6, 12)])
 .ret)
 .skip))))))))
 (Rs [Kb false 2]
 .ret))))), lcF []⟩
def Hp7 : List (List (Option Nat)) := [[none]]
def jQ7 (a0 : aD7) : Option Bool := (qi7 a0.pts).bind fun x2 => if (!x2) = true then (some (false)) else (if (a0.kind == 1) = true then (some (((a0.pts.length : Int) == 1))) else (if (a0.kind == 2) = true then (some ((decide ((a0.pts.length : Int) ≥ 2)))) else (if (a0.kind == 3) = true then (if (decide ((a0.pts.length : Int) ≥ 3)) = true then ((idx a0.pts 0).bind fun x4 => (idx a0.pts (IntKind.i64.wrap ((a0.pts.length : Int) - 1))).bind fun x6 => some ((!((x4.x == x6.x) && ((x4.y == x6.y) && true))))) else (some (false))) else (some (false)))))
def qj7 : Con := ⟨aD7, Bool, 15, fun a => [.agg [.v (.int .i64 a.kind), .ro (List.map ePt a.pts)]], fun a => jQ7 a, fun a r => ⟨[(false, [.v (.bool r)])], []⟩, fun a => []⟩
def Hq7 : IFn := ⟨47, [.inl 2],
 (Rs [Kb false 2]
 (.seq (Rs [Ki 0 3]
 (bU7 0 (.loop (.seq (Rs (sq 4 [Mv 3, Mv 0, Ln 5, Bb .lss 4 6] [])
 (Ct 7 .skip
 (.exit 0)))
 (.seq (.block 1 (.seq (.drw (sq 10 [Mv 0, Mv 3, Ia 2 10 11, Fa 0 12, Ld 1 13, Ca 14 [14], Nt 15, Mv 16] (Sf 17 18 [Mv 0, Mv 3, Ia 2 18 19, Fa 1 20, Ld 1 21, Ca 14 [22], Nt 23] (sq 25 [Pk 17 24, Mv 25] (Sf 26 27 [Mv 3, Bk .gtr 27 0, Mv 28] (Sg 29 30 [Mv 0, Mv 3, Ia 2 30 31, Fa 0 32, Ld 1 33, Mv 0, Mv 3, Bk .sub 36 1, Ia 2 35 37, Fa 0 38, Ld 1 39, Bb .leq 34 40] [Gf 26 (Pf 29 41 42), Pk 26 42 43]))))) [(24, 30)])
 (Ct 43 (Rs [Kb false 2]
 .ret)
 .skip)))
 (.reg (sq 8 [Mv 3, Bk .add 8 1] [Mv 9 3])))))))
 (Rs (sq 44 [Mv 0, Ln 44, Bk .leq 45 4] [Mv 46 2])
 .ret))), lcF []⟩
def Hr7 : List (List (Option Nat)) := [[none]]
def d47 (a0 : (List Tag)) : List Tag → Nat → Option (Bool ⊕ Unit)
 | [], k26 => some (.inr ())
 | x27 :: l28, k26 => (gp7 x27.key).bind fun x35 => if (!x35) = true then (some (.inl (false))) else ((gp7 x27.val).bind fun x37 => if (!x37) = true then (some (.inl (false))) else (if (decide ((k26 : Int) > 0)) = true then ((idx a0 (IntKind.i64.wrap ((k26 : Int) - 1))).bind fun x39 => if (slt x27.key x39.key || seq x27.key x39.key) = true then (some (.inl (false))) else (d47 a0 l28 (k26 + 1) )) else (d47 a0 l28 (k26 + 1) )))
def qk7 (a0 : (List Tag)) : Option Bool := if aH7 a0.length = true then ((d47 a0 a0 0 ).bind fun q => match q with | .inl r => some r | .inr q24 => some ((decide ((a0.length : Int) ≤ 4)))) else none
def DT7 : Con := ⟨(List Tag), Bool, 16, fun a => [.ro (List.map bb7 a)], fun a => qk7 a, fun a r => ⟨[(false, [.v (.bool r)])], []⟩, fun a => []⟩
def Hs7 : IFn := ⟨16, [.inl 2],
 (Rs (sq 1 [Io (.box 100 [none, none, some 66, some 82] (.t 0)), Kb false] [])
 (Rs (sq 3 [Fa 0 1, Ld 1 3, Ca 14 [4], Mv 5] (Sg 6 7 [Fa 1 1, La 2 7, Ca 15 [8]] (sq 10 [Pf 6 9, Mv 10] (Sg 11 12 [Fa 3 1, Ld 1 12, Ca 16 [13]] [Pf 11 14 15, Mv 15 2]))))
 .ret)), lcF []⟩
def Ht7 : List (List (Option Nat)) := [[none]]
def ls7 (a0 : Feat) : Option Bool := (gp7 a0.id).bind fun x2 => if x2 = true then ((jQ7 a0.shape).bind fun x4 => if x4 = true then ((qk7 a0.tags).bind fun x6 => some (x6)) else (some (false))) else (some (false))
def zW7 : Con := ⟨Feat, Bool, 17, fun a => [.agg [.v (.string a.id), .v (.int .i64 a.shape.kind), .ro (List.map ePt a.shape.pts), .ro (List.map bb7 a.tags)]], fun a => ls7 a, fun a r => ⟨[(false, [.v (.bool r)])], []⟩, fun a => []⟩
def Hu7 : IFn := ⟨26, [.inl 4],
 (Rs [Kb false 4]
 (.seq (Rs (sq 6 [Mv 0, Ln 6, Mv 1, Ln 8, Bb .neq 7 9] [])
 (Ct 10 (Rs [Kb false 4]
 .ret)
 .skip))
 (.seq (Rs [Ki 0 5]
 (bU7 0 (.loop (.seq (Rs (sq 11 [Mv 5, Mv 0, Ln 12, Bb .lss 11 13] [])
 (Ct 14 .skip
 (.exit 0)))
 (.seq (.block 1 (.seq (.drw (sq 17 [Mv 0, Mv 5, Ia 2 17 18, La 2 19, Mv 1, Mv 5, Ia 2 21 22, La 2 23, Io (.eqs true true [0, 0] (.t 20) (.t 24))] []) [(3, 7)])
 (Ct 25 (Rs [Kb false 4]
 .ret)
 .skip)))
 (.reg (sq 15 [Mv 5, Bk .add 15 1] [Mv 16 5])))))))
 (Rs [Kb true 4]
 .ret)))), lcF []⟩
def Hv7 : List (List (Option Nat)) := [[none]]
def fg7 (a1 : (List Pt)) : List Pt → Nat → Option (Bool ⊕ Unit)
 | [], k16 => some (.inr ())
 | x17 :: l18, k16 => (idx a1 (k16 : Int)).bind fun x25 => if (!((x17.x == x25.x) && ((x17.y == x25.y) && true))) = true then (some (.inl (false))) else (fg7 a1 l18 (k16 + 1) )
def lt7 (a0 : (List Pt)) (a1 : (List Pt)) : Option Bool := if ((a0.length : Int) != (a1.length : Int)) = true then (some (false)) else (if aH7 a0.length = true then ((fg7 a1 a0 0 ).bind fun q => match q with | .inl r => some r | .inr q14 => some (true)) else none)
def zX7 : Con := ⟨(List Pt) × (List Pt), Bool, 18, fun a => [.ro (List.map ePt a.1), .ro (List.map ePt a.2)], fun a => lt7 a.1 a.2, fun a r => ⟨[(false, [.v (.bool r)])], []⟩, fun a => []⟩
def Hw7 : IFn := ⟨17, [.inl 4],
 (Rs (sq 2 [Io (.box 226 [none, some 66] (.t 0)), Io (.box 226 [none, some 66] (.t 1)), Kb false] [])
 (Rs (sq 5 [Fa 0 2, Ld 1 5, Fa 0 3, Ld 1 7, Bb .eql 6 8, Mv 9] (Sg 10 11 [Fa 1 2, Ld 1 11, Fa 1 3, Ld 1 13, Ca 18 [12, 14]] [Pf 10 15 16, Mv 16 4]))
 .ret)), lcF []⟩
def Hx7 : List (List (Option Nat)) := [[none]]
def jR7 (a0 : aD7) (a1 : aD7) : Option Bool := if (a0.kind == a1.kind) = true then ((lt7 a0.pts a1.pts).bind fun x3 => some (x3)) else (some (false))
def zY7 : Con := ⟨aD7 × aD7, Bool, 19, fun a => [.agg [.v (.int .i64 a.1.kind), .ro (List.map ePt a.1.pts)], .agg [.v (.int .i64 a.2.kind), .ro (List.map ePt a.2.pts)]], fun a => jR7 a.1 a.2, fun a r => ⟨[(false, [.v (.bool r)])], []⟩, fun a => []⟩
def Hy7 : IFn := ⟨26, [.inl 4],
 (Rs [Kb false 4]
 (.seq (Rs (sq 6 [Mv 0, Ln 6, Mv 1, Ln 8, Bb .neq 7 9] [])
 (Ct 10 (Rs [Kb false 4]
 .ret)
 .skip))
 (.seq (Rs [Ki 0 5]
 (bU7 0 (.loop (.seq (Rs (sq 11 [Mv 5, Mv 0, Ln 12, Bb .lss 11 13] [])
 (Ct 14 .skip
 (.exit 0)))
 (.seq (.block 1 (.seq (.drw (sq 17 [Mv 0, Mv 5, Ia 2 17 18, La 2 19, Mv 1, Mv 5, Ia 2 21 22, La 2 23, Io (.eqs true true [2, 2] (.t 20) (.t 24))] []) [(3, 7)])
 (Ct 25 (Rs [Kb false 4]
 .ret)
 .skip)))
 (.reg (sq 15 [Mv 5, Bk .add 15 1] [Mv 16 5])))))))
 (Rs [Kb true 4]
 .ret)))), lcF []⟩
def Hz7 : List (List (Option Nat)) := [[none]]
def fh7 (a1 : (List Tag)) : List Tag → Nat → Option (Bool ⊕ Unit)
 | [], k16 => some (.inr ())
 | x17 :: l18, k16 => (idx a1 (k16 : Int)).bind fun x25 => if (!((x17.key == x25.key) && ((x17.val == x25.val) && true))) = true then (some (.inl (false))) else (fh7 a1 l18 (k16 + 1) )
def tV7 (a0 : (List Tag)) (a1 : (List Tag)) : Option Bool := if ((a0.length : Int) != (a1.length : Int)) = true then (some (false)) else (if aH7 a0.length = true then ((fh7 a1 a0 0 ).bind fun q => match q with | .inl r => some r | .inr q14 => some (true)) else none)
def DU7 : Con := ⟨(List Tag) × (List Tag), Bool, 20, fun a => [.ro (List.map bb7 a.1), .ro (List.map bb7 a.2)], fun a => tV7 a.1 a.2, fun a r => ⟨[(false, [.v (.bool r)])], []⟩, fun a => []⟩
def HA7 : IFn := ⟨24, [.inl 4],
 (Rs (sq 2 [Io (.box 100 [none, none, some 66, some 82] (.t 0)), Io (.box 100 [none, none, some 66, some 82] (.t 1)), Kb false] [])
 (Rs (sq 5 [Fa 0 2, Ld 1 5, Fa 0 3, Ld 1 7, Bb .eql 6 8, Mv 9] (Sg 10 11 [Fa 1 2, La 2 11, Fa 1 3, La 2 13, Ca 19 [12, 14]] (sq 16 [Pf 10 15, Mv 16] (Sg 17 18 [Fa 3 2, Ld 1 18, Fa 3 3, Ld 1 20, Ca 20 [19, 21]] [Pf 17 22 23, Mv 23 4]))))
 .ret)), lcF []⟩
def HB7 : List (List (Option Nat)) := [[none]]
def fU7 (a0 : Feat) (a1 : Feat) : Option Bool := if (seq a0.id a1.id) = true then ((jR7 a0.shape a1.shape).bind fun x3 => if x3 = true then ((tV7 a0.tags a1.tags).bind fun x5 => some (x5)) else (some (false))) else (some (false))
def lu7 : Con := ⟨Feat × Feat, Bool, 21, fun a => [.agg [.v (.string a.1.id), .v (.int .i64 a.1.shape.kind), .ro (List.map ePt a.1.shape.pts), .ro (List.map bb7 a.1.tags)], .agg [.v (.string a.2.id), .v (.int .i64 a.2.shape.kind), .ro (List.map ePt a.2.shape.pts), .ro (List.map bb7 a.2.tags)]], fun a => fU7 a.1 a.2, fun a r => ⟨[(false, [.v (.bool r)])], []⟩, fun a => []⟩
def HC7 : IFn := ⟨26, [.inl 4],
 (Rs [Kb false 4]
 (.seq (Rs (sq 6 [Mv 0, Ln 6, Mv 1, Ln 8, Bb .neq 7 9] [])
 (Ct 10 (Rs [Kb false 4]
 .ret)
 .skip))
 (.seq (Rs [Ki 0 5]
 (bU7 0 (.loop (.seq (Rs (sq 11 [Mv 5, Mv 0, Ln 12, Bb .lss 11 13] [])
 (Ct 14 .skip
 (.exit 0)))
 (.seq (.block 1 (.seq (.drw (sq 17 [Mv 0, Mv 5, Ia 1 17 18, Ld 1 19, Mv 1, Mv 5, Ia 1 21 22, Ld 1 23, Bb .neq 20 24] []) [(3, 7)])
 (Ct 25 (Rs [Kb false 4]
 .ret)
 .skip)))
 (.reg (sq 15 [Mv 5, Bk .add 15 1] [Mv 16 5])))))))
 (Rs [Kb true 4]
 .ret)))), lcF []⟩
def HD7 : List (List (Option Nat)) := [[none]]
def fi7 (a1 : (List Int)) : List Int → Nat → Option (Bool ⊕ Unit)
 | [], k16 => some (.inr ())
 | x17 :: l18, k16 => (idx a1 (k16 : Int)).bind fun x25 => if (x17 != x25) = true then (some (.inl (false))) else (fi7 a1 l18 (k16 + 1) )
def tW7 (a0 : (List Int)) (a1 : (List Int)) : Option Bool := if ((a0.length : Int) != (a1.length : Int)) = true then (some (false)) else (if aH7 a0.length = true then ((fi7 a1 a0 0 ).bind fun q => match q with | .inl r => some r | .inr q14 => some (true)) else none)
def DV7 : Con := ⟨(List Int) × (List Int), Bool, 22, fun a => [.ro (List.map bz7 a.1), .ro (List.map bz7 a.2)], fun a => tW7 a.1 a.2, fun a r => ⟨[(false, [.v (.bool r)])], []⟩, fun a => []⟩
def HE7 : IFn := ⟨27, [.inl 4],
 (Rs [Kb false 4]
 (.seq (Rs (sq 6 [Mv 0, Ln 6, Mv 1, Ln 8, Bb .neq 7 9] [])
 (Ct 10 (Rs [Kb false 4]
 .ret)
 .skip))
 (.seq (Rs [Ki 0 5]
 (bU7 0 (.loop (.seq (Rs (sq 11 [Mv 5, Mv 0, Ln 12, Bb .lss 11 13] [])
 (Ct 14 .skip
 (.exit 0)))
 (.seq (.block 1 (.seq (.drw (sq 17 [Mv 0, Mv 5, Ia 4 17 18, La 4 19, Mv 1, Mv 5, Ia 4 21 22, La 4 23, Ca 21 [20, 24], Nt 25] []) [(3, 7)])
 (Ct 26 (Rs [Kb false 4]
 .ret)
 .skip)))
 (.reg (sq 15 [Mv 5, Bk .add 15 1] [Mv 16 5])))))))
 (Rs [Kb true 4]
 .ret)))), lcF []⟩
def HF7 : List (List (Option Nat)) := [[none]]
def fj7 (a1 : (List Feat)) : List Feat → Nat → Option (Bool ⊕ Unit)
 | [], k22 => some (.inr ())
 | x23 :: l24, k22 => (idx a1 (k22 : Int)).bind fun x31 => (fU7 x23 x31).bind fun x33 => if (!x33) = true then (some (.inl (false))) else (fj7 a1 l24 (k22 + 1) )
def tX7 (a0 : (List Feat)) (a1 : (List Feat)) : Option Bool := if ((a0.length : Int) != (a1.length : Int)) = true then (some (false)) else (if aH7 a0.length = true then ((fj7 a1 a0 0 ).bind fun q => match q with | .inl r => some r | .inr q20 => some (true)) else none)
def DW7 : Con := ⟨(List Feat) × (List Feat), Bool, 23, fun a => [.ro (List.map (aj7 false) a.1), .ro (List.map (aj7 false) a.2)], fun a => tX7 a.1 a.2, fun a r => ⟨[(false, [.v (.bool r)])], []⟩, fun a => []⟩
def HG7 : IFn := ⟨24, [.inl 4],
 (Rs (sq 2 [Io (.box 115 [some 17, some 100, none] (.t 0)), Io (.box 115 [some 17, some 100, none] (.t 1)), Kb false] [])
 (Rs (sq 5 [Fa 0 2, Ld 1 5, Fa 0 3, Ld 1 7, Ca 22 [6, 8], Mv 9] (Sg 10 11 [Fa 1 2, Ld 1 11, Fa 1 3, Ld 1 13, Ca 23 [12, 14]] (sq 16 [Pf 10 15, Mv 16] (Sg 17 18 [Fa 2 2, Ld 1 18, Fa 2 3, Ld 1 20, Bb .eql 19 21] [Pf 17 22 23, Mv 23 4]))))
 .ret)), lcF []⟩
def HH7 : List (List (Option Nat)) := [[none]]
def ql7 (a0 : Commit) (a1 : Commit) : Option Bool := (tW7 a0.up a1.up).bind fun x3 => if x3 = true then ((tX7 a0.sheet a1.sheet).bind fun x5 => if x5 = true then (some ((seq a0.note a1.note))) else (some (false))) else (some (false))
def DX7 : Con := ⟨Commit × Commit, Bool, 24, fun a => [.agg [.ro (List.map bz7 a.1.up), .ro (List.map (aj7 false) a.1.sheet), .v (.string a.1.note)], .agg [.ro (List.map bz7 a.2.up), .ro (List.map (aj7 false) a.2.sheet), .v (.string a.2.note)]], fun a => ql7 a.1 a.2, fun a r => ⟨[(false, [.v (.bool r)])], []⟩, fun a => []⟩
def HI7 : IFn := ⟨50, [.inl 4],
 (Rs [Kb false 4]
 (.seq (Rs [Ki 0 5]
 (bU7 0 (.loop (.seq (Rs (sq 6 [Mv 5, Mv 0, Ln 7, Bb .lss 6 8] [])
 (Ct 9 .skip
 (.exit 0)))
 (.seq (.block 1 (Rs (sq 12 [Mv 0, Mv 5, Ia 1 12 13, Ld 1 14, Bk .lss 15 0, Mv 16] (Sf 17 18 [Mv 0, Mv 5, Ia 1 18 19, Ld 1 20, Mv 1, Bb .geq 21 22] [Pk 17 23 24]))
 (Ct 24 (Rs [Kb false 4]
 .ret)
 .skip)))
 (.reg (sq 10 [Mv 5, Bk .add 10 1] [Mv 11 5])))))))
 (.seq (.drw (sq 25 [Mv 0, Ln 25, Bk .leq 26 2, Mv 27] (Sg 28 29 [Mv 0, Ln 29, Bk .gtr 30 0, Mv 1, Bk .gtr 32 0, Io (.eqs false false [1] (.t 31) (.t 33))] (sq 35 [Pf 28 34, Mv 35] (Sg 36 37 [Mv 0, Ln 37, Bk .lss 38 2, Mv 39] (Sf 40 41 [Mv 0, Ik 1 41 0, Ld 1 42, Mv 0, Ik 1 44 1, Ld 1 45, Bb .neq 43 46] [Gt 36 (Pk 40 47 48), Pf 36 48 49, Mv 49 4]))))) [(18, 21)])
 .ret))), lcF []⟩
def HJ7 : List (List (Option Nat)) := [[none]]
def fk7 (a1 : Int) : List Int → Nat → Option (Bool ⊕ Unit)
 | [], k10 => some (.inr ())
 | x11 :: l12, k10 => if (decide (x11 < 0)) = true then (some (.inl (false))) else (if (decide (x11 ≥ a1)) = true then (some (.inl (false))) else (fk7 a1 l12 (k10 + 1) ))
def qm7 (a0 : (List Int)) (a1 : Int) : Option Bool := if aH7 a0.length = true then ((fk7 a1 a0 0 ).bind fun q => match q with | .inl r => some r | .inr q8 => if (decide ((a0.length : Int) ≤ 2)) = true then (if ((decide ((a0.length : Int) > 0)) == (decide (a1 > 0))) = true then (if (decide ((a0.length : Int) < 2)) = true then (some (true)) else ((idx a0 0).bind fun x19 => (idx a0 1).bind fun x21 => some ((x19 != x21)))) else (some (false))) else (some (false))) else none
def DY7 : Con := ⟨(List Int) × Int, Bool, 25, fun a => [.ro (List.map bz7 a.1), .v (.int .i64 a.2)], fun a => qm7 a.1 a.2, fun a r => ⟨[(false, [.v (.bool r)])], []⟩, fun a => []⟩
def HK7 : IFn := ⟨37, [.inl 2],
 (Rs [Kb false 2]
 (.seq (Rs [Ki 0 3]
 (bU7 0 (.loop (.seq (Rs (sq 4 [Mv 3, Mv 0, Ln 5, Bb .lss 4 6] [])
 (Ct 7 .skip
 (.exit 0)))
 (.seq (.block 1 (.seq (.drw (sq 10 [Mv 0, Mv 3, Ia 4 10 11, La 4 12, Ca 17 [13], Nt 14, Mv 15] (Sf 16 17 [Mv 3, Bk .gtr 17 0, Mv 18] (Sg 19 20 [Mv 0, Mv 3, Ia 4 20 21, Fa 0 22, Ld 1 23, Mv 0, Mv 3, Bk .sub 26 1, Ia 4 25 27, Fa 0 28, Ld 1 29, Bb .leq 24 30] [Gf 16 (Pf 19 31 32), Pk 16 32 33]))) [(14, 20)])
 (Ct 33 (Rs [Kb false 2]
 .ret)
 .skip)))
 (.reg (sq 8 [Mv 3, Bk .add 8 1] [Mv 9 3])))))))
 (Rs (sq 34 [Mv 0, Ln 34, Bk .leq 35 8] [Mv 36 2])
 .ret))), lcF []⟩
def HL7 : List (List (Option Nat)) := [[none]]
def d57 (a0 : (List Feat)) : List Feat → Nat → Option (Bool ⊕ Unit)
 | [], k20 => some (.inr ())
 | x21 :: l22, k20 => (ls7 x21).bind fun x29 => if (!x29) = true then (some (.inl (false))) else (if (decide ((k20 : Int) > 0)) = true then ((idx a0 (IntKind.i64.wrap ((k20 : Int) - 1))).bind fun x31 => if (slt x21.id x31.id || seq x21.id x31.id) = true then (some (.inl (false))) else (d57 a0 l22 (k20 + 1) )) else (d57 a0 l22 (k20 + 1) ))
def g87 (a0 : (List Feat)) : Option Bool := if aH7 a0.length = true then ((d57 a0 a0 0 ).bind fun q => match q with | .inl r => some r | .inr q18 => some ((decide ((a0.length : Int) ≤ 8)))) else none
def sy7 : Con := ⟨(List Feat), Bool, 26, fun a => [.ro (List.map (aj7 false) a)], fun a => g87 a, fun a r => ⟨[(false, [.v (.bool r)])], []⟩, fun a => []⟩
def HM7 : IFn := ⟨21, [.inl 4],
 (Rs (sq 2 [Io (.box 210 [some 115, some 130] (.t 0)), Io (.box 115 [some 17, some 100, none] (.t 1)), Ki 0] [])
 (.seq (Rs [Ki 0 5]
 (bU7 0 (.loop (.seq (Rs (sq 6 [Mv 5, Fa 0 2, Ld 1 7, Ln 8, Bb .lss 6 9] [])
 (Ct 10 .skip
 (.exit 0)))
 (.seq (.block 1 (.seq (.drw (sq 13 [Fa 0 2, Ld 1 13, Mv 5, Ia 3 14 15, La 3 16, La 3 3, Ca 24 [17, 18]] []) [(1, 5), (4, 5)])
 (Ct 19 (Rs [Mv 5 20, Mv 20 4]
 .ret)
 .skip)))
 (.reg (sq 11 [Mv 5, Bk .add 11 1] [Mv 12 5])))))))
 (Rs [Ki (-1) 4]
 .ret))), lcF []⟩
def HN7 : List (List (Option Nat)) := [[none]]
def fl7 (a1 : Commit) : List Commit → Nat → Option (Int ⊕ Unit)
 | [], k18 => some (.inr ())
 | x19 :: l20, k18 => (ql7 x19 a1).bind fun x27 => if x27 = true then (some (.inl ((k18 : Int)))) else (fl7 a1 l20 (k18 + 1) )
def nn7 (a0 : aF7) (a1 : Commit) : Option Int := if aH7 a0.commits.length = true then ((fl7 a1 a0.commits 0 ).bind fun q => match q with | .inl r => some r | .inr q16 => some ((-1))) else none
def zZ7 : Con := ⟨aF7 × Commit, Int, 27, fun a => [.agg [.ro (List.map (am7 false) a.1.commits), .ro (List.map aW7 a.1.heads)], .agg [.ro (List.map bz7 a.2.up), .ro (List.map (aj7 false) a.2.sheet), .v (.string a.2.note)]], fun a => nn7 a.1 a.2, fun a r => ⟨[(false, [.v (.int .i64 r)])], []⟩, fun a => []⟩
def HO7 : IFn := ⟨22, [.inl 4],
 (Rs [Io (.box 210 [some 115, some 130] (.t 0)) 2, Ki 0 4]
 (.seq (Rs [Ki 0 5]
 (bU7 0 (.loop (.seq (Rs (sq 6 [Mv 5, Fa 1 2, Ld 1 7, Ln 8, Bb .lss 6 9] [])
 (Ct 10 .skip
 (.exit 0)))
 (.seq (.block 1 (Rs (sq 13 [Fa 1 2, Ld 1 13, Mv 5, Ia 2 14 15, Fa 0 16, Ld 1 17, Mv 1, Bb .eql 18 19] [])
 (Ct 20 (Rs [Mv 5 21, Mv 21 4]
 .ret)
 .skip)))
 (.reg (sq 11 [Mv 5, Bk .add 11 1] [Mv 12 5])))))))
 (Rs [Ki (-1) 4]
 .ret))), lcF []⟩
def HP7 : List (List (Option Nat)) := [[none]]
def fm7 (a1 : Str) : List Head → Nat → Option (Int ⊕ Unit)
 | [], k11 => some (.inr ())
 | x12 :: l13, k11 => if (seq x12.name a1) = true then (some (.inl ((k11 : Int)))) else (fm7 a1 l13 (k11 + 1) )
def jS7 (a0 : aF7) (a1 : Str) : Option Int := if aH7 a0.heads.length = true then ((fm7 a1 a0.heads 0 ).bind fun q => match q with | .inl r => some r | .inr q9 => some ((-1))) else none
def vv7 : Con := ⟨aF7 × Str, Int, 28, fun a => [.agg [.ro (List.map (am7 false) a.1.commits), .ro (List.map aW7 a.1.heads)], .v (.string a.2)], fun a => jS7 a.1 a.2, fun a r => ⟨[(false, [.v (.int .i64 r)])], []⟩, fun a => []⟩
def HQ7 : IFn := ⟨10, [.inr (2, 2)],
 (Rs (sq 1 [Io (.box 226 [none, some 66] (.t 0)), Io (.alloc 226 [.v (.int .i64 0), .sl true 66 []])] [])
 (.seq (.drw (sq 3 [Fa 0 1, Ld 1 3, Io (.lit 66 [none, none] [.v (.int .i64 0), .v (.int .i64 0)] 0 []), Fa 1 1, Ld 1 6, Io (.app 66 false (.t 5) (.t 7)), Io (.build [.v (.int .i64 0), .nil] [(0, 1, .t 4), (1, 1, .t 8)])] [Sv [none, some 66] 2 9]) [(1, 2), (1, 4), (2, 4), (1, 5)])
 .ret)), lcF []⟩
def HR7 : List (List (Option Nat)) := [[none, some 66]]
def lv7 (a0 : aD7) : Option aD7 := if aH7 ([] ++ a0.pts).length = true then some ((⟨a0.kind, ([] ++ a0.pts)⟩ : aD7)) else none
def z07 : Con := ⟨aD7, aD7, 29, fun a => [.agg [.v (.int .i64 a.kind), .ro (List.map ePt a.pts)]], fun a => lv7 a, fun a r => ⟨[(true, g67 true r)], []⟩, fun a => []⟩
def HS7 : IFn := ⟨13, [.inr (2, 4)],
 (Rs (sq 1 [Io (.box 100 [none, none, some 66, some 82] (.t 0)), Io (.alloc 100 [.v (.string ⟨#[]⟩), .v (.int .i64 0), .sl true 66 [], .sl true 82 []])] [])
 (.seq (.drw (sq 3 [Fa 0 1, Ld 1 3, Fa 1 1, La 2 5, Ca 29 [6], Io (.lit 82 [none, none] [.v (.string ⟨#[]⟩), .v (.string ⟨#[]⟩)] 0 []), Fa 3 1, Ld 1 9, Io (.app 82 false (.t 8) (.t 10)), Io (.build [.v (.string ⟨#[]⟩), .v (.int .i64 0), .nil, .nil] [(0, 1, .t 4), (1, 2, .t 7), (3, 1, .t 11)])] [Sv [none, none, some 66, some 82] 2 12]) [(1, 3), (1, 4), (1, 5), (3, 5), (4, 5), (1, 7), (3, 7), (4, 7), (5, 7), (1, 8)])
 .ret)), lcF []⟩
def HT7 : List (List (Option Nat)) := [[none, none, some 66, some 82]]
def g97 (a0 : Feat) : Option Feat := (lv7 a0.shape).bind fun x3 => if aH7 ([] ++ a0.tags).length = true then some ((⟨a0.id, x3, ([] ++ a0.tags)⟩ : Feat)) else none
def qn7 : Con := ⟨Feat, Feat, 30, fun a => [.agg [.v (.string a.id), .v (.int .i64 a.shape.kind), .ro (List.map ePt a.shape.pts), .ro (List.map bb7 a.tags)]], fun a => g97 a, fun a r => ⟨[(true, aj7 true r)], []⟩, fun a => []⟩
def HU7 : IFn := ⟨21, [.inl 2],
 (Rs [Io (.mv (.c (.slice none 0 0))) 2]
 (Rs [Io (.lit 100 [none, none, some 66, some 82] [.v (.string ⟨#[]⟩), .v (.int .i64 0), .sl true 66 [], .sl true 82 []] 0 []) 5, Mv 5 3]
 (.seq (Rs [Ki 0 4]
 (bU7 0 (.loop (.seq (Rs (sq 6 [Mv 4, Mv 0, Ln 7, Bb .lss 6 8] [])
 (Ct 9 .skip
 (.exit 0)))
 (.seq (.block 1 (.reg (sq 12 [Mv 3, Mv 0, Mv 4, Ia 4 13 14, La 4 15, Ca 30 [16], Io (.lit 100 [none, none, some 66, some 82] [.v (.string ⟨#[]⟩), .v (.int .i64 0), .sl true 66 [], .sl true 82 []] 1 [(0, .t 17)]), Io (.app 100 true (.t 12) (.t 18))] [Mv 19 3])))
 (.reg (sq 10 [Mv 4, Bk .add 10 1] [Mv 11 4])))))))
 (Rs [Mv 3 20, Mv 20 2]
 .ret)))), lcF []⟩
def HV7 : List (List (Option Nat)) := [[some 100]]
def gR7 : List Feat → Nat → (List Feat) → Option (List Feat)
 | [], k47, v44 => some v44
 | x48 :: l49, k47, v44 => (g97 x48).bind fun x56 => if aH7 (v44 ++ ([x56] : (List Feat))).length = true then gR7 l49 (k47 + 1) (v44 ++ ([x56] : (List Feat))) else none
def no7 (a0 : (List Feat)) : Option (List Feat) := if aH7 a0.length = true then ((gR7 a0 0 []).bind fun q42 => some (q42)) else none
def z17 : Con := ⟨(List Feat), (List Feat), 31, fun a => [.ro (List.map (aj7 false) a)], fun a => no7 a, fun a r => ⟨[(false, [sl true 100 (List.map (aj7 true) r)])], []⟩, fun a => []⟩
def HW7 : IFn := ⟨13, [.inr (2, 3)],
 (Rs (sq 1 [Io (.box 115 [some 17, some 100, none] (.t 0)), Io (.alloc 115 [.sl true 17 [], .sl true 100 [], .v (.string ⟨#[]⟩)])] [])
 (.seq (.drw (sq 3 [Io (.lit 17 [none] [.v (.int .i64 0)] 0 []), Fa 0 1, Ld 1 4, Io (.app 17 false (.t 3) (.t 5)), Fa 1 1, Ld 1 7, Ca 31 [8], Fa 2 1, Ld 1 10, Io (.build [.nil, .nil, .v (.string ⟨#[]⟩)] [(0, 1, .t 6), (1, 1, .t 9), (2, 1, .t 11)])] [Sv [some 17, some 100, none] 2 12]) [(0, 2), (0, 5), (2, 5), (3, 5), (0, 8), (2, 8), (3, 8), (5, 8), (6, 8)])
 .ret)), lcF []⟩
def HX7 : List (List (Option Nat)) := [[some 17, some 100, none]]
def np7 (a0 : Commit) : Option Commit := if aH7 ([] ++ a0.up).length = true then (no7 a0.sheet).bind fun x7 => some ((⟨([] ++ a0.up), x7, a0.note⟩ : Commit)) else none
def z27 : Con := ⟨Commit, Commit, 32, fun a => [.agg [.ro (List.map bz7 a.up), .ro (List.map (aj7 false) a.sheet), .v (.string a.note)]], fun a => np7 a, fun a r => ⟨[(true, am7 true r)], []⟩, fun a => []⟩
def HY7 : IFn := ⟨102, [.inl 2],
 (Rs (sq 1 [Io (.box 210 [some 115, some 130] (.t 0)), Kb false] [])
 (.seq (Rs (sq 7 [Fa 0 1, Ld 1 7, Ln 8, Bk .lss 9 1, Mv 10] (Sf 11 12 [Fa 0 1, Ld 1 12, Ln 13, Bk .gtr 14 14] (sq 16 [Pk 11 15, Mv 16] (Sf 17 18 [Fa 1 1, Ld 1 18, Ln 19, Bk .lss 20 1] (sq 22 [Pk 17 21, Mv 22] (Sf 23 24 [Fa 1 1, Ld 1 24, Ln 25, Bk .gtr 26 4] [Pk 23 27 28]))))))
 (Ct 28 (Rs [Kb false 2]
 .ret)
 .skip))
 (.seq (Rs [Ki 0 3]
 (bU7 0 (.loop (.seq (Rs (sq 29 [Mv 3, Fa 0 1, Ld 1 30, Ln 31, Bb .lss 29 32] [])
 (Ct 33 .skip
 (.exit 0)))
 (.seq (.block 1 (Rs (sq 36 [Fa 0 1, Ld 1 36, Mv 3, Ia 3 37 38, La 3 39] [Io (.alloc 115 [.sl true 17 [], .sl true 100 [], .v (.string ⟨#[]⟩)]) 4, Sv [some 17, some 100, none] 4 40])
 (Rs (sq 41 [Fa 0 4, Ld 1 41, Mv 3, Ca 25 [42, 43], Nt 44, Mv 45] (Sf 46 47 [Fa 1 4, Ld 1 47, Ca 26 [48], Nt 49] (sq 51 [Pk 46 50, Mv 51] (Sf 52 53 [Fa 2 4, Ld 1 53, Ca 14 [54], Nt 55] (sq 57 [Pk 52 56, Mv 57] (Sf 58 59 [La 2 1, La 3 4, Ca 27 [59, 60], Mv 3, Bb .neq 61 62] [Pk 58 63 64]))))))
 (Ct 64 (Rs [Kb false 2]
 .ret)
 .skip))))
 (.reg (sq 34 [Mv 3, Bk .add 34 1] [Mv 35 3])))))))
 (.seq (Rs [Ki 0 5]
 (bU7 2 (.loop (.seq (Rs (sq 65 [Mv 5, Fa 1 1, Ld 1 66, Ln 67, Bb .lss 65 68] [])
 (Ct 69 .skip
 (.exit 2)))
 (.seq (.block 3 (Rs (sq 72 [Fa 1 1, Ld 1 72, Mv 5, Ia 2 73 74, La 2 75] [Io (.alloc 130 [.v (.string ⟨#[]⟩), .v (.int .i64 0)]) 6, Sv [none, none] 6 76])
 (Rs (sq 77 [Fa 0 6, Ld 1 77, Ca 14 [78], Nt 79, Mv 80] (Sf 81 82 [La 2 1, Fa 0 6, Ld 1 83, Ca 28 [82, 84], Mv 5, Bb .neq 85 86] (sq 88 [Pk 81 87, Mv 88] (Sf 89 90 [Fa 1 6, Ld 1 90, Bk .lss 91 0] (sq 93 [Pk 89 92, Mv 93] (Sf 94 95 [Fa 1 6, Ld 1 95, Fa 0 1, Ld 1 97, Ln 98, Bb .geq 96 99] [Pk 94 100 101]))))))
 (Ct 101 (Rs [Kb false 2]
 .ret)
 .skip))))
 (.reg (sq 70 [Mv 5, Bk .add 70 1] [Mv 71 5])))))))
 (Rs [Kb true 2]
 .ret))))), lcF []⟩
def HZ7 : List (List (Option Nat)) := [[none]]
def d67 (a0 : aF7) : List Commit → Nat → Option (Bool ⊕ Unit)
 | [], k38 => some (.inr ())
 | x39 :: l40, k38 => (qm7 x39.up (k38 : Int)).bind fun x48 => if (!x48) = true then (some (.inl (false))) else ((g87 x39.sheet).bind fun x50 => if (!x50) = true then (some (.inl (false))) else ((gp7 x39.note).bind fun x52 => if (!x52) = true then (some (.inl (false))) else ((nn7 a0 x39).bind fun x54 => if (x54 != (k38 : Int)) = true then (some (.inl (false))) else (d67 a0 l40 (k38 + 1) ))))
def d77 (a0 : aF7) : List Head → Nat → Option (Bool ⊕ Unit)
 | [], k80 => some (.inr ())
 | x81 :: l82, k80 => (gp7 x81.name).bind fun x90 => if (!x90) = true then (some (.inl (false))) else ((jS7 a0 x81.name).bind fun x92 => if (x92 != (k80 : Int)) = true then (some (.inl (false))) else (if (decide (x81.at_ < 0)) = true then (some (.inl (false))) else (if (decide (x81.at_ ≥ (a0.commits.length : Int))) = true then (some (.inl (false))) else (d77 a0 l82 (k80 + 1) ))))
def nq7 (a0 : aF7) : Option Bool := if (decide ((a0.commits.length : Int) < 1)) = true then (some (false)) else (if (decide ((a0.commits.length : Int) > 14)) = true then (some (false)) else (if (decide ((a0.heads.length : Int) < 1)) = true then (some (false)) else (if (decide ((a0.heads.length : Int) > 4)) = true then (some (false)) else (if aH7 a0.commits.length = true then ((d67 a0 a0.commits 0 ).bind fun q => match q with | .inl r => some r | .inr q36 => if aH7 a0.heads.length = true then ((d77 a0 a0.heads 0 ).bind fun q => match q with | .inl r => some r | .inr q78 => some (true)) else none) else none))))
def z37 : Con := ⟨aF7, Bool, 33, fun a => [.agg [.ro (List.map (am7 false) a.commits), .ro (List.map aW7 a.heads)]], fun a => nq7 a, fun a r => ⟨[(false, [.v (.bool r)])], []⟩, fun a => []⟩
def H07 : IFn := ⟨18, [.inl 4],
 (Rs [Io (.box 210 [some 115, some 130] (.t 0)) 2, Kb false 4]
 (Rs (sq 5 [La 2 2, Ca 33 [5], Mv 6] (Sg 7 8 [Mv 1, Bk .geq 8 0] (sq 10 [Pf 7 9, Mv 10] (Sg 11 12 [Mv 1, Fa 0 2, Ld 1 13, Ln 14, Bb .lss 12 15] [Pf 11 16 17, Mv 17 4]))))
 .ret)), lcF []⟩
def H17 : List (List (Option Nat)) := [[none]]
def nr7 (a0 : aF7) (a1 : Int) : Option Bool := (nq7 a0).bind fun x2 => if x2 = true then (if (decide (a1 ≥ 0)) = true then (some ((decide (a1 < (a0.commits.length : Int))))) else (some (false))) else (some (false))
def DZ7 : Con := ⟨aF7 × Int, Bool, 34, fun a => [.agg [.ro (List.map (am7 false) a.1.commits), .ro (List.map aW7 a.1.heads)], .v (.int .i64 a.2)], fun a => nr7 a.1 a.2, fun a r => ⟨[(false, [.v (.bool r)])], []⟩, fun a => []⟩
def H27 : IFn := ⟨62, [.inl 4],
 (Rs [Io (.box 210 [some 115, some 130] (.t 0)) 2, Io (.mv (.c (.slice none 0 0))) 4]
 (Rs (sq 9 [Fa 0 2, Ld 1 9, Ln 10, Io (.mks 33 [.v (.bool false)] (.t 11) (.t 11))] [Mv 12 5])
 (.seq (Rs [Ki 0 6]
 (bU7 0 (.loop (.seq (Rs (sq 13 [Mv 6, Mv 1, Ln 14, Bb .lss 13 15] [])
 (Ct 16 .skip
 (.exit 0)))
 (.seq (.block 1 (.reg (sq 19 [Mv 5, Mv 1, Mv 6, Ia 1 20 21, Ld 1 22, Ia 1 19 23] [Iz (.store [none] (.t 24) (.c (.bool true)))])))
 (.reg (sq 17 [Mv 6, Bk .add 17 1] [Mv 18 6])))))))
 (.seq (Rs (sq 25 [Fa 0 2, Ld 1 25, Ln 26, Bk .sub 27 1] [Mv 28 7])
 (bU7 2 (.loop (.seq (Rs (sq 29 [Mv 7, Bk .geq 29 0] [])
 (Ct 30 .skip
 (.exit 2)))
 (.seq (.block 3 (Rs [Ki 0 8]
 (bU7 4 (.loop (.seq (Rs (sq 33 [Mv 8, Fa 0 2, Ld 1 34, Mv 7, Ia 3 35 36, Fa 0 37, Ld 1 38, Ln 39, Bb .lss 33 40, Mv 41] (Sg 42 43 [Mv 5, Mv 7, Ia 1 43 44, Ld 1 45] [Pf 42 46 47]))
 (Ct 47 .skip
 (.exit 4)))
 (.seq (.block 5 (.reg (sq 50 [Mv 5, Fa 0 2, Ld 1 51, Mv 7, Ia 3 52 53, Fa 0 54, Ld 1 55, Mv 8, Ia 1 56 57, Ld 1 58, Ia 1 50 59] [Iz (.store [none] (.t 60) (.c (.bool true)))])))
 (.reg (sq 48 [Mv 8, Bk .add 48 1] [Mv 49 8]))))))))
 (.reg (sq 31 [Mv 7, Bk .sub 31 1] [Mv 32 7])))))))
 (Rs [Mv 5 61, Mv 61 4]
 .ret))))), lcF []⟩
def H37 : List (List (Option Nat)) := [[some 33]]
def fn7 : List Int → Nat → (List Bool) → Option (List Bool)
 | [], k26, v23 => some v23
 | x27 :: l28, k26, v23 => (idx v23 x27).bind fun x35 => fn7 l28 (k26 + 1) (List.set v23 x27.toNat true)
def dc7 (a0 : aF7) (v180 : Int) : Nat → Int → (List Bool) → Option (List Bool)
 | 0, _, _ => none
 | n218 + 1, v214, v215 => (idx a0.commits v180).bind fun x219 => if (decide (v214 < (x219.up.length : Int))) = true then ((idx v215 v180).bind fun x221 => if x221 = true then ((idx x219.up v214).bind fun x223 => (idx v215 x223).bind fun x225 => dc7 a0 v180 n218 (IntKind.i64.wrap (v214 + 1)) (List.set v215 x223.toNat true)) else (some v215)) else (some v215)
def fo7 (a0 : aF7) : Nat → Int → (List Bool) → Option (List Bool)
 | 0, _, _ => none
 | n184 + 1, v180, v181 => if (decide (v180 ≥ 0)) = true then ((dc7 a0 v180 aP7 0 v181).bind fun q213 => fo7 a0 n184 (IntKind.i64.wrap (v180 - 1)) q213) else (some v181)
def lw7 (a0 : aF7) (a1 : (List Int)) : Option (List Bool) := if (decide (0 ≤ (a0.commits.length : Int)) && aH7 ((a0.commits.length : Int)).toNat) = true then if aH7 a1.length = true then ((fn7 a1 0 (List.replicate ((a0.commits.length : Int)).toNat false)).bind fun q21 => (fo7 a0 aP7 (IntKind.i64.wrap ((a0.commits.length : Int) - 1)) q21).bind fun q179 => some (q179)) else none else none
def D07 : Con := ⟨aF7 × (List Int), (List Bool), 35, fun a => [.agg [.ro (List.map (am7 false) a.1.commits), .ro (List.map aW7 a.1.heads)], .ro (List.map bz7 a.2)], fun a => lw7 a.1 a.2, fun a r => ⟨[(false, [sl true 33 (List.map bI7 r)])], []⟩, fun a => []⟩
def H47 : IFn := ⟨89, [.inl 6],
 (Rs [Io (.box 210 [some 115, some 130] (.t 0)) 3, Io (.mv (.c (.slice none 0 0))) 6]
 (Rs [Io (.lit 17 [none] [.v (.int .i64 0)] 0 []) 13, Mv 13 7]
 (.seq (Rs (sq 14 [La 2 3, Mv 1, Ca 34 [14, 15], Nt 16, Mv 17] (Sf 18 19 [La 2 3, Mv 2, Ca 34 [19, 20], Nt 21] [Pk 18 22 23]))
 (Ct 23 (Rs [Mv 7 24, Mv 24 6]
 .ret)
 .skip))
 (Rs (sq 25 [La 2 3, Mv 1, Io (.lit 17 [none] [.v (.int .i64 0)] 1 [(0, .t 26)]), Ca 35 [25, 27]] [Mv 28 8])
 (Rs (sq 29 [La 2 3, Mv 2, Io (.lit 17 [none] [.v (.int .i64 0)] 1 [(0, .t 30)]), Ca 35 [29, 31]] [Mv 32 9])
 (Rs (sq 33 [Fa 0 3, Ld 1 33, Ln 34, Io (.mks 33 [.v (.bool false)] (.t 35) (.t 35))] [Mv 36 10])
 (.seq (Rs (sq 37 [Fa 0 3, Ld 1 37, Ln 38, Bk .sub 39 1] [Mv 40 11])
 (bU7 0 (.loop (.seq (Rs (sq 41 [Mv 11, Bk .geq 41 0] [])
 (Ct 42 .skip
 (.exit 0)))
 (.seq (.block 1 (.seq (Rs (sq 45 [Mv 8, Mv 11, Ia 1 45 46, Ld 1 47, Nt 48, Mv 49] (Sf 50 51 [Mv 9, Mv 11, Ia 1 51 52, Ld 1 53, Nt 54] [Pk 50 55 56]))
 (Ct 56 (.exit 1)
 .skip))
 (eH7 (Rs (sq 57 [Mv 10, Mv 11, Ia 1 57 58, Ld 1 59, Nt 60] [])
 (Ct 61 (.reg (sq 62 [Mv 7, Mv 11, Io (.lit 17 [none] [.v (.int .i64 0)] 1 [(0, .t 63)]), Io (.app 17 true (.t 62) (.t 64))] [Mv 65 7]))
 .skip))
 (Rs [Ki 0 12]
 (bU7 2 (.loop (.seq (Rs (sq 66 [Mv 12, Fa 0 3, Ld 1 67, Mv 11, Ia 3 68 69, Fa 0 70, Ld 1 71, Ln 72, Bb .lss 66 73] [])
 (Ct 74 .skip
 (.exit 2)))
 (.seq (.block 3 (.reg (sq 77 [Mv 10, Fa 0 3, Ld 1 78, Mv 11, Ia 3 79 80, Fa 0 81, Ld 1 82, Mv 12, Ia 1 83 84, Ld 1 85, Ia 1 77 86] [Iz (.store [none] (.t 87) (.c (.bool true)))])))
 (.reg (sq 75 [Mv 12, Bk .add 75 1] [Mv 76 12]))))))))))
 (.reg (sq 43 [Mv 11, Bk .sub 43 1] [Mv 44 11])))))))
 (Rs [Mv 7 88, Mv 88 6]
 .ret)))))))), lcF []⟩
def H57 : List (List (Option Nat)) := [[some 17]]
def dz7 (a0 : aF7) (v199 : Int) : Nat → Int → (List Bool) → Option (List Bool)
 | 0, _, _ => none
 | n254 + 1, v250, v251 => (idx a0.commits v199).bind fun x255 => if (decide (v250 < (x255.up.length : Int))) = true then ((idx x255.up v250).bind fun x257 => (idx v251 x257).bind fun x259 => dz7 a0 v199 n254 (IntKind.i64.wrap (v250 + 1)) (List.set v251 x257.toNat true)) else (some v251)
def cN7 (x8 : (List Bool)) (x13 : (List Bool)) (a0 : aF7) : Nat → Int → (List Int) → (List Bool) → Option (List Int)
 | 0, _, _, _ => none
 | n206 + 1, v199, v200, v203 => if (decide (v199 ≥ 0)) = true then ((idx x8 v199).bind fun x207 => if (!x207) = true then (cN7 x8 x13 a0 n206 (IntKind.i64.wrap (v199 - 1)) v200 v203) else ((idx x13 v199).bind fun x209 => if (!x209) = true then (cN7 x8 x13 a0 n206 (IntKind.i64.wrap (v199 - 1)) v200 v203) else ((((idx v203 v199).bind fun x218 => if (!x218) = true then (if aH7 (v200 ++ ([v199] : (List Int))).length = true then some (v200 ++ ([v199] : (List Int))) else none) else (some v200) : Option (List Int))).bind fun q217 => (dz7 a0 v199 aP7 0 v203).bind fun q249 => cN7 x8 x13 a0 n206 (IntKind.i64.wrap (v199 - 1)) q217 q249))) else (some v200)
def qo7 (a0 : aF7) (a1 : Int) (a2 : Int) : Option (List Int) := (nr7 a0 a1).bind fun x3 => if (!x3) = true then (some (([] : (List Int)))) else ((nr7 a0 a2).bind fun x5 => if (!x5) = true then (some (([] : (List Int)))) else ((lw7 a0 ([a1] : (List Int))).bind fun x8 => (lw7 a0 ([a2] : (List Int))).bind fun x13 => if (decide (0 ≤ (a0.commits.length : Int)) && aH7 ((a0.commits.length : Int)).toNat) = true then (cN7 x8 x13 a0 aP7 (IntKind.i64.wrap ((a0.commits.length : Int) - 1)) [] (List.replicate ((a0.commits.length : Int)).toNat false)).bind fun q198 => some (q198) else none))
def D17 : Con := ⟨aF7 × Int × Int, (List Int), 36, fun a => [.agg [.ro (List.map (am7 false) a.1.commits), .ro (List.map aW7 a.1.heads)], .v (.int .i64 a.2.1), .v (.int .i64 a.2.2)], fun a => qo7 a.1 a.2.1 a.2.2, fun a r => ⟨[(false, [sl true 17 (List.map bz7 r)])], []⟩, fun a => []⟩
def H67 : IFn := ⟨53, [.inl 4],
 (Rs (sq 3 [Io (.box 100 [none, none, some 66, some 82] (.t 1)), Io (.mv (.c (.slice none 0 0)))] [])
 (Rs [Io (.lit 100 [none, none, some 66, some 82] [.v (.string ⟨#[]⟩), .v (.int .i64 0), .sl true 66 [], .sl true 82 []] 0 []) 8, Mv 8 5]
 (Rs [Kb false 6]
 (.seq (Rs [Ki 0 7]
 (bU7 0 (.loop (.seq (Rs (sq 9 [Mv 7, Mv 0, Ln 10, Bb .lss 9 11] [])
 (Ct 12 .skip
 (.exit 0)))
 (.seq (.block 1 (eH7 (.seq (.drw (sq 15 [Mv 6, Nt 15, Mv 16] (Sg 17 18 [Mv 0, Mv 7, Ia 4 18 19, Fa 0 20, Ld 1 21, Fa 0 3, Ld 1 23, Bb .geq 22 24] [Pf 17 25 26])) [(7, 9)])
 (Ct 26 (Rs (sq 27 [Mv 5, La 4 3, Io (.lit 100 [none, none, some 66, some 82] [.v (.string ⟨#[]⟩), .v (.int .i64 0), .sl true 66 [], .sl true 82 []] 1 [(0, .t 28)]), Io (.app 100 true (.t 27) (.t 29))] [Mv 30 5])
 (.reg [Kb true 6]))
 .skip))
 (.seq (.drw (sq 31 [Mv 0, Mv 7, Ia 4 31 32, Fa 0 33, Ld 1 34, Fa 0 3, Ld 1 36, Bb .neq 35 37] []) [(4, 6)])
 (Ct 38 (.reg (sq 39 [Mv 5, Mv 0, Mv 7, Ia 4 40 41, La 4 42, Io (.lit 100 [none, none, some 66, some 82] [.v (.string ⟨#[]⟩), .v (.int .i64 0), .sl true 66 [], .sl true 82 []] 1 [(0, .t 43)]), Io (.app 100 true (.t 39) (.t 44))] [Mv 45 5]))
 .skip))))
 (.reg (sq 13 [Mv 7, Bk .add 13 1] [Mv 14 7])))))))
 (.seq (Rs (sq 46 [Mv 6, Nt 46] [])
 (Ct 47 (.reg (sq 48 [Mv 5, La 4 3, Io (.lit 100 [none, none, some 66, some 82] [.v (.string ⟨#[]⟩), .v (.int .i64 0), .sl true 66 [], .sl true 82 []] 1 [(0, .t 49)]), Io (.app 100 true (.t 48) (.t 50))] [Mv 51 5]))
 .skip))
 (Rs [Mv 5 52, Mv 52 4]
 .ret)))))), lcF []⟩
def H77 : List (List (Option Nat)) := [[some 100]]
def cr7 (a1 : Feat) : List Feat → Nat → Bool → (List Feat) → Option (Bool × (List Feat))
 | [], k87, v82, v84 => some (v82, v84)
 | x88 :: l89, k87, v82, v84 => ((if (!v82) = true then (if (!slt x88.id a1.id) = true then (if aH7 (v84 ++ ([a1] : (List Feat))).length = true then some (true, (v84 ++ ([a1] : (List Feat)))) else none) else (some (v82, v84))) else (some (v82, v84)) : Option (Bool × (List Feat)))).bind fun q100 => if (!seq x88.id a1.id) = true then (if aH7 (q100.2 ++ ([x88] : (List Feat))).length = true then cr7 a1 l89 (k87 + 1) q100.1 (q100.2 ++ ([x88] : (List Feat))) else none) else (cr7 a1 l89 (k87 + 1) q100.1 q100.2)
def fV7 (a0 : (List Feat)) (a1 : Feat) : Option (List Feat) := if aH7 a0.length = true then ((cr7 a1 a0 0 false []).bind fun q81 => if (!q81.1) = true then (if aH7 (q81.2 ++ ([a1] : (List Feat))).length = true then some ((q81.2 ++ ([a1] : (List Feat)))) else none) else (some (q81.2))) else none
def qp7 : Con := ⟨(List Feat) × Feat, (List Feat), 37, fun a => [.ro (List.map (aj7 false) a.1), .agg [.v (.string a.2.id), .v (.int .i64 a.2.shape.kind), .ro (List.map ePt a.2.shape.pts), .ro (List.map bb7 a.2.tags)]], fun a => fV7 a.1 a.2, fun a r => ⟨[(false, [sl true 100 (List.map (aj7 false) r)])], []⟩, fun a => []⟩
def H87 : IFn := ⟨38, [.inl 4],
 (Rs [Io (.mv (.c (.slice none 0 0))) 4]
 (Rs [Mv 0 9, Mv 9 5]
 (.seq (Rs [Ki 0 6]
 (bU7 0 (.loop (.seq (Rs (sq 10 [Mv 6, Mv 1, Ln 11, Bb .lss 10 12] [])
 (Ct 13 .skip
 (.exit 0)))
 (.seq (.block 1 (.reg (sq 16 [Mv 5, Mv 1, Mv 6, Ia 4 17 18, La 4 19, Io (.frz (.call 37 [(false, .t 16), (false, .t 20)]))] [Mv 21 5])))
 (.reg (sq 14 [Mv 6, Bk .add 14 1] [Mv 15 6])))))))
 (Rs [Io (.lit 49 [none] [.v (.string ⟨#[]⟩)] 0 []) 22, Mv 22 7]
 (.seq (Rs [Ki 0 8]
 (bU7 2 (.loop (.seq (Rs (sq 23 [Mv 8, Mv 5, Ln 24, Bb .lss 23 25] [])
 (Ct 26 .skip
 (.exit 2)))
 (.seq (.block 3 (.reg (sq 29 [Mv 7, Mv 5, Mv 8, Ia 4 30 31, Fa 0 32, Ld 1 33, Io (.lit 49 [none] [.v (.string ⟨#[]⟩)] 1 [(0, .t 34)]), Io (.app 49 true (.t 29) (.t 35))] [Mv 36 7])))
 (.reg (sq 27 [Mv 8, Bk .add 27 1] [Mv 28 8])))))))
 (Rs [Mv 7 37, Mv 37 4]
 .ret)))))), lcF []⟩
def H97 : List (List (Option Nat)) := [[some 49]]
def fp7 : List Feat → Nat → (List Feat) → Option (List Feat)
 | [], k24, v22 => some v22
 | x25 :: l26, k24, v22 => (fV7 v22 x25).bind fun x33 => fp7 l26 (k24 + 1) x33
def d87 : List Feat → Nat → (List Str) → Option (List Str)
 | [], k66, v63 => some v63
 | x67 :: l68, k66, v63 => if aH7 (v63 ++ ([x67.id] : (List Str))).length = true then d87 l68 (k66 + 1) (v63 ++ ([x67.id] : (List Str))) else none
def qq7 (a0 : (List Feat)) (a1 : (List Feat)) : Option (List Str) := if aH7 a1.length = true then ((fp7 a1 0 a0).bind fun q21 => if aH7 q21.length = true then ((d87 q21 0 []).bind fun q61 => some (q61)) else none) else none
def D27 : Con := ⟨(List Feat) × (List Feat), (List Str), 38, fun a => [.ro (List.map (aj7 false) a.1), .ro (List.map (aj7 false) a.2)], fun a => qq7 a.1 a.2, fun a r => ⟨[(false, [sl true 49 (List.map cv7 r)])], []⟩, fun a => []⟩
def Ia7 : IFn := ⟨20, [.inl 4],
 (Rs [Ki 0 4]
 (.seq (Rs [Ki 0 5]
 (bU7 0 (.loop (.seq (Rs (sq 6 [Mv 5, Mv 0, Ln 7, Bb .lss 6 8] [])
 (Ct 9 .skip
 (.exit 0)))
 (.seq (.block 1 (Rs (sq 12 [Mv 0, Mv 5, Ia 4 12 13, Fa 0 14, Ld 1 15, Mv 1, Bb .eql 16 17] [])
 (Ct 18 (Rs [Mv 5 19, Mv 19 4]
 .ret)
 .skip)))
 (.reg (sq 10 [Mv 5, Bk .add 10 1] [Mv 11 5])))))))
 (Rs [Ki (-1) 4]
 .ret))), lcF []⟩
def Ib7 : List (List (Option Nat)) := [[none]]
def d97 (a1 : Str) : List Feat → Nat → Option (Int ⊕ Unit)
 | [], k10 => some (.inr ())
 | x11 :: l12, k10 => if (seq x11.id a1) = true then (some (.inl ((k10 : Int)))) else (d97 a1 l12 (k10 + 1) )
def jT7 (a0 : (List Feat)) (a1 : Str) : Option Int := if aH7 a0.length = true then ((d97 a1 a0 0 ).bind fun q => match q with | .inl r => some r | .inr q8 => some ((-1))) else none
def xL7 : Con := ⟨(List Feat) × Str, Int, 39, fun a => [.ro (List.map (aj7 false) a.1), .v (.string a.2)], fun a => jT7 a.1 a.2, fun a r => ⟨[(false, [.v (.int .i64 r)])], []⟩, fun a => []⟩
def Ic7 : IFn := ⟨10, [.inl 4],
 (Rs [Ki 0 4]
 (.seq (Rs (sq 5 [Mv 0, Mv 1, Bb .gtr 5 6] [])
 (Ct 7 (Rs [Mv 0 8, Mv 8 4]
 .ret)
 .skip))
 (Rs [Mv 1 9, Mv 9 4]
 .ret))), lcF []⟩
def Id7 : List (List (Option Nat)) := [[none]]
def qr7 (a0 : Int) (a1 : Int) : Option Int := if (decide (a0 > a1)) = true then (some (a0)) else (some (a1))
def D37 : Con := ⟨Int × Int, Int, 40, fun a => [.v (.int .i64 a.1), .v (.int .i64 a.2)], fun a => qr7 a.1 a.2, fun a r => ⟨[(false, [.v (.int .i64 r)])], []⟩, fun a => []⟩
def Ie7 : IFn := ⟨13, [.inl 4],
 (Rs [Kb false 4]
 (Rs (sq 5 [Mv 0, Ln 5, Bk .leq 6 12, Mv 7] (Sg 8 9 [Mv 1, Ln 9, Bk .leq 10 12] [Pf 8 11 12, Mv 12 4]))
 .ret)), lcF []⟩
def If7 : List (List (Option Nat)) := [[none]]
def qs7 (a0 : (List Pt)) (a1 : (List Pt)) : Option Bool := if (decide ((a0.length : Int) ≤ 12)) = true then (some ((decide ((a1.length : Int) ≤ 12)))) else (some (false))
def D47 : Con := ⟨(List Pt) × (List Pt), Bool, 41, fun a => [.ro (List.map ePt a.1), .ro (List.map ePt a.2)], fun a => qs7 a.1 a.2, fun a r => ⟨[(false, [.v (.bool r)])], []⟩, fun a => []⟩
def Ig7 : IFn := ⟨66, [.inl 4],
 (Rs [Ki 0 4]
 (Rs (sq 9 [Mv 1, Ln 9, Bk .add 10 1, Io (.mks 17 [.v (.int .i64 0)] (.t 11) (.t 11))] [Io (.ren 2000005 17 (.mv (.t 12))) 5])
 (.seq (Rs (sq 13 [Mv 0, Ln 13, Bk .sub 14 1] [Mv 15 6])
 (bU7 0 (.loop (.seq (Rs (sq 16 [Mv 6, Bk .geq 16 0] [])
 (Ct 17 .skip
 (.exit 0)))
 (.seq (.block 1 (Rs (sq 20 [Mv 1, Ln 20, Bk .add 21 1, Io (.mks 17 [.v (.int .i64 0)] (.t 22) (.t 22))] [Mv 23 7])
 (.seq (Rs (sq 24 [Mv 1, Ln 24, Bk .sub 25 1] [Mv 26 8])
 (bU7 2 (.loop (.seq (Rs (sq 27 [Mv 8, Bk .geq 27 0] [])
 (Ct 28 .skip
 (.exit 2)))
 (.seq (.block 3 (.seq (.drw (sq 31 [Mv 0, Mv 6, Ia 2 31 32, La 2 33, Mv 1, Mv 8, Ia 2 35 36, La 2 37, Io (.eqs false true [0, 0] (.t 34) (.t 38))] []) [(3, 7)])
 (Ct 39 (.reg (sq 40 [Mv 7, Mv 8, Mv 5, Mv 8, Bk .add 43 1, Ia 1 42 44, Ld 1 45, Bk .add 46 1, Ia 1 40 41] [Sv [none] 48 47]))
 (.drw (sq 49 [Mv 7, Mv 8, Mv 5, Mv 8, Ia 1 51 52, Ld 1 53, Mv 7, Mv 8, Bk .add 56 1, Ia 1 55 57, Ld 1 58, Ca 40 [54, 59], Ia 1 49 50] [Sv [none] 61 60]) [(5, 10)]))))
 (.reg (sq 29 [Mv 8, Bk .sub 29 1] [Mv 30 8])))))))
 (.reg [Mv 7 62, Io (.ren 2000005 17 (.mv (.t 62))) 5]))))
 (.reg (sq 18 [Mv 6, Bk .sub 18 1] [Mv 19 6])))))))
 (Rs (sq 63 [Mv 5, Ik 1 63 0, Ld 1 64] [Mv 65 4])
 .ret)))), lcF []⟩
def Ih7 : List (List (Option Nat)) := [[none]]
def dA7 (a0 : (List Pt)) (v247 : Int) (a1 : (List Pt)) (v248 : (List Int)) : Nat → Int → (List Int) → Option (List Int)
 | 0, _, _ => none
 | n312 + 1, v308, v309 => if (decide (v308 ≥ 0)) = true then ((idx a0 v247).bind fun x313 => (idx a1 v308).bind fun x315 => if ((x313.x == x315.x) && ((x313.y == x315.y) && true)) = true then ((idx v248 (IntKind.i64.wrap (v308 + 1))).bind fun x317 => (idx v309 v308).bind fun x319 => dA7 a0 v247 a1 v248 n312 (IntKind.i64.wrap (v308 - 1)) (List.set v309 v308.toNat (IntKind.i64.wrap (x317 + 1)))) else ((idx v248 v308).bind fun x321 => (idx v309 (IntKind.i64.wrap (v308 + 1))).bind fun x323 => (qr7 x321 x323).bind fun x325 => (idx v309 v308).bind fun x327 => dA7 a0 v247 a1 v248 n312 (IntKind.i64.wrap (v308 - 1)) (List.set v309 v308.toNat x325))) else (some v309)
def ea7 (a1 : (List Pt)) (a0 : (List Pt)) : Nat → Int → (List Int) → Option (List Int)
 | 0, _, _ => none
 | n251 + 1, v247, v248 => if (decide (v247 ≥ 0)) = true then (if (decide (0 ≤ (IntKind.i64.wrap ((a1.length : Int) + 1))) && aH7 ((IntKind.i64.wrap ((a1.length : Int) + 1))).toNat) = true then (dA7 a0 v247 a1 v248 aP7 (IntKind.i64.wrap ((a1.length : Int) - 1)) (List.replicate ((IntKind.i64.wrap ((a1.length : Int) + 1))).toNat 0)).bind fun q307 => ea7 a1 a0 n251 (IntKind.i64.wrap (v247 - 1)) q307 else none) else (some v248)
def ns7 (a0 : (List Pt)) (a1 : (List Pt)) : Option Int := if (decide (0 ≤ (IntKind.i64.wrap ((a1.length : Int) + 1))) && aH7 ((IntKind.i64.wrap ((a1.length : Int) + 1))).toNat) = true then (ea7 a1 a0 aP7 (IntKind.i64.wrap ((a0.length : Int) - 1)) (List.replicate ((IntKind.i64.wrap ((a1.length : Int) + 1))).toNat 0)).bind fun q246 => (idx q246 0).bind fun x335 => some (x335) else none
def D57 : Con := ⟨(List Pt) × (List Pt), Int, 42, fun a => [.ro (List.map ePt a.1), .ro (List.map ePt a.2)], fun a => ns7 a.1 a.2, fun a r => ⟨[(false, [.v (.int .i64 r)])], []⟩, fun a => []⟩
def Ii7 : IFn := ⟨67, [.inl 4],
 (Rs [Io (.mv (.c (.slice none 0 0))) 4]
 (Rs [Io (.lit 194 [none, none] [.v (.int .i64 0), .v (.int .i64 0)] 0 []) 8, Mv 8 5]
 (Rs [Ki 0 6]
 (Rs [Ki 0 7]
 (eH7 (.block 0 (.loop (.seq (Rs (sq 9 [Mv 6, Mv 0, Ln 10, Bb .lss 9 11, Mv 12] (Sg 13 14 [Mv 7, Mv 1, Ln 15, Bb .lss 14 16] (sq 18 [Pf 13 17, Mv 18] (Sg 19 20 [Mv 0, Mv 1, Ca 41 [20, 21]] [Pf 19 22 23]))))
 (Ct 23 .skip
 (.exit 0)))
 (.block 1 (.block 2 (.seq (.drw (sq 27 [Mv 0, Mv 6, Ia 2 27 28, La 2 29, Mv 1, Mv 7, Ia 2 31 32, La 2 33, Io (.eqs false true [0, 0] (.t 30) (.t 34))] [Mv 35 26]) [(3, 7)])
 (Ct 26 (Rs (sq 36 [Mv 5, Mv 6, Mv 7, Io (.build [.v (.int .i64 0), .v (.int .i64 0)] [(0, 1, .t 37), (1, 1, .t 38)]), Io (.lit 194 [none, none] [.v (.int .i64 0), .v (.int .i64 0)] 1 [(0, .t 39)]), Io (.app 194 true (.t 36) (.t 40))] [Mv 41 5])
 (Rs (sq 42 [Mv 6, Bk .add 42 1] [Mv 43 6])
 (.reg (sq 44 [Mv 7, Bk .add 44 1] [Mv 45 7]))))
 (.seq (.drw (sq 47 [Mv 0, Mv 6, Bk .add 48 1, Io (.sls 2 (.t 47) (some (.t 49)) none), Mv 1, Mv 7, Io (.sls 2 (.t 51) (some (.t 52)) none), Ca 42 [50, 53], Mv 0, Mv 6, Io (.sls 2 (.t 55) (some (.t 56)) none), Mv 1, Mv 7, Bk .add 59 1, Io (.sls 2 (.t 58) (some (.t 60)) none), Ca 42 [57, 61], Bb .geq 54 62] [Mv 63 46]) [])
 (Ct 46 (.reg (sq 64 [Mv 6, Bk .add 64 1] [Mv 65 6]))
 (.reg (sq 24 [Mv 7, Bk .add 24 1] [Mv 25 7])))))))))))
 (Rs [Mv 5 66, Mv 66 4]
 .ret)))))), lcF []⟩
def Ij7 : List (List (Option Nat)) := [[some 194]]
def dB7 (a0 : (List Pt)) (a1 : (List Pt)) : Nat → Int → Int → (List cI7) → Option (List cI7)
 | 0, _, _, _ => none
 | n57 + 1, v52, v53, v54 => if (decide (v52 < (a0.length : Int))) = true then (if (decide (v53 < (a1.length : Int))) = true then ((qs7 a0 a1).bind fun x58 => if x58 = true then ((idx a0 v52).bind fun x60 => (idx a1 v53).bind fun x62 => if ((x60.x == x62.x) && ((x60.y == x62.y) && true)) = true then (if aH7 (v54 ++ ([(⟨v52, v53⟩ : cI7)] : (List cI7))).length = true then dB7 a0 a1 n57 (IntKind.i64.wrap (v52 + 1)) (IntKind.i64.wrap (v53 + 1)) (v54 ++ ([(⟨v52, v53⟩ : cI7)] : (List cI7))) else none) else ((slc a0 (IntKind.i64.wrap (v52 + 1)) (a0.length : Int)).bind fun x68 => (slc a1 v53 (a1.length : Int)).bind fun x70 => (ns7 x68 x70).bind fun x72 => (slc a0 v52 (a0.length : Int)).bind fun x74 => (slc a1 (IntKind.i64.wrap (v53 + 1)) (a1.length : Int)).bind fun x76 => (ns7 x74 x76).bind fun x78 => if (decide (x72 ≥ x78)) = true then (dB7 a0 a1 n57 (IntKind.i64.wrap (v52 + 1)) v53 v54) else (dB7 a0 a1 n57 v52 (IntKind.i64.wrap (v53 + 1)) v54))) else (some v54)) else (some v54)) else (some v54)
def nt7 (a0 : (List Pt)) (a1 : (List Pt)) : Option (List cI7) := (dB7 a0 a1 aP7 0 0 []).bind fun q51 => some (q51)
def D67 : Con := ⟨(List Pt) × (List Pt), (List cI7), 43, fun a => [.ro (List.map ePt a.1), .ro (List.map ePt a.2)], fun a => nt7 a.1 a.2, fun a r => ⟨[(false, [sl true 194 (List.map fb7 r)])], []⟩, fun a => []⟩
def Ik7 : IFn := ⟨24, [.inl 4],
 (Rs [Ki 0 4]
 (.seq (Rs [Ki 0 5]
 (bU7 0 (.loop (.seq (Rs (sq 6 [Mv 5, Mv 0, Ln 7, Bb .lss 6 8] [])
 (Ct 9 .skip
 (.exit 0)))
 (.seq (.block 1 (Rs (sq 12 [Mv 0, Mv 5, Ia 2 12 13, Fa 0 14, Ld 1 15, Mv 1, Bb .eql 16 17] [])
 (Ct 18 (Rs (sq 19 [Mv 0, Mv 5, Ia 2 19 20, Fa 1 21, Ld 1 22] [Mv 23 4])
 .ret)
 .skip)))
 (.reg (sq 10 [Mv 5, Bk .add 10 1] [Mv 11 5])))))))
 (Rs [Ki (-1) 4]
 .ret))), lcF []⟩
def Il7 : List (List (Option Nat)) := [[none]]
def fq7 (a1 : Int) : List cI7 → Nat → Option (Int ⊕ Unit)
 | [], k10 => some (.inr ())
 | x11 :: l12, k10 => if (x11.a == a1) = true then (some (.inl (x11.b))) else (fq7 a1 l12 (k10 + 1) )
def nu7 (a0 : (List cI7)) (a1 : Int) : Option Int := if aH7 a0.length = true then ((fq7 a1 a0 0 ).bind fun q => match q with | .inl r => some r | .inr q8 => some ((-1))) else none
def D77 : Con := ⟨(List cI7) × Int, Int, 44, fun a => [.ro (List.map fb7 a.1), .v (.int .i64 a.2)], fun a => nu7 a.1 a.2, fun a r => ⟨[(false, [.v (.int .i64 r)])], []⟩, fun a => []⟩
def Im7 : IFn := ⟨23, [.inl 6, .inl 7],
 (Rs (sq 6 [Io (.mv (.zr)), Kb false] [])
 (.seq (.block 0 (Rs (sq 9 [Mv 1, Mv 0, Ca 18 [9, 10]] [Mv 11 8])
 (Ct 8 (Rs (Mv 2 12 :: (sq 6 [Mv 12, Kb true] []))
 .ret)
 (Rs (sq 14 [Mv 2, Mv 0, Ca 18 [14, 15]] [Mv 16 13])
 (Ct 13 (Rs (Mv 1 17 :: (sq 6 [Mv 17, Kb true] []))
 .ret)
 (Rs (sq 19 [Mv 1, Mv 2, Ca 18 [19, 20]] [Mv 21 18])
 (Ct 18 (Rs (Mv 1 22 :: (sq 6 [Mv 22, Kb true] []))
 .ret)
 .skip)))))))
 (Rs (sq 6 [Io (.mv (.zr)), Kb false] [])
 .ret))), lcF []⟩
def In7 : List (List (Option Nat)) := [[some 66], [none]]
def nv7 (a0 : (List Pt)) (a1 : (List Pt)) (a2 : (List Pt)) : Option ((List Pt) × Bool) := (lt7 a1 a0).bind fun x1 => if x1 = true then (some (a2, true)) else ((lt7 a2 a0).bind fun x3 => if x3 = true then (some (a1, true)) else ((lt7 a1 a2).bind fun x5 => if x5 = true then (some (a1, true)) else (some (([] : (List Pt)), false))))
def D87 : Con := ⟨(List Pt) × (List Pt) × (List Pt), ((List Pt) × Bool), 45, fun a => [.ro (List.map ePt a.1), .ro (List.map ePt a.2.1), .ro (List.map ePt a.2.2)], fun a => nv7 a.1 a.2.1 a.2.2, fun a r => ⟨[(false, [sl false 66 (List.map ePt r.1)]), (false, [.v (.bool r.2)])], []⟩, fun a => []⟩
def Io7 : IFn := ⟨91, [.inl 6, .inl 7],
 (Rs (sq 6 [Io (.mv (.c (.slice none 0 0))), Kb false] [])
 (Rs (sq 19 [Mv 0, Mv 1, Ca 43 [19, 20]] [Mv 21 8])
 (Rs (sq 22 [Mv 0, Mv 2, Ca 43 [22, 23]] [Mv 24 9])
 (Rs [Io (.lit 66 [none, none] [.v (.int .i64 0), .v (.int .i64 0)] 0 []) 25, Mv 25 10]
 (Rs [Ki 0 11]
 (Rs [Ki 0 12]
 (Rs [Ki 0 13]
 (.seq (Rs [Ki 0 14]
 (bU7 0 (.loop (.seq (Rs (sq 26 [Mv 14, Mv 0, Ln 27, Bb .leq 26 28] [])
 (Ct 29 .skip
 (.exit 0)))
 (eH7 (.block 1 (Rs (sq 32 [Mv 1, Ln 32] [Mv 33 15])
 (Rs (sq 34 [Mv 2, Ln 34] [Mv 35 16])
 (.seq (Rs (sq 36 [Mv 14, Mv 0, Ln 37, Bb .lss 36 38] [])
 (Ct 39 (Rs (sq 40 [Mv 8, Mv 14, Ca 44 [40, 41]] [Mv 42 15])
 (Rs (sq 43 [Mv 9, Mv 14, Ca 44 [43, 44]] [Mv 45 16])
 (Rs (sq 46 [Mv 15, Bk .lss 46 0, Mv 47] (Sf 48 49 [Mv 16, Bk .lss 49 0] [Pk 48 50 51]))
 (Ct 51 (.exit 1)
 .skip))))
 .skip))
 (.seq (.drw (sq 53 [Mv 0, Mv 11, Mv 14, Io (.sls 2 (.t 53) (some (.t 54)) (some (.t 55))), Mv 1, Mv 12, Mv 15, Io (.sls 2 (.t 57) (some (.t 58)) (some (.t 59))), Mv 2, Mv 13, Mv 16, Io (.sls 2 (.t 61) (some (.t 62)) (some (.t 63))), Ca 45 [56, 60, 64]] (Mv 65 52 :: (sq 66 [Xt 52 0, Xt 52 1] (sq 17 [Mv 66, Mv 67] [])))) [])
 (.seq (Rs (sq 68 [Mv 18, Nt 68] [])
 (Ct 69 (Rs (sq 6 [Io (.mv (.c (.slice none 0 0))), Kb false] [])
 .ret)
 .skip))
 (Rs (sq 70 [Mv 10, Mv 17, Io (.app 66 false (.t 70) (.t 71))] [Mv 72 10])
 (.seq (Rs (sq 73 [Mv 14, Mv 0, Ln 74, Bb .lss 73 75] [])
 (Ct 76 (.reg (sq 77 [Mv 10, Mv 0, Mv 14, Ia 2 78 79, La 2 80, Io (.lit 66 [none, none] [.v (.int .i64 0), .v (.int .i64 0)] 1 [(0, .t 81)]), Io (.app 66 true (.t 77) (.t 82))] [Mv 83 10]))
 .skip))
 (Rs (sq 84 [Mv 14, Bk .add 84 1] [Mv 85 11])
 (Rs (sq 86 [Mv 15, Bk .add 86 1] [Mv 87 12])
 (.reg (sq 88 [Mv 16, Bk .add 88 1] [Mv 89 13]))))))))))))
 (.reg (sq 30 [Mv 14, Bk .add 30 1] [Mv 31 14])))))))
 (Rs (Mv 10 90 :: (sq 6 [Mv 90, Kb true] []))
 .ret))))))))), lcF []⟩
def Ip7 : List (List (Option Nat)) := [[some 66], [none]]
def eb7 (a0 : (List Pt)) (x1 : (List cI7)) (x5 : (List cI7)) (a1 : (List Pt)) (a2 : (List Pt)) : Nat → Int → Int → Int → Int → (List Pt) → Option (((List Pt) × Bool) ⊕ (List Pt))
 | 0, _, _, _, _, _ => none
 | n274 + 1, v267, v268, v269, v270, v271 => if (decide (v270 ≤ (a0.length : Int))) = true then (((if (decide (v270 < (a0.length : Int))) = true then ((nu7 x1 v270).bind fun x314 => (nu7 x5 v270).bind fun x316 => if (decide (x314 < 0)) = true then (some (.inr (v267, v268, v269, v271))) else (if (decide (x316 < 0)) = true then (some (.inr (v267, v268, v269, v271))) else ((slc a0 v267 v270).bind fun x318 => (slc a1 v268 x314).bind fun x320 => (slc a2 v269 x316).bind fun x322 => (nv7 x318 x320 x322).bind fun x324 => if (!x324.2) = true then (some (.inl (([] : (List Pt)), false))) else (if aH7 (v271 ++ x324.1).length = true then if (decide (v270 < (a0.length : Int))) = true then ((idx a0 v270).bind fun x329 => if aH7 ((v271 ++ x324.1) ++ ([x329] : (List Pt))).length = true then some (.inr ((IntKind.i64.wrap (v270 + 1)), (IntKind.i64.wrap (x314 + 1)), (IntKind.i64.wrap (x316 + 1)), ((v271 ++ x324.1) ++ ([x329] : (List Pt))))) else none) else (some (.inr ((IntKind.i64.wrap (v270 + 1)), (IntKind.i64.wrap (x314 + 1)), (IntKind.i64.wrap (x316 + 1)), (v271 ++ x324.1)))) else none)))) else ((slc a0 v267 v270).bind fun x335 => (slc a1 v268 (a1.length : Int)).bind fun x337 => (slc a2 v269 (a2.length : Int)).bind fun x339 => (nv7 x335 x337 x339).bind fun x341 => if (!x341.2) = true then (some (.inl (([] : (List Pt)), false))) else (if aH7 (v271 ++ x341.1).length = true then if (decide (v270 < (a0.length : Int))) = true then ((idx a0 v270).bind fun x346 => if aH7 ((v271 ++ x341.1) ++ ([x346] : (List Pt))).length = true then some (.inr ((IntKind.i64.wrap (v270 + 1)), (IntKind.i64.wrap ((a1.length : Int) + 1)), (IntKind.i64.wrap ((a2.length : Int) + 1)), ((v271 ++ x341.1) ++ ([x346] : (List Pt))))) else none) else (some (.inr ((IntKind.i64.wrap (v270 + 1)), (IntKind.i64.wrap ((a1.length : Int) + 1)), (IntKind.i64.wrap ((a2.length : Int) + 1)), (v271 ++ x341.1)))) else none)) : Option (((List Pt) × Bool) ⊕ (Int × Int × Int × (List Pt))))).bind fun q => match q with | .inl r => some (.inl r) | .inr q313 => eb7 a0 x1 x5 a1 a2 n274 q313.1 q313.2.1 q313.2.2.1 (IntKind.i64.wrap (v270 + 1)) q313.2.2.2) else (some (.inr v271))
def qt7 (a0 : (List Pt)) (a1 : (List Pt)) (a2 : (List Pt)) : Option ((List Pt) × Bool) := (nt7 a0 a1).bind fun x1 => (nt7 a0 a2).bind fun x5 => (eb7 a0 x1 x5 a1 a2 aP7 0 0 0 0 []).bind fun q => match q with | .inl r => some r | .inr q266 => some (q266, true)
def D97 : Con := ⟨(List Pt) × (List Pt) × (List Pt), ((List Pt) × Bool), 46, fun a => [.ro (List.map ePt a.1), .ro (List.map ePt a.2.1), .ro (List.map ePt a.2.2)], fun a => qt7 a.1 a.2.1 a.2.2, fun a r => ⟨[(false, [sl true 66 (List.map ePt r.1)]), (false, [.v (.bool r.2)])], []⟩, fun a => []⟩
def Iq7 : IFn := ⟨57, [.inl 6],
 (Rs [Io (.mv (.c (.slice none 0 0))) 6]
 (Rs [Io (.lit 82 [none, none] [.v (.string ⟨#[]⟩), .v (.string ⟨#[]⟩)] 0 []) 10, Mv 10 7]
 (Rs [Kb false 8]
 (.seq (Rs [Ki 0 9]
 (bU7 0 (.loop (.seq (Rs (sq 11 [Mv 9, Mv 0, Ln 12, Bb .lss 11 13] [])
 (Ct 14 .skip
 (.exit 0)))
 (.seq (.block 1 (eH7 (Rs (sq 17 [Mv 8, Nt 17, Mv 18] (Sg 19 20 [Mv 0, Mv 9, Ia 2 20 21, Fa 0 22, Ld 1 23, Mv 1, Bb .geq 24 25] [Pf 19 26 27]))
 (Ct 27 (Rs (sq 28 [Mv 7, Mv 1, Mv 2, Io (.build [.v (.string ⟨#[]⟩), .v (.string ⟨#[]⟩)] [(0, 1, .t 29), (1, 1, .t 30)]), Io (.lit 82 [none, none] [.v (.string ⟨#[]⟩), .v (.string ⟨#[]⟩)] 1 [(0, .t 31)]), Io (.app 82 true (.t 28) (.t 32))] [Mv 33 7])
 (.reg [Kb true 8]))
 .skip))
 (Rs (sq 34 [Mv 0, Mv 9, Ia 2 34 35, Fa 0 36, Ld 1 37, Mv 1, Bb .neq 38 39] [])
 (Ct 40 (.reg (sq 41 [Mv 7, Mv 0, Mv 9, Ia 2 42 43, La 2 44, Io (.lit 82 [none, none] [.v (.string ⟨#[]⟩), .v (.string ⟨#[]⟩)] 1 [(0, .t 45)]), Io (.app 82 true (.t 41) (.t 46))] [Mv 47 7]))
 .skip))))
 (.reg (sq 15 [Mv 9, Bk .add 15 1] [Mv 16 9])))))))
 (.seq (Rs (sq 48 [Mv 8, Nt 48] [])
 (Ct 49 (.reg (sq 50 [Mv 7, Mv 1, Mv 2, Io (.build [.v (.string ⟨#[]⟩), .v (.string ⟨#[]⟩)] [(0, 1, .t 51), (1, 1, .t 52)]), Io (.lit 82 [none, none] [.v (.string ⟨#[]⟩), .v (.string ⟨#[]⟩)] 1 [(0, .t 53)]), Io (.app 82 true (.t 50) (.t 54))] [Mv 55 7]))
 .skip))
 (Rs [Mv 7 56, Mv 56 6]
 .ret)))))), lcF []⟩
def Ir7 : List (List (Option Nat)) := [[some 82]]
def cs7 (a1 : Str) (a2 : Str) : List Tag → Nat → Bool → (List Tag) → Option (Bool × (List Tag))
 | [], k84, v79, v81 => some (v79, v81)
 | x85 :: l86, k84, v79, v81 => ((if (!v79) = true then (if (!slt x85.key a1) = true then (if aH7 (v81 ++ ([(⟨a1, a2⟩ : Tag)] : (List Tag))).length = true then some (true, (v81 ++ ([(⟨a1, a2⟩ : Tag)] : (List Tag)))) else none) else (some (v79, v81))) else (some (v79, v81)) : Option (Bool × (List Tag)))).bind fun q97 => if (!seq x85.key a1) = true then (if aH7 (q97.2 ++ ([x85] : (List Tag))).length = true then cs7 a1 a2 l86 (k84 + 1) q97.1 (q97.2 ++ ([x85] : (List Tag))) else none) else (cs7 a1 a2 l86 (k84 + 1) q97.1 q97.2)
def ii7 (a0 : (List Tag)) (a1 : Str) (a2 : Str) : Option (List Tag) := if aH7 a0.length = true then ((cs7 a1 a2 a0 0 false []).bind fun q78 => if (!q78.1) = true then (if aH7 (q78.2 ++ ([(⟨a1, a2⟩ : Tag)] : (List Tag))).length = true then some ((q78.2 ++ ([(⟨a1, a2⟩ : Tag)] : (List Tag)))) else none) else (some (q78.2))) else none
def vw7 : Con := ⟨(List Tag) × Str × Str, (List Tag), 47, fun a => [.ro (List.map bb7 a.1), .v (.string a.2.1), .v (.string a.2.2)], fun a => ii7 a.1 a.2.1 a.2.2, fun a r => ⟨[(false, [sl true 82 (List.map bb7 r)])], []⟩, fun a => []⟩
def Is7 : IFn := ⟨25, [.inl 4, .inl 5],
 (Rs (sq 4 [Io (.mv (.c (.string ⟨#[]⟩))), Kb false] [])
 (.seq (Rs [Ki 0 6]
 (bU7 0 (.loop (.seq (Rs (sq 7 [Mv 6, Mv 0, Ln 8, Bb .lss 7 9] [])
 (Ct 10 .skip
 (.exit 0)))
 (.seq (.block 1 (Rs (sq 13 [Mv 0, Mv 6, Ia 2 13 14, Fa 0 15, Ld 1 16, Mv 1, Bb .eql 17 18] [])
 (Ct 19 (Rs (sq 20 [Mv 0, Mv 6, Ia 2 20 21, Fa 1 22, Ld 1 23] (sq 4 [Mv 24, Kb true] []))
 .ret)
 .skip)))
 (.reg (sq 11 [Mv 6, Bk .add 11 1] [Mv 12 6])))))))
 (Rs (sq 4 [Io (.mv (.c (.string ⟨#[]⟩))), Kb false] [])
 .ret))), lcF []⟩
def It7 : List (List (Option Nat)) := [[none], [none]]
def fr7 (a1 : Str) : List Tag → Nat → Option ((Str × Bool) ⊕ Unit)
 | [], k10 => some (.inr ())
 | x11 :: l12, k10 => if (seq x11.key a1) = true then (some (.inl (x11.val, true))) else (fr7 a1 l12 (k10 + 1) )
def lx7 (a0 : (List Tag)) (a1 : Str) : Option (Str × Bool) := if aH7 a0.length = true then ((fr7 a1 a0 0 ).bind fun q => match q with | .inl r => some r | .inr q8 => some ((⟨#[]⟩ : Str), false)) else none
def Ea7 : Con := ⟨(List Tag) × Str, (Str × Bool), 48, fun a => [.ro (List.map bb7 a.1), .v (.string a.2)], fun a => lx7 a.1 a.2, fun a r => ⟨[(false, [.v (.string r.1)]), (false, [.v (.bool r.2)])], []⟩, fun a => []⟩
def Iu7 : IFn := ⟨63, [.inr (6, 2), .inl 7],
 (Rs (sq 3 [Io (.box 226 [none, some 66] (.t 0)), Io (.box 226 [none, some 66] (.t 1)), Io (.box 226 [none, some 66] (.t 2)), Io (.alloc 226 [.v (.int .i64 0), .sl true 66 []]), Kb false] [])
 (.seq (.block 0 (Rs (sq 12 [La 2 4, La 2 3, Ca 19 [12, 13]] [Mv 14 11])
 (Ct 11 (Rs [La 2 5 15, Sv [none, some 66] 6 15, Kb true 7]
 .ret)
 (eH7 (.reg (sq 17 [La 2 5, La 2 3, Ca 19 [17, 18], Mv 19] (Sf 20 21 [La 2 4, La 2 5, Ca 19 [21, 22]] [Pk 20 23 24, Mv 24 16])))
 (Ct 16 (Rs [La 2 4 25, Sv [none, some 66] 6 25, Kb true 7]
 .ret)
 (Rs (sq 27 [Fa 0 4, Ld 1 27, Fa 0 5, Ld 1 29, Bb .neq 28 30, Mv 31] (Sf 32 33 [Fa 0 4, Ld 1 33, Fa 0 3, Ld 1 35, Bb .neq 34 36] [Pk 32 37 38, Mv 38 26]))
 (Ct 26 (Rs [La 2 4 39, Sv [none, some 66] 6 39, Kb false 7]
 .ret)
 .skip)))))))
 (Rs (sq 41 [Fa 1 3, Ld 1 41, Fa 1 4, Ld 1 43, Fa 1 5, Ld 1 45, Io (.frz (.call 46 [(false, .t 42), (false, .t 44), (false, .t 46)]))] (Mv 47 40 :: (sq 48 [Xt 40 0, Xt 40 1] (sq 8 [Mv 48, Mv 49] []))))
 (Rs (sq 50 [Fa 0 4, Ld 1 50, Mv 8, Io (.build [.v (.int .i64 0), .nil] [(0, 1, .t 51), (1, 1, .t 52)])] [Io (.alloc 226 [.v (.int .i64 0), .sl true 66 []]) 10, Sv [none, some 66] 10 53])
 (.seq (Rs (sq 54 [Mv 9, Nt 54, Mv 55] (Sf 56 57 [La 2 10, Ca 15 [57], Nt 58] [Pk 56 59 60]))
 (Ct 60 (Rs [La 2 4 61, Sv [none, some 66] 6 61, Kb false 7]
 .ret)
 .skip))
 (Rs [La 2 10 62, Sv [none, some 66] 6 62, Kb true 7]
 .ret)))))), lcF []⟩
def Iv7 : List (List (Option Nat)) := [[none, some 66], [none]]
def qu7 (a0 : aD7) (a1 : aD7) (a2 : aD7) : Option (aD7 × Bool) := (jR7 a1 a0).bind fun x5 => if x5 = true then (some (a2, true)) else ((((jR7 a2 a0).bind fun x8 => if x8 = true then (some true) else ((jR7 a1 a2).bind fun x10 => some x10) : Option Bool)).bind fun q7 => if q7 = true then (some (a1, true)) else (if (a1.kind != a2.kind) = true then (some (a1, false)) else (if (a1.kind != a0.kind) = true then (some (a1, false)) else ((qt7 a0.pts a1.pts a2.pts).bind fun x13 => if (!x13.2) = true then (some (a1, false)) else ((jQ7 (⟨a1.kind, x13.1⟩ : aD7)).bind fun x18 => if (!x18) = true then (some (a1, false)) else (some ((⟨a1.kind, x13.1⟩ : aD7), true)))))))
def Eb7 : Con := ⟨aD7 × aD7 × aD7, (aD7 × Bool), 49, fun a => [.agg [.v (.int .i64 a.1.kind), .ro (List.map ePt a.1.pts)], .agg [.v (.int .i64 a.2.1.kind), .ro (List.map ePt a.2.1.pts)], .agg [.v (.int .i64 a.2.2.kind), .ro (List.map ePt a.2.2.pts)]], fun a => qu7 a.1 a.2.1 a.2.2, fun a r => ⟨[(true, g67 false r.1), (false, [.v (.bool r.2)])], []⟩, fun a => []⟩
def Iw7 : IFn := ⟨49, [.inl 6],
 (Rs [Io (.mv (.c (.slice none 0 0))) 6]
 (Rs (sq 12 [Io (.lit 82 [none, none] [.v (.string ⟨#[]⟩), .v (.string ⟨#[]⟩)] 0 []), Mv 0, Io (.app 82 false (.t 12) (.t 13)), Mv 1, Io (.app 82 false (.t 14) (.t 15)), Mv 2, Io (.app 82 false (.t 16) (.t 17))] [Mv 18 7])
 (Rs [Io (.lit 82 [none, none] [.v (.string ⟨#[]⟩), .v (.string ⟨#[]⟩)] 0 []) 19, Io (.ren 2000008 82 (.mv (.t 19))) 8]
 (.seq (Rs [Ki 0 9]
 (bU7 0 (.loop (.seq (Rs (sq 20 [Mv 9, Mv 7, Ln 21, Bb .lss 20 22] [])
 (Ct 23 .skip
 (.exit 0)))
 (.seq (.block 1 (.reg (sq 26 [Mv 8, Mv 7, Mv 9, Ia 2 27 28, Fa 0 29, Ld 1 30, Io (.call 47 [(false, .t 26), (false, .t 31), (false, .c (.string ⟨#[97]⟩))])] [Io (.ren 2000008 82 (.mv (.t 32))) 8])))
 (.reg (sq 24 [Mv 9, Bk .add 24 1] [Mv 25 9])))))))
 (Rs [Io (.lit 49 [none] [.v (.string ⟨#[]⟩)] 0 []) 33, Mv 33 10]
 (.seq (Rs [Ki 0 11]
 (bU7 2 (.loop (.seq (Rs (sq 34 [Mv 11, Mv 8, Ln 35, Bb .lss 34 36] [])
 (Ct 37 .skip
 (.exit 2)))
 (.seq (.block 3 (.reg (sq 40 [Mv 10, Mv 8, Mv 11, Ia 2 41 42, Fa 0 43, Ld 1 44, Io (.lit 49 [none] [.v (.string ⟨#[]⟩)] 1 [(0, .t 45)]), Io (.app 49 true (.t 40) (.t 46))] [Mv 47 10])))
 (.reg (sq 38 [Mv 11, Bk .add 38 1] [Mv 39 11])))))))
 (Rs [Mv 10 48, Mv 48 6]
 .ret))))))), lcF []⟩
def Ix7 : List (List (Option Nat)) := [[some 49]]
def fs7 : List Tag → Nat → (List Tag) → Option (List Tag)
 | [], k39, v36 => some v36
 | x40 :: l41, k39, v36 => (ii7 v36 x40.key (⟨#[97]⟩ : Str)).bind fun x48 => fs7 l41 (k39 + 1) x48
def ec7 : List Tag → Nat → (List Str) → Option (List Str)
 | [], k83, v80 => some v80
 | x84 :: l85, k83, v80 => if aH7 (v80 ++ ([x84.key] : (List Str))).length = true then ec7 l85 (k83 + 1) (v80 ++ ([x84.key] : (List Str))) else none
def qv7 (a0 : (List Tag)) (a1 : (List Tag)) (a2 : (List Tag)) : Option (List Str) := if aH7 ([] ++ a0).length = true then if aH7 (([] ++ a0) ++ a1).length = true then if aH7 ((([] ++ a0) ++ a1) ++ a2).length = true then if aH7 ((([] ++ a0) ++ a1) ++ a2).length = true then ((fs7 ((([] ++ a0) ++ a1) ++ a2) 0 []).bind fun q34 => if aH7 q34.length = true then ((ec7 q34 0 []).bind fun q78 => some (q78)) else none) else none else none else none else none
def Ec7 : Con := ⟨(List Tag) × (List Tag) × (List Tag), (List Str), 50, fun a => [.ro (List.map bb7 a.1), .ro (List.map bb7 a.2.1), .ro (List.map bb7 a.2.2)], fun a => qv7 a.1 a.2.1 a.2.2, fun a r => ⟨[(false, [sl true 49 (List.map cv7 r)])], []⟩, fun a => []⟩
def Iy7 : IFn := ⟨71, [.inl 8, .inl 9, .inl 10],
 (Rs (sq 8 [Io (.mv (.c (.string ⟨#[]⟩))), Kb false, Kb false] [])
 (Rs (sq 18 [Mv 0, Mv 3, Ca 48 [18, 19]] (Mv 20 17 :: (sq 21 [Xt 17 0, Xt 17 1] (sq 11 [Mv 21, Mv 22] []))))
 (Rs (sq 24 [Mv 1, Mv 3, Ca 48 [24, 25]] (Mv 26 23 :: (sq 27 [Xt 23 0, Xt 23 1] (sq 13 [Mv 27, Mv 28] []))))
 (Rs (sq 30 [Mv 2, Mv 3, Ca 48 [30, 31]] (Mv 32 29 :: (sq 33 [Xt 29 0, Xt 29 1] (sq 15 [Mv 33, Mv 34] []))))
 (eH7 (.block 0 (Rs (sq 36 [Mv 13, Mv 11, Bb .eql 36 37, Mv 38] (Sg 39 40 [Mv 14, Mv 12, Io (.eqs false false [1] (.t 40) (.t 41))] [Pf 39 42 43, Mv 43 35]))
 (Ct 35 (Rs (sq 44 [Mv 15, Mv 16] (sq 8 [Mv 44, Mv 45, Kb true] []))
 .ret)
 (Rs (sq 47 [Mv 15, Mv 11, Bb .eql 47 48, Mv 49] (Sg 50 51 [Mv 16, Mv 12, Io (.eqs false false [1] (.t 51) (.t 52))] (sq 54 [Pf 50 53, Mv 54] (Sf 55 56 [Mv 13, Mv 15, Bb .eql 56 57, Mv 58] (Sg 59 60 [Mv 14, Mv 16, Io (.eqs false false [1] (.t 60) (.t 61))] [Gf 55 (Pf 59 62 63), Pk 55 63 64, Mv 64 46])))))
 (Ct 46 (Rs (sq 65 [Mv 13, Mv 14] (sq 8 [Mv 65, Mv 66, Kb true] []))
 .ret)
 (Rs [Mv 14 68, Mv 68 67]
 (Ct 67 (Rs (Mv 13 69 :: (sq 8 [Mv 69, Kb true, Kb false] []))
 .ret)
 .skip)))))))
 (Rs (Mv 15 70 :: (sq 8 [Mv 70, Kb true, Kb false] []))
 .ret)))))), lcF []⟩
def Iz7 : List (List (Option Nat)) := [[none], [none], [none]]
def qw7 (a0 : (List Tag)) (a1 : (List Tag)) (a2 : (List Tag)) (a3 : Str) : Option (Str × Bool × Bool) := (lx7 a0 a3).bind fun x1 => (lx7 a1 a3).bind fun x3 => (lx7 a2 a3).bind fun x5 => ((if (seq x3.1 x1.1) = true then (if (x3.2 == x1.2) = true then (some (.inl (x5.1, x5.2, true))) else (if (seq x5.1 x1.1) = true then (if (x5.2 == x1.2) = true then (some (.inl (x3.1, x3.2, true))) else (if (seq x3.1 x5.1) = true then (if (x3.2 == x5.2) = true then (some (.inl (x3.1, x3.2, true))) else (if x3.2 = true then (some (.inl (x3.1, true, false))) else (some (.inr ())))) else (if x3.2 = true then (some (.inl (x3.1, true, false))) else (some (.inr ()))))) else (if (seq x3.1 x5.1) = true then (if (x3.2 == x5.2) = true then (some (.inl (x3.1, x3.2, true))) else (if x3.2 = true then (some (.inl (x3.1, true, false))) else (some (.inr ())))) else (if x3.2 = true then (some (.inl (x3.1, true, false))) else (some (.inr ())))))) else (if (seq x5.1 x1.1) = true then (if (x5.2 == x1.2) = true then (some (.inl (x3.1, x3.2, true))) else (if (seq x3.1 x5.1) = true then (if (x3.2 == x5.2) = true then (some (.inl (x3.1, x3.2, true))) else (if x3.2 = true then (some (.inl (x3.1, true, false))) else (some (.inr ())))) else (if x3.2 = true then (some (.inl (x3.1, true, false))) else (some (.inr ()))))) else (if (seq x3.1 x5.1) = true then (if (x3.2 == x5.2) = true then (some (.inl (x3.1, x3.2, true))) else (if x3.2 = true then (some (.inl (x3.1, true, false))) else (some (.inr ())))) else (if x3.2 = true then (some (.inl (x3.1, true, false))) else (some (.inr ()))))) : Option ((Str × Bool × Bool) ⊕ Unit))).bind fun q => match q with | .inl r => some r | .inr q7 => some (x5.1, true, false)
def Ed7 : Con := ⟨(List Tag) × (List Tag) × (List Tag) × Str, (Str × Bool × Bool), 51, fun a => [.ro (List.map bb7 a.1), .ro (List.map bb7 a.2.1), .ro (List.map bb7 a.2.2.1), .v (.string a.2.2.2)], fun a => qw7 a.1 a.2.1 a.2.2.1 a.2.2.2, fun a r => ⟨[(false, [.v (.string r.1)]), (false, [.v (.bool r.2.1)]), (false, [.v (.bool r.2.2)])], []⟩, fun a => []⟩
def IA7 : IFn := ⟨18, [.inr (4, 4), .inl 5],
 (Rs (sq 4 [Io (.alloc 100 [.v (.string ⟨#[]⟩), .v (.int .i64 0), .sl true 66 [], .sl true 82 []]), Kb false] [])
 (Rs (sq 7 [Mv 0, Mv 1, Ca 39 [7, 8]] [Mv 9 6])
 (.seq (Rs (sq 10 [Mv 6, Bk .lss 10 0] [])
 (Ct 11 (Rs [Io (.build [.v (.string ⟨#[]⟩), .v (.int .i64 0), .nil, .nil] []) 12, Sv [none, none, some 66, some 82] 4 12, Kb false 5]
 .ret)
 .skip))
 (Rs (sq 13 [Mv 0, Mv 6, Ia 4 13 14, La 4 15, Ca 30 [16]] [Sv [none, none, some 66, some 82] 4 17, Kb true 5])
 .ret)))), lcF []⟩
def IB7 : List (List (Option Nat)) := [[none, none, some 66, some 82], [none]]
def ly7 (a0 : (List Feat)) (a1 : Str) : Option (Feat × Bool) := (jT7 a0 a1).bind fun x2 => if (decide (x2 < 0)) = true then (some ((⟨(⟨#[]⟩ : Str), ⟨0, []⟩, []⟩ : Feat), false)) else ((idx a0 x2).bind fun x4 => (g97 x4).bind fun x6 => some (x6, true))
def vx7 : Con := ⟨(List Feat) × Str, (Feat × Bool), 52, fun a => [.ro (List.map (aj7 false) a.1), .v (.string a.2)], fun a => ly7 a.1 a.2, fun a r => ⟨[(true, aj7 true r.1), (false, [.v (.bool r.2)])], []⟩, fun a => []⟩
def IC7 : IFn := ⟨96, [.inr (6, 4), .inl 7],
 (Rs (sq 3 [Io (.box 100 [none, none, some 66, some 82] (.t 0)), Io (.box 100 [none, none, some 66, some 82] (.t 1)), Io (.box 100 [none, none, some 66, some 82] (.t 2)), Io (.alloc 100 [.v (.string ⟨#[]⟩), .v (.int .i64 0), .sl true 66 [], .sl true 82 []]), Io (.mv (.c (.slice none 0 0)))] [])
 (Rs [Io (.lit 49 [none] [.v (.string ⟨#[]⟩)] 0 []) 17, Mv 17 8]
 (eH7 (.reg (sq 19 [Fa 1 3, La 2 19, Fa 1 4, La 2 21, Fa 1 5, La 2 23, Ca 49 [20, 22, 24]] (Mv 25 18 :: (sq 26 [Xt 18 0, Xt 18 1] [Io (.alloc 226 [.v (.int .i64 0), .sl true 66 []]) 9, Sv [none, some 66] 9 26, Mv 27 10]))))
 (eH7 (Rs (sq 28 [Mv 10, Nt 28] [])
 (Ct 29 (.reg (sq 30 [Mv 8, Io (.lit 49 [none] [.v (.string ⟨#[]⟩)] 1 [(0, .c (.string ⟨#[115, 104, 97, 112, 101]⟩))]), Io (.app 49 true (.t 30) (.t 31))] [Mv 32 8]))
 .skip))
 (.seq (.drw (sq 33 [Fa 0 4, Ld 1 33, La 2 9, Ca 29 [35], Io (.build [.v (.string ⟨#[]⟩), .v (.int .i64 0), .nil, .nil] [(0, 1, .t 34), (1, 2, .t 36)])] [Io (.alloc 100 [.v (.string ⟨#[]⟩), .v (.int .i64 0), .sl true 66 [], .sl true 82 []]) 11, Sv [none, none, some 66, some 82] 11 37]) [(1, 2), (1, 3), (1, 5), (2, 5), (3, 5)])
 (Rs (sq 38 [Fa 3 3, Ld 1 38, Fa 3 4, Ld 1 40, Fa 3 5, Ld 1 42, Ca 50 [39, 41, 43]] [Mv 44 12])
 (.seq (Rs [Ki 0 13]
 (bU7 0 (.loop (.seq (Rs (sq 45 [Mv 13, Mv 12, Ln 46, Bb .lss 45 47] [])
 (Ct 48 .skip
 (.exit 0)))
 (.seq (.block 1 (.seq (.drw (sq 52 [Fa 3 3, Ld 1 52, Fa 3 4, Ld 1 54, Fa 3 5, Ld 1 56, Mv 12, Mv 13, Ia 1 58 59, Ld 1 60, Ca 51 [53, 55, 57, 61]] (Mv 62 51 :: (sq 63 [Xt 51 0, Xt 51 1, Xt 51 2] (sq 14 [Mv 63, Mv 64, Mv 65] [])))) [(1, 3), (1, 5), (3, 5), (1, 9), (3, 9), (5, 9)])
 (.seq (Rs (sq 66 [Mv 16, Nt 66] [])
 (Ct 67 (.reg (sq 68 [Mv 8, Mv 12, Mv 13, Ia 1 69 70, Ld 1 71, Io (.bin .add (.c (.string ⟨#[116, 97, 103, 32]⟩)) (.t 72)), Io (.lit 49 [none] [.v (.string ⟨#[]⟩)] 1 [(0, .t 73)]), Io (.app 49 true (.t 68) (.t 74))] [Mv 75 8]))
 .skip))
 (Rs [Mv 15 76]
 (Ct 76 (.drw (sq 77 [Fa 3 11, Ld 1 77, Mv 12, Mv 13, Ia 1 79 80, Ld 1 81, Mv 14, Io (.build [.v (.string ⟨#[]⟩), .v (.string ⟨#[]⟩)] [(0, 1, .t 82), (1, 1, .t 83)]), Io (.lit 82 [none, none] [.v (.string ⟨#[]⟩), .v (.string ⟨#[]⟩)] 1 [(0, .t 84)]), Io (.app 82 true (.t 78) (.t 85)), Fa 3 11] [Sv [some 82] 87 86]) [(1, 5), (1, 8)])
 .skip)))))
 (.reg (sq 49 [Mv 13, Bk .add 49 1] [Mv 50 13])))))))
 (.seq (Rs (sq 88 [La 4 11, Ca 17 [88], Nt 89] [])
 (Ct 90 (Rs (sq 91 [La 4 4, Ca 30 [91], Io (.lit 49 [none] [.v (.string ⟨#[]⟩)] 1 [(0, .c (.string ⟨#[109, 117, 99, 104]⟩))])] [Sv [none, none, some 66, some 82] 6 92, Mv 93 7])
 .ret)
 .skip))
 (Rs (sq 94 [La 4 11, Mv 8] [Sv [none, none, some 66, some 82] 6 94, Mv 95 7])
 .ret))))))))), lcF []⟩
def ID7 : List (List (Option Nat)) := [[none, none, some 66, some 82], [some 49]]
def cO7 (a0 : Feat) (a1 : Feat) (a2 : Feat) : List Str → Nat → (List Str) → (List Tag) → Option ((List Str) × (List Tag))
 | [], k106, v99, v102 => some (v99, v102)
 | x107 :: l108, k106, v99, v102 => (qw7 a0.tags a1.tags a2.tags x107).bind fun x115 => if (!x115.2.2) = true then ((cat (⟨#[116, 97, 103, 32]⟩ : Str) x107).bind fun x117 => if aH7 (v99 ++ ([x117] : (List Str))).length = true then if x115.2.1 = true then (if aH7 (v102 ++ ([(⟨x107, x115.1⟩ : Tag)] : (List Tag))).length = true then cO7 a0 a1 a2 l108 (k106 + 1) (v99 ++ ([x117] : (List Str))) (v102 ++ ([(⟨x107, x115.1⟩ : Tag)] : (List Tag))) else none) else (cO7 a0 a1 a2 l108 (k106 + 1) (v99 ++ ([x117] : (List Str))) v102) else none) else (if x115.2.1 = true then (if aH7 (v102 ++ ([(⟨x107, x115.1⟩ : Tag)] : (List Tag))).length = true then cO7 a0 a1 a2 l108 (k106 + 1) v99 (v102 ++ ([(⟨x107, x115.1⟩ : Tag)] : (List Tag))) else none) else (cO7 a0 a1 a2 l108 (k106 + 1) v99 v102))
def qx7 (a0 : Feat) (a1 : Feat) (a2 : Feat) : Option (Feat × (List Str)) := (((qu7 a0.shape a1.shape a2.shape).bind fun x7 => some (x7.2, x7.1.kind, x7.1.pts) : Option (Bool × Int × (List Pt)))).bind fun q6 => ((if (!q6.1) = true then (if aH7 ([] ++ ([(⟨#[115, 104, 97, 112, 101]⟩ : Str)] : (List Str))).length = true then some ([] ++ ([(⟨#[115, 104, 97, 112, 101]⟩ : Str)] : (List Str))) else none) else (some []) : Option (List Str))).bind fun q18 => (lv7 (⟨q6.2.1, q6.2.2⟩ : aD7)).bind fun x26 => (qv7 a0.tags a1.tags a2.tags).bind fun x31 => if aH7 x31.length = true then ((cO7 a0 a1 a2 x31 0 q18 []).bind fun q97 => (ls7 (⟨a1.id, x26, q97.2⟩ : Feat)).bind fun x138 => if (!x138) = true then ((g97 a1).bind fun x140 => some (x140, ([(⟨#[109, 117, 99, 104]⟩ : Str)] : (List Str)))) else (some ((⟨a1.id, x26, q97.2⟩ : Feat), q97.1))) else none
def z47 : Con := ⟨Feat × Feat × Feat, (Feat × (List Str)), 53, fun a => [.agg [.v (.string a.1.id), .v (.int .i64 a.1.shape.kind), .ro (List.map ePt a.1.shape.pts), .ro (List.map bb7 a.1.tags)], .agg [.v (.string a.2.1.id), .v (.int .i64 a.2.1.shape.kind), .ro (List.map ePt a.2.1.shape.pts), .ro (List.map bb7 a.2.1.tags)], .agg [.v (.string a.2.2.id), .v (.int .i64 a.2.2.shape.kind), .ro (List.map ePt a.2.2.shape.pts), .ro (List.map bb7 a.2.2.tags)]], fun a => qx7 a.1 a.2.1 a.2.2, fun a r => ⟨[(true, aj7 true r.1), (false, [sl true 49 (List.map cv7 r.2)])], []⟩, fun a => []⟩
def IE7 : IFn := ⟨25, [.inl 6],
 (Rs [Io (.mv (.c (.slice none 0 0))) 6]
 (Rs [Mv 0 9, Mv 9 7]
 (.seq (Rs [Ki 0 8]
 (bU7 0 (.loop (.seq (Rs (sq 10 [Mv 8, Mv 1, Ln 11, Bb .lss 10 12] [])
 (Ct 13 .skip
 (.exit 0)))
 (.seq (.block 1 (.reg (sq 16 [Mv 7, Mv 1, Mv 8, Ia 4 17 18, La 4 19, Io (.frz (.call 37 [(false, .t 16), (false, .t 20)]))] [Mv 21 7])))
 (.reg (sq 14 [Mv 8, Bk .add 14 1] [Mv 15 8])))))))
 (Rs (sq 22 [Mv 7, Mv 2, Ca 38 [22, 23]] [Mv 24 6])
 .ret)))), lcF []⟩
def IF7 : List (List (Option Nat)) := [[some 49]]
def ft7 : List Feat → Nat → (List Feat) → Option (List Feat)
 | [], k24, v22 => some v22
 | x25 :: l26, k24, v22 => (fV7 v22 x25).bind fun x33 => ft7 l26 (k24 + 1) x33
def qy7 (a0 : (List Feat)) (a1 : (List Feat)) (a2 : (List Feat)) : Option (List Str) := if aH7 a1.length = true then ((ft7 a1 0 a0).bind fun q21 => (qq7 q21 a2).bind fun x38 => some (x38)) else none
def Ee7 : Con := ⟨(List Feat) × (List Feat) × (List Feat), (List Str), 54, fun a => [.ro (List.map (aj7 false) a.1), .ro (List.map (aj7 false) a.2.1), .ro (List.map (aj7 false) a.2.2)], fun a => qy7 a.1 a.2.1 a.2.2, fun a r => ⟨[(false, [sl true 49 (List.map cv7 r)])], []⟩, fun a => []⟩
def IG7 : IFn := ⟨97, [.inr (8, 4), .inl 9, .inl 10],
 (Rs (sq 8 [Io (.alloc 100 [.v (.string ⟨#[]⟩), .v (.int .i64 0), .sl true 66 [], .sl true 82 []]), Kb false, Io (.mv (.c (.slice none 0 0)))] [])
 (Rs (sq 21 [Mv 0, Mv 3, Ca 52 [21, 22]] (Mv 23 20 :: (sq 24 [Xt 20 0, Xt 20 1] [Io (.alloc 100 [.v (.string ⟨#[]⟩), .v (.int .i64 0), .sl true 66 [], .sl true 82 []]) 11, Sv [none, none, some 66, some 82] 11 24, Mv 25 12])))
 (eH7 (.reg (sq 27 [Mv 1, Mv 3, Ca 52 [27, 28]] (Mv 29 26 :: (sq 30 [Xt 26 0, Xt 26 1] [Io (.alloc 100 [.v (.string ⟨#[]⟩), .v (.int .i64 0), .sl true 66 [], .sl true 82 []]) 13, Sv [none, none, some 66, some 82] 13 30, Mv 31 14]))))
 (Rs (sq 33 [Mv 2, Mv 3, Ca 52 [33, 34]] (Mv 35 32 :: (sq 36 [Xt 32 0, Xt 32 1] [Io (.alloc 100 [.v (.string ⟨#[]⟩), .v (.int .i64 0), .sl true 66 [], .sl true 82 []]) 15, Sv [none, none, some 66, some 82] 15 36, Mv 37 16])))
 (Rs [Io (.lit 49 [none] [.v (.string ⟨#[]⟩)] 0 []) 38, Mv 38 17]
 (eH7 (.block 0 (Rs (sq 40 [Mv 14, Mv 12, Io (.eqs false false [1] (.t 40) (.t 41)), Mv 42] (Sg 43 44 [La 4 13, La 4 11, Ca 21 [44, 45]] [Pf 43 46 47, Mv 47 39]))
 (Ct 39 (Rs (sq 48 [La 4 15, Mv 16, Mv 17] (Sv [none, none, some 66, some 82] 8 48 :: (sq 9 [Mv 49, Mv 50] [])))
 .ret)
 (eH7 (.reg (sq 52 [Mv 16, Mv 12, Io (.eqs false false [1] (.t 52) (.t 53)), Mv 54] (Sg 55 56 [La 4 15, La 4 11, Ca 21 [56, 57]] (sq 59 [Pf 55 58, Mv 59] (Sf 60 61 [Mv 14, Mv 16, Io (.eqs false false [1] (.t 61) (.t 62)), Mv 63] (Sg 64 65 [La 4 13, La 4 15, Ca 21 [65, 66]] [Gf 60 (Pf 64 67 68), Pk 60 68 69, Mv 69 51]))))))
 (Ct 51 (Rs (sq 70 [La 4 13, Mv 14, Mv 17] (Sv [none, none, some 66, some 82] 8 70 :: (sq 9 [Mv 71, Mv 72] [])))
 .ret)
 (Rs (sq 74 [Mv 14, Nt 74] [Mv 75 73])
 (Ct 73 (Rs (sq 76 [La 4 15, Io (.lit 49 [none] [.v (.string ⟨#[]⟩)] 1 [(0, .c (.string ⟨#[103, 111, 110, 101]⟩))])] (Sv [none, none, some 66, some 82] 8 76 :: (sq 9 [Kb true, Mv 77] [])))
 .ret)
 (Rs (sq 79 [Mv 16, Nt 79] [Mv 80 78])
 (Ct 78 (Rs (sq 81 [La 4 13, Io (.lit 49 [none] [.v (.string ⟨#[]⟩)] 1 [(0, .c (.string ⟨#[103, 111, 110, 101]⟩))])] (Sv [none, none, some 66, some 82] 8 81 :: (sq 9 [Kb true, Mv 82] [])))
 .ret)
 (Rs (sq 84 [Mv 12, Nt 84] [Mv 85 83])
 (Ct 83 (Rs (sq 86 [La 4 13, Io (.lit 49 [none] [.v (.string ⟨#[]⟩)] 1 [(0, .c (.string ⟨#[98, 111, 116, 104]⟩))])] (Sv [none, none, some 66, some 82] 8 86 :: (sq 9 [Kb true, Mv 87] [])))
 .ret)
 .skip)))))))))))
 (Rs (sq 89 [La 4 11, La 4 13, La 4 15, Ca 53 [89, 90, 91]] (Mv 92 88 :: (sq 93 [Xt 88 0, Xt 88 1] [Io (.alloc 100 [.v (.string ⟨#[]⟩), .v (.int .i64 0), .sl true 66 [], .sl true 82 []]) 18, Sv [none, none, some 66, some 82] 18 93, Mv 94 19])))
 (Rs (sq 95 [La 4 18, Mv 19] (Sv [none, none, some 66, some 82] 8 95 :: (sq 9 [Kb true, Mv 96] [])))
 .ret)))))))), lcF []⟩
def IH7 : List (List (Option Nat)) := [[none, none, some 66, some 82], [none], [some 49]]
def qz7 (a0 : (List Feat)) (a1 : (List Feat)) (a2 : (List Feat)) (a3 : Str) : Option (Feat × Bool × (List Str)) := (ly7 a0 a3).bind fun x2 => (((ly7 a1 a3).bind fun x10 => some (x10.2, x10.1.shape.pts, x10.1.tags, x10.1.id, x10.1.shape.kind) : Option (Bool × (List Pt) × (List Tag) × Str × Int))).bind fun q9 => (ly7 a2 a3).bind fun x37 => ((if (q9.1 == x2.2) = true then ((fU7 (⟨q9.2.2.2.1, ⟨q9.2.2.2.2, q9.2.1⟩, q9.2.2.1⟩ : Feat) x2.1).bind fun x114 => if x114 = true then (some (.inl (x37.1, x37.2, ([] : (List Str))))) else (((if (x37.2 == x2.2) = true then ((fU7 x37.1 x2.1).bind fun x117 => if x117 = true then (some true) else (if (q9.1 == x37.2) = true then ((fU7 (⟨q9.2.2.2.1, ⟨q9.2.2.2.2, q9.2.1⟩, q9.2.2.1⟩ : Feat) x37.1).bind fun x119 => some x119) else (some false))) else (if (q9.1 == x37.2) = true then ((fU7 (⟨q9.2.2.2.1, ⟨q9.2.2.2.2, q9.2.1⟩, q9.2.2.1⟩ : Feat) x37.1).bind fun x121 => some x121) else (some false)) : Option Bool)).bind fun q116 => if q116 = true then (some (.inl ((⟨q9.2.2.2.1, ⟨q9.2.2.2.2, q9.2.1⟩, q9.2.2.1⟩ : Feat), q9.1, ([] : (List Str))))) else (if (!q9.1) = true then (some (.inl (x37.1, true, ([(⟨#[103, 111, 110, 101]⟩ : Str)] : (List Str))))) else (if (!x37.2) = true then (some (.inl ((⟨q9.2.2.2.1, ⟨q9.2.2.2.2, q9.2.1⟩, q9.2.2.1⟩ : Feat), true, ([(⟨#[103, 111, 110, 101]⟩ : Str)] : (List Str))))) else (if (!x2.2) = true then (some (.inl ((⟨q9.2.2.2.1, ⟨q9.2.2.2.2, q9.2.1⟩, q9.2.2.1⟩ : Feat), true, ([(⟨#[98, 111, 116, 104]⟩ : Str)] : (List Str))))) else (some (.inr ()))))))) else (((if (x37.2 == x2.2) = true then ((fU7 x37.1 x2.1).bind fun x150 => if x150 = true then (some true) else (if (q9.1 == x37.2) = true then ((fU7 (⟨q9.2.2.2.1, ⟨q9.2.2.2.2, q9.2.1⟩, q9.2.2.1⟩ : Feat) x37.1).bind fun x152 => some x152) else (some false))) else (if (q9.1 == x37.2) = true then ((fU7 (⟨q9.2.2.2.1, ⟨q9.2.2.2.2, q9.2.1⟩, q9.2.2.1⟩ : Feat) x37.1).bind fun x154 => some x154) else (some false)) : Option Bool)).bind fun q149 => if q149 = true then (some (.inl ((⟨q9.2.2.2.1, ⟨q9.2.2.2.2, q9.2.1⟩, q9.2.2.1⟩ : Feat), q9.1, ([] : (List Str))))) else (if (!q9.1) = true then (some (.inl (x37.1, true, ([(⟨#[103, 111, 110, 101]⟩ : Str)] : (List Str))))) else (if (!x37.2) = true then (some (.inl ((⟨q9.2.2.2.1, ⟨q9.2.2.2.2, q9.2.1⟩, q9.2.2.1⟩ : Feat), true, ([(⟨#[103, 111, 110, 101]⟩ : Str)] : (List Str))))) else (if (!x2.2) = true then (some (.inl ((⟨q9.2.2.2.1, ⟨q9.2.2.2.2, q9.2.1⟩, q9.2.2.1⟩ : Feat), true, ([(⟨#[98, 111, 116, 104]⟩ : Str)] : (List Str))))) else (some (.inr ())))))) : Option ((Feat × Bool × (List Str)) ⊕ Unit))).bind fun q => match q with | .inl r => some r | .inr q113 => (qx7 x2.1 (⟨q9.2.2.2.1, ⟨q9.2.2.2.2, q9.2.1⟩, q9.2.2.1⟩ : Feat) x37.1).bind fun x202 => some (x202.1, true, x202.2)
def Ef7 : Con := ⟨(List Feat) × (List Feat) × (List Feat) × Str, (Feat × Bool × (List Str)), 55, fun a => [.ro (List.map (aj7 false) a.1), .ro (List.map (aj7 false) a.2.1), .ro (List.map (aj7 false) a.2.2.1), .v (.string a.2.2.2)], fun a => qz7 a.1 a.2.1 a.2.2.1 a.2.2.2, fun a r => ⟨[(true, aj7 true r.1), (false, [.v (.bool r.2.1)]), (false, [sl true 49 (List.map cv7 r.2.2)])], []⟩, fun a => []⟩
def II7 : IFn := ⟨69, [.inl 6, .inl 7, .inl 8],
 (Rs (sq 6 [Io (.mv (.c (.slice none 0 0))), Io (.mv (.c (.slice none 0 0))), Kb false] [])
 (Rs [Io (.lit 100 [none, none, some 66, some 82] [.v (.string ⟨#[]⟩), .v (.int .i64 0), .sl true 66 [], .sl true 82 []] 0 []) 17, Mv 17 9]
 (Rs [Io (.lit 178 [none, none] [.v (.string ⟨#[]⟩), .v (.string ⟨#[]⟩)] 0 []) 18, Mv 18 10]
 (Rs (sq 19 [Mv 0, Mv 1, Mv 2, Ca 54 [19, 20, 21]] [Mv 22 11])
 (.seq (Rs [Ki 0 12]
 (bU7 0 (.loop (.seq (Rs (sq 23 [Mv 12, Mv 11, Ln 24, Bb .lss 23 25] [])
 (Ct 26 .skip
 (.exit 0)))
 (.seq (.block 1 (Rs (sq 30 [Mv 0, Mv 1, Mv 2, Mv 11, Mv 12, Ia 1 33 34, Ld 1 35, Ca 55 [30, 31, 32, 36]] (Mv 37 29 :: (sq 38 [Xt 29 0, Xt 29 1, Xt 29 2] (Io (.alloc 100 [.v (.string ⟨#[]⟩), .v (.int .i64 0), .sl true 66 [], .sl true 82 []]) 13 :: (Sv [none, none, some 66, some 82] 13 38 :: (sq 14 [Mv 39, Mv 40] []))))))
 (eH7 (Rs [Mv 14 41]
 (Ct 41 (.reg (sq 42 [Mv 9, La 4 13, Io (.lit 100 [none, none, some 66, some 82] [.v (.string ⟨#[]⟩), .v (.int .i64 0), .sl true 66 [], .sl true 82 []] 1 [(0, .t 43)]), Io (.app 100 true (.t 42) (.t 44))] [Mv 45 9]))
 .skip))
 (Rs [Ki 0 16]
 (bU7 2 (.loop (.seq (Rs (sq 46 [Mv 16, Mv 15, Ln 47, Bb .lss 46 48] [])
 (Ct 49 .skip
 (.exit 2)))
 (.seq (.block 3 (.drw (sq 52 [Mv 10, Mv 11, Mv 12, Ia 1 53 54, Ld 1 55, Mv 15, Mv 16, Ia 1 57 58, Ld 1 59, Io (.build [.v (.string ⟨#[]⟩), .v (.string ⟨#[]⟩)] [(0, 1, .t 56), (1, 1, .t 60)]), Io (.lit 178 [none, none] [.v (.string ⟨#[]⟩), .v (.string ⟨#[]⟩)] 1 [(0, .t 61)]), Io (.app 178 true (.t 52) (.t 62))] [Mv 63 10]) [(4, 8)]))
 (.reg (sq 50 [Mv 16, Bk .add 50 1] [Mv 51 16]))))))))))
 (.reg (sq 27 [Mv 12, Bk .add 27 1] [Mv 28 12])))))))
 (Rs (sq 64 [Mv 9, Ca 31 [64], Mv 10, Mv 9, Ca 26 [67]] (sq 6 [Mv 65, Mv 66, Mv 68] []))
 .ret)))))), lcF []⟩
def IJ7 : List (List (Option Nat)) := [[some 100], [some 178], [none]]
def ed7 (x221 : Str) : List Str → Nat → (List aL7) → Option (List aL7)
 | [], k277, v274 => some v274
 | x278 :: l279, k277, v274 => if aH7 (v274 ++ ([(⟨x221, x278⟩ : aL7)] : (List aL7))).length = true then ed7 x221 l279 (k277 + 1) (v274 ++ ([(⟨x221, x278⟩ : aL7)] : (List aL7))) else none
def ee7 (a0 : (List Feat)) (a1 : (List Feat)) (a2 : (List Feat)) : List Str → Nat → (List Feat) → (List aL7) → Option ((List Feat) × (List aL7))
 | [], k220, v214, v217 => some (v214, v217)
 | x221 :: l222, k220, v214, v217 => (qz7 a0 a1 a2 x221).bind fun x229 => ((if x229.2.1 = true then (if aH7 (v214 ++ ([x229.1] : (List Feat))).length = true then some (v214 ++ ([x229.1] : (List Feat))) else none) else (some v214) : Option (List Feat))).bind fun q242 => if aH7 x229.2.2.length = true then ((ed7 x221 x229.2.2 0 v217).bind fun q272 => ee7 a0 a1 a2 l222 (k220 + 1) q242 q272) else none
def tY7 (a0 : (List Feat)) (a1 : (List Feat)) (a2 : (List Feat)) : Option ((List Feat) × (List aL7) × Bool) := (qy7 a0 a1 a2).bind fun x3 => if aH7 x3.length = true then ((ee7 a0 a1 a2 x3 0 [] []).bind fun q212 => (no7 q212.1).bind fun x299 => (g87 q212.1).bind fun x303 => some (x299, q212.2, x303)) else none
def Eg7 : Con := ⟨(List Feat) × (List Feat) × (List Feat), ((List Feat) × (List aL7) × Bool), 56, fun a => [.ro (List.map (aj7 false) a.1), .ro (List.map (aj7 false) a.2.1), .ro (List.map (aj7 false) a.2.2)], fun a => tY7 a.1 a.2.1 a.2.2, fun a r => ⟨[(false, [sl true 100 (List.map (aj7 true) r.1)]), (false, [sl true 178 (List.map bh7 r.2.1)]), (false, [.v (.bool r.2.2)])], []⟩, fun a => []⟩
def IK7 : IFn := ⟨18, [.inl 6],
 (Rs [Io (.box 210 [some 115, some 130] (.t 0)) 3, Ki 0 6]
 (Rs (sq 8 [La 2 3, Mv 1, Mv 2, Ca 36 [8, 9, 10]] [Mv 11 7])
 (.seq (Rs (sq 12 [Mv 7, Ln 12, Bk .eql 13 0] [])
 (Ct 14 (Rs [Ki (-1) 6]
 .ret)
 .skip))
 (Rs (sq 15 [Mv 7, Ik 1 15 0, Ld 1 16] [Mv 17 6])
 .ret)))), lcF []⟩
def IL7 : List (List (Option Nat)) := [[none]]
def nw7 (a0 : aF7) (a1 : Int) (a2 : Int) : Option Int := (qo7 a0 a1 a2).bind fun x2 => if ((x2.length : Int) == 0) = true then (some ((-1))) else ((idx x2 0).bind fun x6 => some (x6))
def xM7 : Con := ⟨aF7 × Int × Int, Int, 57, fun a => [.agg [.ro (List.map (am7 false) a.1.commits), .ro (List.map aW7 a.1.heads)], .v (.int .i64 a.2.1), .v (.int .i64 a.2.2)], fun a => nw7 a.1 a.2.1 a.2.2, fun a r => ⟨[(false, [.v (.int .i64 r)])], []⟩, fun a => []⟩
def IM7 : IFn := ⟨41, [.inl 6, .inl 7, .inl 8],
 (Rs (sq 6 [Io (.mv (.c (.slice none 0 0))), Io (.mv (.c (.slice none 0 0))), Kb false] [])
 (.seq (Rs (sq 12 [Mv 0, Ca 26 [12], Nt 13, Mv 14] (Sf 15 16 [Mv 1, Ca 26 [16], Nt 17] (sq 19 [Pk 15 18, Mv 19] (Sf 20 21 [Mv 2, Ca 26 [21], Nt 22] [Pk 20 23 24]))))
 (Ct 24 (Rs (sq 25 [Io (.lit 100 [none, none, some 66, some 82] [.v (.string ⟨#[]⟩), .v (.int .i64 0), .sl true 66 [], .sl true 82 []] 0 []), Io (.lit 178 [none, none] [.v (.string ⟨#[]⟩), .v (.string ⟨#[]⟩)] 0 [])] (sq 6 [Mv 25, Mv 26, Kb false] []))
 .ret)
 .skip))
 (Rs (sq 28 [Mv 0, Mv 1, Mv 2, Ca 56 [28, 29, 30]] (Mv 31 27 :: (sq 32 [Xt 27 0, Xt 27 1, Xt 27 2] (sq 9 [Mv 32, Mv 33, Mv 34] []))))
 (.seq (Rs (sq 35 [Mv 11, Nt 35] [])
 (Ct 36 (Rs (sq 37 [Io (.lit 100 [none, none, some 66, some 82] [.v (.string ⟨#[]⟩), .v (.int .i64 0), .sl true 66 [], .sl true 82 []] 0 []), Io (.lit 178 [none, none] [.v (.string ⟨#[]⟩), .v (.string ⟨#[]⟩)] 0 [])] (sq 6 [Mv 37, Mv 38, Kb false] []))
 .ret)
 .skip))
 (Rs (sq 39 [Mv 9, Mv 10] (sq 6 [Mv 39, Mv 40, Kb true] []))
 .ret))))), lcF []⟩
def IN7 : List (List (Option Nat)) := [[some 100], [some 178], [none]]
def qA7 (a0 : (List Feat)) (a1 : (List Feat)) (a2 : (List Feat)) : Option ((List Feat) × (List aL7) × Bool) := (g87 a0).bind fun x1 => if (!x1) = true then (some (([] : (List Feat)), ([] : (List aL7)), false)) else ((g87 a1).bind fun x3 => if (!x3) = true then (some (([] : (List Feat)), ([] : (List aL7)), false)) else ((g87 a2).bind fun x5 => if (!x5) = true then (some (([] : (List Feat)), ([] : (List aL7)), false)) else ((tY7 a0 a1 a2).bind fun x13 => if (!x13.2.2) = true then (some (([] : (List Feat)), ([] : (List aL7)), false)) else (some (x13.1, x13.2.1, true)))))
def Eh7 : Con := ⟨(List Feat) × (List Feat) × (List Feat), ((List Feat) × (List aL7) × Bool), 58, fun a => [.ro (List.map (aj7 false) a.1), .ro (List.map (aj7 false) a.2.1), .ro (List.map (aj7 false) a.2.2)], fun a => qA7 a.1 a.2.1 a.2.2, fun a r => ⟨[(false, [sl true 100 (List.map (aj7 true) r.1)]), (false, [sl true 178 (List.map bh7 r.2.1)]), (false, [.v (.bool r.2.2)])], []⟩, fun a => []⟩
def IO7 : IFn := ⟨40, [.inl 6, .inl 7, .inl 8],
 (Rs (Io (.box 210 [some 115, some 130] (.t 0)) 3 :: (sq 6 [Io (.mv (.c (.slice none 0 0))), Io (.mv (.c (.slice none 0 0))), Kb false] []))
 (Rs (sq 10 [La 2 3, Mv 1, Mv 2, Ca 57 [10, 11, 12]] [Mv 13 9])
 (.seq (Rs (sq 14 [Mv 9, Bk .lss 14 0] [])
 (Ct 15 (Rs (sq 16 [Io (.lit 100 [none, none, some 66, some 82] [.v (.string ⟨#[]⟩), .v (.int .i64 0), .sl true 66 [], .sl true 82 []] 0 []), Io (.lit 178 [none, none] [.v (.string ⟨#[]⟩), .v (.string ⟨#[]⟩)] 0 [])] (sq 6 [Mv 16, Mv 17, Kb false] []))
 .ret)
 .skip))
 (.seq (.drw (sq 18 [Fa 0 3, Ld 1 18, Mv 9, Ia 3 19 20, Fa 1 21, Ld 1 22, Fa 0 3, Ld 1 24, Mv 1, Ia 3 25 26, Fa 1 27, Ld 1 28, Fa 0 3, Ld 1 30, Mv 2, Ia 3 31 32, Fa 1 33, Ld 1 34, Ca 58 [23, 29, 35], Xt 36 0, Xt 36 1, Xt 36 2] (sq 6 [Mv 37, Mv 38, Mv 39] [])) [(1, 7), (5, 7), (1, 11), (5, 11), (1, 13), (5, 13), (7, 13), (11, 13), (1, 17), (5, 17), (7, 17), (11, 17)])
 .ret)))), lcF []⟩
def IP7 : List (List (Option Nat)) := [[some 100], [some 178], [none]]
def qB7 (a0 : aF7) (a1 : Int) (a2 : Int) : Option ((List Feat) × (List aL7) × Bool) := (nw7 a0 a1 a2).bind fun x2 => if (decide (x2 < 0)) = true then (some (([] : (List Feat)), ([] : (List aL7)), false)) else ((idx a0.commits x2).bind fun x6 => (idx a0.commits a1).bind fun x8 => (idx a0.commits a2).bind fun x10 => (qA7 x6.sheet x8.sheet x10.sheet).bind fun x12 => some (x12.1, x12.2.1, x12.2.2))
def z57 : Con := ⟨aF7 × Int × Int, ((List Feat) × (List aL7) × Bool), 59, fun a => [.agg [.ro (List.map (am7 false) a.1.commits), .ro (List.map aW7 a.1.heads)], .v (.int .i64 a.2.1), .v (.int .i64 a.2.2)], fun a => qB7 a.1 a.2.1 a.2.2, fun a r => ⟨[(false, [sl true 100 (List.map (aj7 true) r.1)]), (false, [sl true 178 (List.map bh7 r.2.1)]), (false, [.v (.bool r.2.2)])], []⟩, fun a => []⟩
def IQ7 : IFn := ⟨30, [.inr (6, 2)],
 (Rs (Io (.box 210 [some 115, some 130] (.t 0)) 3 :: (sq 5 [Io (.box 115 [some 17, some 100, none] (.t 2)), Io (.alloc 210 [.sl true 115 [], .sl true 130 []])] []))
 (Rs (sq 8 [La 2 3, La 3 5, Ca 27 [8, 9]] [Mv 10 7])
 (.seq (Rs (sq 11 [Mv 7, Bk .lss 11 0] [])
 (Ct 12 (Rs (sq 13 [Fa 0 3, Ld 1 13, Ln 14] [Mv 15 7])
 (.drw (sq 16 [Fa 0 3, Ld 1 16, La 3 5, Ca 32 [18], Io (.lit 115 [some 17, some 100, none] [.sl true 17 [], .sl true 100 [], .v (.string ⟨#[]⟩)] 1 [(0, .t 19)]), Io (.app 115 true (.t 17) (.t 20)), Fa 0 3] [Sv [some 115] 22 21]) [(1, 2), (1, 3), (1, 4)]))
 .skip))
 (Rs (sq 23 [Fa 1 3, Ld 1 23, Mv 1, Mv 7, Ia 2 24 25, Fa 1 27] [Sv [none] 28 26])
 (Rs [La 2 3 29, Sv [some 115, some 130] 6 29]
 .ret))))), lcF []⟩
def IR7 : List (List (Option Nat)) := [[some 115, some 130]]
def qC7 (a0 : aF7) (a1 : Int) (a2 : Commit) : Option aF7 := (nn7 a0 a2).bind fun x4 => if (decide (x4 < 0)) = true then ((np7 a2).bind fun x6 => if aH7 (a0.commits ++ ([x6] : (List Commit))).length = true then (idx a0.heads a1).bind fun x16 => some ((⟨(a0.commits ++ ([x6] : (List Commit))), (List.set a0.heads a1.toNat (⟨x16.name, (a0.commits.length : Int)⟩ : Head))⟩ : aF7)) else none) else ((idx a0.heads a1).bind fun x18 => some ((⟨a0.commits, (List.set a0.heads a1.toNat (⟨x18.name, x4⟩ : Head))⟩ : aF7)))
def z67 : Con := ⟨aF7 × Int × Commit, aF7, 60, fun a => [.agg [.io 0 a.1.commits.length 115, .io 1 a.1.heads.length 130], .v (.int .i64 a.2.1), .agg [.ro (List.map bz7 a.2.2.up), .ro (List.map (aj7 false) a.2.2.sheet), .v (.string a.2.2.note)]], fun a => qC7 a.1 a.2.1 a.2.2, fun a r => ⟨[(true, od7 true r)], [none, none]⟩, fun a => [(false, 115, List.map (am7 true) a.1.commits), (false, 130, List.map aW7 a.1.heads)]⟩
def IS7 : IFn := ⟨29, [.inr (2, 2)],
 (Rs (sq 1 [Io (.box 210 [some 115, some 130] (.t 0)), Io (.alloc 210 [.sl true 115 [], .sl true 130 []])] [])
 (Rs (sq 5 [Io (.lit 130 [none, none] [.v (.string ⟨#[]⟩), .v (.int .i64 0)] 0 []), Fa 1 1, Ld 1 6, Io (.app 130 false (.t 5) (.t 7)), Io (.build [.nil, .nil] [(1, 1, .t 8)])] [Io (.alloc 210 [.sl true 115 [], .sl true 130 []]) 3, Sv [some 115, some 130] 3 9])
 (.seq (Rs [Ki 0 4]
 (bU7 0 (.loop (.seq (Rs (sq 10 [Mv 4, Fa 0 1, Ld 1 11, Ln 12, Bb .lss 10 13] [])
 (Ct 14 .skip
 (.exit 0)))
 (.seq (.block 1 (.drw (sq 17 [Fa 0 3, Ld 1 17, Fa 0 1, Ld 1 19, Mv 4, Ia 3 20 21, La 3 22, Ca 32 [23], Io (.lit 115 [some 17, some 100, none] [.sl true 17 [], .sl true 100 [], .v (.string ⟨#[]⟩)] 1 [(0, .t 24)]), Io (.app 115 true (.t 18) (.t 25)), Fa 0 3] [Sv [some 115] 27 26]) [(1, 3), (1, 6), (1, 7), (1, 8)]))
 (.reg (sq 15 [Mv 4, Bk .add 15 1] [Mv 16 4])))))))
 (Rs [La 2 3 28, Sv [some 115, some 130] 2 28]
 .ret)))), lcF []⟩
def IT7 : List (List (Option Nat)) := [[some 115, some 130]]
def gS7 : List Commit → Nat → (List Commit) → Option (List Commit)
 | [], k55, v51 => some v51
 | x56 :: l57, k55, v51 => (np7 x56).bind fun x64 => if aH7 (v51 ++ ([x64] : (List Commit))).length = true then gS7 l57 (k55 + 1) (v51 ++ ([x64] : (List Commit))) else none
def nx7 (a0 : aF7) : Option aF7 := if aH7 ([] ++ a0.heads).length = true then if aH7 a0.commits.length = true then ((gS7 a0.commits 0 []).bind fun q49 => some ((⟨q49, ([] ++ a0.heads)⟩ : aF7))) else none else none
def xN7 : Con := ⟨aF7, aF7, 61, fun a => [.agg [.ro (List.map (am7 false) a.commits), .ro (List.map aW7 a.heads)]], fun a => nx7 a, fun a r => ⟨[(true, od7 true r)], []⟩, fun a => []⟩
def IU7 : IFn := ⟨15, [.inl 6],
 (Rs [Kb false 6]
 (Rs (sq 7 [Mv 0, Mv 1, Bb .geq 7 8, Mv 9] (Sg 10 11 [Mv 0, Mv 2, Bb .leq 11 12] [Pf 10 13 14, Mv 14 6]))
 .ret)), lcF []⟩
def IV7 : List (List (Option Nat)) := [[none]]
def ef7 (a0 : Int) (a1 : Int) (a2 : Int) : Option Bool := if (decide (a0 ≥ a1)) = true then (some ((decide (a0 ≤ a2)))) else (some (false))
def sz7 : Con := ⟨Int × Int × Int, Bool, 76, fun a => [.v (.int .i64 a.1), .v (.int .i64 a.2.1), .v (.int .i64 a.2.2)], fun a => ef7 a.1 a.2.1 a.2.2, fun a r => ⟨[(false, [.v (.bool r)])], []⟩, fun a => []⟩
def IW7 : IFn := ⟨11, [.inl 2],
 (Rs (sq 1 [Io (.box 66 [none, none] (.t 0)), Kb false] [])
 (Rs (sq 3 [Fa 0 1, Ld 1 3, Io (.call 76 [(false, .t 4), (false, .c (.int .i64 (-1000))), (false, .c (.int .i64 1000))]), Mv 5] (Sg 6 7 [Fa 1 1, Ld 1 7, Io (.call 76 [(false, .t 8), (false, .c (.int .i64 (-1000))), (false, .c (.int .i64 1000))])] [Pf 6 9 10, Mv 10 2]))
 .ret)), lcF []⟩
def IX7 : List (List (Option Nat)) := [[none]]
def qD7 (a0 : Pt) : Option Bool := (ef7 a0.x (-1000) 1000).bind fun x2 => if x2 = true then ((ef7 a0.y (-1000) 1000).bind fun x4 => some (x4)) else (some (false))
def Ei7 : Con := ⟨Pt, Bool, 79, fun a => [.agg [.v (.int .i64 a.x), .v (.int .i64 a.y)]], fun a => qD7 a, fun a r => ⟨[(false, [.v (.bool r)])], []⟩, fun a => []⟩
def IY7 : IFn := ⟨23, [.inl 2],
 (Rs [Kb false 2]
 (.seq (Rs (sq 4 [Mv 0, Ls 4, Ki 0] [])
 (bU7 0 (.loop (Rs [Bb .lss 6 5 7]
 (.seq (Ct 7 .skip
 (.exit 0))
 (.seq (.block 1 (Rs [Mv 6 8, Mv 8 3]
 (Rs (sq 9 [Mv 0, Mv 3, Si 9 10, Io (.bin .lss (.t 11) (.c (.int .u8 97))), Mv 12] (Sf 13 14 [Mv 0, Mv 3, Si 14 15, Io (.bin .gtr (.t 16) (.c (.int .u8 122)))] [Pk 13 17 18]))
 (Ct 18 (Rs [Kb false 2]
 .ret)
 .skip))))
 (.reg [Bk .add 6 1 19, Mv 19 6])))))))
 (Rs (sq 20 [Mv 0, Ls 20, Io (.call 76 [(false, .t 21), (false, .c (.int .i64 1)), (false, .c (.int .i64 6))])] [Mv 22 2])
 .ret))), lcF []⟩
def IZ7 : List (List (Option Nat)) := [[none]]
def fu7 : List UInt8 → Nat → Option (Bool ⊕ Unit)
 | [], k10 => some (.inr ())
 | x11 :: l12, k10 => if (decide ((x11.toNat : Int) < 97)) = true then (some (.inl (false))) else (if (decide ((x11.toNat : Int) > 122)) = true then (some (.inl (false))) else (fu7 l12 (k10 + 1) ))
def ij7 (a0 : Str) : Option Bool := if aH7 a0.size = true then ((fu7 a0.data.toList 0 ).bind fun q => match q with | .inl r => some r | .inr q8 => (ef7 (a0.size : Int) 1 6).bind fun x19 => some (x19)) else none
def z77 : Con := ⟨Str, Bool, 80, fun a => [.v (.string a)], fun a => ij7 a, fun a r => ⟨[(false, [.v (.bool r)])], []⟩, fun a => []⟩
def I07 : IFn := ⟨62, [.inl 2],
 (Rs (sq 1 [Io (.box 226 [none, some 66] (.t 0)), Kb false] [])
 (.seq (Rs (sq 6 [Fa 1 1, Ld 1 6, Ln 7, Ki 0] [])
 (bU7 0 (.loop (Rs [Bb .lss 9 8 10]
 (.seq (Ct 10 .skip
 (.exit 0))
 (.seq (.block 1 (Rs (sq 11 [Mv 9, Ia 2 7 9, La 2 12] [Io (.alloc 66 [.v (.int .i64 0), .v (.int .i64 0)]) 4, Mv 11 3, Sv [none, none] 4 13])
 (.seq (.drw (sq 14 [La 2 4, Ca 79 [14], Nt 15, Mv 16] (Sf 17 18 [Mv 3, Bk .gtr 18 0, Mv 19] (Sg 20 21 [Fa 1 1, Ld 1 21, Mv 3, Bk .sub 23 1, Ia 2 22 24, La 2 25, La 2 4, Io (.eqs false true [0, 0] (.t 26) (.t 27))] [Gf 17 (Pf 20 28 29), Pk 17 29 30]))) [(8, 13), (12, 13)])
 (Ct 30 (Rs [Kb false 2]
 .ret)
 .skip))))
 (.reg [Bk .add 9 1 31, Mv 31 9])))))))
 (Rs (sq 32 [Fa 1 1, Ld 1 32, Ln 33] [Mv 34 5])
 (.seq (Rs (sq 35 [Fa 0 1, Ld 1 35] [])
 (.block 2 (Rs [Bk .eql 36 1 38, Mv 38 37]
 (Ct 37 (Rs (sq 39 [Mv 5, Bk .eql 39 1] [Mv 40 2])
 .ret)
 (Rs [Bk .eql 36 2 42, Mv 42 41]
 (Ct 41 (Rs (sq 43 [Mv 5, Io (.call 76 [(false, .t 43), (false, .c (.int .i64 2)), (false, .c (.int .i64 6))])] [Mv 44 2])
 .ret)
 (Rs [Bk .eql 36 3 46, Mv 46 45]
 (Ct 45 (.seq (.drw (sq 47 [Mv 5, Io (.call 76 [(false, .t 47), (false, .c (.int .i64 3)), (false, .c (.int .i64 6))]), Mv 48] (Sg 49 50 [Fa 1 1, Ld 1 50, Ik 2 51 0, La 2 52, Fa 1 1, Ld 1 54, Mv 5, Bk .sub 56 1, Ia 2 55 57, La 2 58, Io (.eqs true true [0, 0] (.t 53) (.t 59))] [Pf 49 60 61, Mv 61 2])) [(4, 8), (6, 8), (4, 12), (6, 12)])
 .ret)
 .skip))))))))
 (Rs [Kb false 2]
 .ret))))), lcF []⟩
def I17 : List (List (Option Nat)) := [[none]]
def eg7 (a0 : aD7) : List Pt → Nat → Option (Bool ⊕ Unit)
 | [], k24 => some (.inr ())
 | x25 :: l26, k24 => (qD7 x25).bind fun x34 => if (!x34) = true then (some (.inl (false))) else (if (decide ((k24 : Int) > 0)) = true then ((idx a0.pts (IntKind.i64.wrap ((k24 : Int) - 1))).bind fun x36 => if ((x36.x == x25.x) && ((x36.y == x25.y) && true)) = true then (some (.inl (false))) else (eg7 a0 l26 (k24 + 1) )) else (eg7 a0 l26 (k24 + 1) ))
def lz7 (a0 : aD7) : Option Bool := if aH7 a0.pts.length = true then ((eg7 a0 a0.pts 0 ).bind fun q => match q with | .inl r => some r | .inr q22 => if (a0.kind == 1) = true then (some (((a0.pts.length : Int) == 1))) else (if (a0.kind == 2) = true then ((ef7 (a0.pts.length : Int) 2 6).bind fun x38 => some (x38)) else (if (a0.kind == 3) = true then ((ef7 (a0.pts.length : Int) 3 6).bind fun x40 => if x40 = true then ((idx a0.pts 0).bind fun x42 => (idx a0.pts (IntKind.i64.wrap ((a0.pts.length : Int) - 1))).bind fun x44 => some ((!((x42.x == x44.x) && ((x42.y == x44.y) && true))))) else (some (false))) else (some (false))))) else none
def z87 : Con := ⟨aD7, Bool, 81, fun a => [.agg [.v (.int .i64 a.kind), .ro (List.map ePt a.pts)]], fun a => lz7 a, fun a r => ⟨[(false, [.v (.bool r)])], []⟩, fun a => []⟩
def I27 : IFn := ⟨54, [.inl 2],
 (Rs (sq 1 [Io (.box 100 [none, none, some 66, some 82] (.t 0)), Kb false] [])
 (.seq (Rs (sq 5 [Fa 3 1, Ld 1 5, Ln 6, Ki 0] [])
 (bU7 0 (.loop (Rs [Bb .lss 8 7 9]
 (.seq (Ct 9 .skip
 (.exit 0))
 (.seq (.block 1 (Rs (sq 10 [Mv 8, Ia 2 6 8, La 2 11] [Io (.alloc 82 [.v (.string ⟨#[]⟩), .v (.string ⟨#[]⟩)]) 4, Mv 10 3, Sv [none, none] 4 12])
 (.seq (.drw (sq 13 [Fa 0 4, Ld 1 13, Ca 80 [14], Nt 15, Mv 16] (Sf 17 18 [Fa 1 4, Ld 1 18, Ca 80 [19], Nt 20] (sq 22 [Pk 17 21, Mv 22] (Sf 23 24 [Mv 3, Bk .gtr 24 0, Mv 25] (Sg 26 27 [Fa 3 1, Ld 1 27, Mv 3, Bk .sub 29 1, Ia 2 28 30, Fa 0 31, Ld 1 32, Fa 0 4, Ld 1 34, Bb .geq 33 35] [Gf 23 (Pf 26 36 37), Pk 23 37 38]))))) [(15, 22), (20, 22)])
 (Ct 38 (Rs [Kb false 2]
 .ret)
 .skip))))
 (.reg [Bk .add 8 1 39, Mv 39 8])))))))
 (Rs (sq 40 [Fa 0 1, Ld 1 40, Ca 80 [41], Mv 42] (Sg 43 44 [Fa 1 1, La 2 44, Ca 81 [45]] (sq 47 [Pf 43 46, Mv 47] (Sg 48 49 [Fa 3 1, Ld 1 49, Ln 50, Bk .leq 51 4] [Pf 48 52 53, Mv 53 2]))))
 .ret))), lcF []⟩
def I37 : List (List (Option Nat)) := [[none]]
def eh7 (a0 : Feat) : List Tag → Nat → Option (Bool ⊕ Unit)
 | [], k30 => some (.inr ())
 | x31 :: l32, k30 => (ij7 x31.key).bind fun x40 => if (!x40) = true then (some (.inl (false))) else ((ij7 x31.val).bind fun x42 => if (!x42) = true then (some (.inl (false))) else (if (decide ((k30 : Int) > 0)) = true then ((idx a0.tags (IntKind.i64.wrap ((k30 : Int) - 1))).bind fun x44 => if (!slt x44.key x31.key) = true then (some (.inl (false))) else (eh7 a0 l32 (k30 + 1) )) else (eh7 a0 l32 (k30 + 1) )))
def ha7 (a0 : Feat) : Option Bool := if aH7 a0.tags.length = true then ((eh7 a0 a0.tags 0 ).bind fun q => match q with | .inl r => some r | .inr q28 => (ij7 a0.id).bind fun x46 => if x46 = true then ((lz7 a0.shape).bind fun x48 => if x48 = true then (some ((decide ((a0.tags.length : Int) ≤ 4)))) else (some (false))) else (some (false))) else none
def z97 : Con := ⟨Feat, Bool, 82, fun a => [.agg [.v (.string a.id), .v (.int .i64 a.shape.kind), .ro (List.map ePt a.shape.pts), .ro (List.map bb7 a.tags)]], fun a => ha7 a, fun a r => ⟨[(false, [.v (.bool r)])], []⟩, fun a => []⟩
def I47 : IFn := ⟨26, [.inl 4],
 (Rs [Kb false 4]
 (.seq (Rs (sq 6 [Mv 0, Ln 6, Mv 1, Ln 8, Bb .neq 7 9] [])
 (Ct 10 (Rs [Kb false 4]
 .ret)
 .skip))
 (.seq (Rs (sq 11 [Mv 0, Ln 11, Ki 0] [])
 (bU7 0 (.loop (Rs [Bb .lss 13 12 14]
 (.seq (Ct 14 .skip
 (.exit 0))
 (.seq (.block 1 (Rs [Mv 13 15, Mv 15 5]
 (.seq (.drw (sq 16 [Mv 0, Mv 5, Ia 2 16 17, La 2 18, Mv 1, Mv 5, Ia 2 20 21, La 2 22, Io (.eqs true true [0, 0] (.t 19) (.t 23))] []) [(3, 7)])
 (Ct 24 (Rs [Kb false 4]
 .ret)
 .skip))))
 (.reg [Bk .add 13 1 25, Mv 25 13])))))))
 (Rs [Kb true 4]
 .ret)))), lcF []⟩
def I57 : List (List (Option Nat)) := [[none]]
def fv7 (a1 : (List Pt)) : List Pt → Nat → Option (Bool ⊕ Unit)
 | [], k16 => some (.inr ())
 | x17 :: l18, k16 => (idx a1 (k16 : Int)).bind fun x25 => if (!((x17.x == x25.x) && ((x17.y == x25.y) && true))) = true then (some (.inl (false))) else (fv7 a1 l18 (k16 + 1) )
def eT7 (a0 : (List Pt)) (a1 : (List Pt)) : Option Bool := if ((a0.length : Int) != (a1.length : Int)) = true then (some (false)) else (if aH7 a0.length = true then ((fv7 a1 a0 0 ).bind fun q => match q with | .inl r => some r | .inr q14 => some (true)) else none)
def Aa7 : Con := ⟨(List Pt) × (List Pt), Bool, 127, fun a => [.ro (List.map ePt a.1), .ro (List.map ePt a.2)], fun a => eT7 a.1 a.2, fun a r => ⟨[(false, [.v (.bool r)])], []⟩, fun a => []⟩
def I67 : IFn := ⟨17, [.inl 4],
 (Rs (sq 2 [Io (.box 226 [none, some 66] (.t 0)), Io (.box 226 [none, some 66] (.t 1)), Kb false] [])
 (Rs (sq 5 [Fa 0 2, Ld 1 5, Fa 0 3, Ld 1 7, Bb .eql 6 8, Mv 9] (Sg 10 11 [Fa 1 2, Ld 1 11, Fa 1 3, Ld 1 13, Ca 127 [12, 14]] [Pf 10 15 16, Mv 16 4]))
 .ret)), lcF []⟩
def I77 : List (List (Option Nat)) := [[none]]
def jU7 (a0 : aD7) (a1 : aD7) : Option Bool := if (a0.kind == a1.kind) = true then ((eT7 a0.pts a1.pts).bind fun x3 => some (x3)) else (some (false))
def sA7 : Con := ⟨aD7 × aD7, Bool, 128, fun a => [.agg [.v (.int .i64 a.1.kind), .ro (List.map ePt a.1.pts)], .agg [.v (.int .i64 a.2.kind), .ro (List.map ePt a.2.pts)]], fun a => jU7 a.1 a.2, fun a r => ⟨[(false, [.v (.bool r)])], []⟩, fun a => []⟩
def I87 : IFn := ⟨26, [.inl 4],
 (Rs [Kb false 4]
 (.seq (Rs (sq 6 [Mv 0, Ln 6, Mv 1, Ln 8, Bb .neq 7 9] [])
 (Ct 10 (Rs [Kb false 4]
 .ret)
 .skip))
 (.seq (Rs (sq 11 [Mv 0, Ln 11, Ki 0] [])
 (bU7 0 (.loop (Rs [Bb .lss 13 12 14]
 (.seq (Ct 14 .skip
 (.exit 0))
 (.seq (.block 1 (Rs [Mv 13 15, Mv 15 5]
 (.seq (.drw (sq 16 [Mv 0, Mv 5, Ia 2 16 17, La 2 18, Mv 1, Mv 5, Ia 2 20 21, La 2 22, Io (.eqs true true [2, 2] (.t 19) (.t 23))] []) [(3, 7)])
 (Ct 24 (Rs [Kb false 4]
 .ret)
 .skip))))
 (.reg [Bk .add 13 1 25, Mv 25 13])))))))
 (Rs [Kb true 4]
 .ret)))), lcF []⟩
def I97 : List (List (Option Nat)) := [[none]]
def fw7 (a1 : (List Tag)) : List Tag → Nat → Option (Bool ⊕ Unit)
 | [], k16 => some (.inr ())
 | x17 :: l18, k16 => (idx a1 (k16 : Int)).bind fun x25 => if (!((x17.key == x25.key) && ((x17.val == x25.val) && true))) = true then (some (.inl (false))) else (fw7 a1 l18 (k16 + 1) )
def tZ7 (a0 : (List Tag)) (a1 : (List Tag)) : Option Bool := if ((a0.length : Int) != (a1.length : Int)) = true then (some (false)) else (if aH7 a0.length = true then ((fw7 a1 a0 0 ).bind fun q => match q with | .inl r => some r | .inr q14 => some (true)) else none)
def Ej7 : Con := ⟨(List Tag) × (List Tag), Bool, 129, fun a => [.ro (List.map bb7 a.1), .ro (List.map bb7 a.2)], fun a => tZ7 a.1 a.2, fun a r => ⟨[(false, [.v (.bool r)])], []⟩, fun a => []⟩
def Ja7 : IFn := ⟨24, [.inl 4],
 (Rs (sq 2 [Io (.box 100 [none, none, some 66, some 82] (.t 0)), Io (.box 100 [none, none, some 66, some 82] (.t 1)), Kb false] [])
 (Rs (sq 5 [Fa 0 2, Ld 1 5, Fa 0 3, Ld 1 7, Bb .eql 6 8, Mv 9] (Sg 10 11 [Fa 1 2, La 2 11, Fa 1 3, La 2 13, Ca 128 [12, 14]] (sq 16 [Pf 10 15, Mv 16] (Sg 17 18 [Fa 3 2, Ld 1 18, Fa 3 3, Ld 1 20, Ca 129 [19, 21]] [Pf 17 22 23, Mv 23 4]))))
 .ret)), lcF []⟩
def Jb7 : List (List (Option Nat)) := [[none]]
def ny7 (a0 : Feat) (a1 : Feat) : Option Bool := if (seq a0.id a1.id) = true then ((jU7 a0.shape a1.shape).bind fun x3 => if x3 = true then ((tZ7 a0.tags a1.tags).bind fun x5 => some (x5)) else (some (false))) else (some (false))
def xO7 : Con := ⟨Feat × Feat, Bool, 130, fun a => [.agg [.v (.string a.1.id), .v (.int .i64 a.1.shape.kind), .ro (List.map ePt a.1.shape.pts), .ro (List.map bb7 a.1.tags)], .agg [.v (.string a.2.id), .v (.int .i64 a.2.shape.kind), .ro (List.map ePt a.2.shape.pts), .ro (List.map bb7 a.2.tags)]], fun a => ny7 a.1 a.2, fun a r => ⟨[(false, [.v (.bool r)])], []⟩, fun a => []⟩
def Jc7 : IFn := ⟨32, [.inl 6],
 (Rs [Kb false 6]
 (.seq (Rs (sq 10 [Mv 0, Ln 10, Mv 1, Ln 12, Bb .neq 11 13] [])
 (Ct 14 (Rs [Kb false 6]
 .ret)
 .skip))
 (.seq (Rs (sq 15 [Mv 0, Ln 15, Ki 0] [])
 (bU7 0 (.loop (Rs [Bb .lss 17 16 18]
 (.seq (Ct 18 .skip
 (.exit 0))
 (.seq (.block 1 (Rs (sq 19 [Mv 17, Ia 4 15 17, La 4 20] [Io (.alloc 100 [.v (.string ⟨#[]⟩), .v (.int .i64 0), .sl true 66 [], .sl true 82 []]) 8, Mv 19 7, Sv [none, none, some 66, some 82] 8 21])
 (Rs (sq 22 [Mv 1, Mv 7, Ia 4 22 23, La 4 24] [Io (.alloc 100 [.v (.string ⟨#[]⟩), .v (.int .i64 0), .sl true 66 [], .sl true 82 []]) 9, Sv [none, none, some 66, some 82] 9 25])
 (Rs (sq 26 [Mv 2, La 4 8, La 4 9, Io (.calld (.t 26) [(false, .t 27), (false, .t 28)]), Nt 29] [])
 (Ct 30 (Rs [Kb false 6]
 .ret)
 .skip)))))
 (.reg [Bk .add 17 1 31, Mv 31 17])))))))
 (Rs [Kb true 6]
 .ret)))), lcF []⟩
def Jd7 : List (List (Option Nat)) := [[none]]
def fx7 (a1 : (List Feat)) : List Feat → Nat → Option (Bool ⊕ Unit)
 | [], k28 => some (.inr ())
 | x29 :: l30, k28 => (idx a1 (k28 : Int)).bind fun x38 => (ny7 x29 x38).bind fun x41 => if (!x41) = true then (some (.inl (false))) else (fx7 a1 l30 (k28 + 1) )
def t07 (a0 : (List Feat)) (a1 : (List Feat)) : Option Bool := if ((a0.length : Int) != (a1.length : Int)) = true then (some (false)) else (if aH7 a0.length = true then ((fx7 a1 a0 0 ).bind fun q => match q with | .inl r => some r | .inr q26 => some (true)) else none)
def Ek7 : Con := ⟨(List Feat) × (List Feat), Bool, 325, fun a => [.ro (List.map (aj7 false) a.1), .ro (List.map (aj7 false) a.2), .fn 130 []], fun a => t07 a.1 a.2, fun a r => ⟨[(false, [.v (.bool r)])], []⟩, fun a => []⟩
def Je7 : IFn := ⟨8, [.inl 4],
 (Rs [Kb false 4]
 (Rs (sq 5 [Mv 0, Mv 1, Io (.call 325 [(false, .t 5), (false, .t 6), (false, .f 130)])] [Mv 7 4])
 .ret)), lcF []⟩
def Jf7 : List (List (Option Nat)) := [[none]]
def hb7 (a0 : (List Feat)) (a1 : (List Feat)) : Option Bool := (t07 a0 a1).bind fun x1 => some (x1)
def sB7 : Con := ⟨(List Feat) × (List Feat), Bool, 220, fun a => [.ro (List.map (aj7 false) a.1), .ro (List.map (aj7 false) a.2)], fun a => hb7 a.1 a.2, fun a r => ⟨[(false, [.v (.bool r)])], []⟩, fun a => []⟩
def Jg7 : IFn := ⟨26, [.inl 4],
 (Rs [Kb false 4]
 (.seq (Rs (sq 6 [Mv 0, Ln 6, Mv 1, Ln 8, Bb .neq 7 9] [])
 (Ct 10 (Rs [Kb false 4]
 .ret)
 .skip))
 (.seq (Rs (sq 11 [Mv 0, Ln 11, Ki 0] [])
 (bU7 0 (.loop (Rs [Bb .lss 13 12 14]
 (.seq (Ct 14 .skip
 (.exit 0))
 (.seq (.block 1 (Rs [Mv 13 15, Mv 15 5]
 (.seq (.drw (sq 16 [Mv 0, Mv 5, Ia 1 16 17, Ld 1 18, Mv 1, Mv 5, Ia 1 20 21, Ld 1 22, Bb .neq 19 23] []) [(3, 7)])
 (Ct 24 (Rs [Kb false 4]
 .ret)
 .skip))))
 (.reg [Bk .add 13 1 25, Mv 25 13])))))))
 (Rs [Kb true 4]
 .ret)))), lcF []⟩
def Jh7 : List (List (Option Nat)) := [[none]]
def fy7 (a1 : (List Int)) : List Int → Nat → Option (Bool ⊕ Unit)
 | [], k16 => some (.inr ())
 | x17 :: l18, k16 => (idx a1 (k16 : Int)).bind fun x25 => if (x17 != x25) = true then (some (.inl (false))) else (fy7 a1 l18 (k16 + 1) )
def t17 (a0 : (List Int)) (a1 : (List Int)) : Option Bool := if ((a0.length : Int) != (a1.length : Int)) = true then (some (false)) else (if aH7 a0.length = true then ((fy7 a1 a0 0 ).bind fun q => match q with | .inl r => some r | .inr q14 => some (true)) else none)
def El7 : Con := ⟨(List Int) × (List Int), Bool, 358, fun a => [.ro (List.map bz7 a.1), .ro (List.map bz7 a.2)], fun a => t17 a.1 a.2, fun a r => ⟨[(false, [.v (.bool r)])], []⟩, fun a => []⟩
def Ji7 : IFn := ⟨24, [.inl 4],
 (Rs (sq 2 [Io (.box 115 [some 17, some 100, none] (.t 0)), Io (.box 115 [some 17, some 100, none] (.t 1)), Kb false] [])
 (Rs (sq 5 [Fa 0 2, Ld 1 5, Fa 0 3, Ld 1 7, Ca 358 [6, 8], Mv 9] (Sg 10 11 [Fa 1 2, Ld 1 11, Fa 1 3, Ld 1 13, Ca 220 [12, 14]] (sq 16 [Pf 10 15, Mv 16] (Sg 17 18 [Fa 2 2, Ld 1 18, Fa 2 3, Ld 1 20, Bb .eql 19 21] [Pf 17 22 23, Mv 23 4]))))
 .ret)), lcF []⟩
def Jj7 : List (List (Option Nat)) := [[none]]
def qE7 (a0 : Commit) (a1 : Commit) : Option Bool := (t17 a0.up a1.up).bind fun x3 => if x3 = true then ((hb7 a0.sheet a1.sheet).bind fun x5 => if x5 = true then (some ((seq a0.note a1.note))) else (some (false))) else (some (false))
def Em7 : Con := ⟨Commit × Commit, Bool, 330, fun a => [.agg [.ro (List.map bz7 a.1.up), .ro (List.map (aj7 false) a.1.sheet), .v (.string a.1.note)], .agg [.ro (List.map bz7 a.2.up), .ro (List.map (aj7 false) a.2.sheet), .v (.string a.2.note)]], fun a => qE7 a.1 a.2, fun a r => ⟨[(false, [.v (.bool r)])], []⟩, fun a => []⟩
def Jk7 : IFn := ⟨19, [.inl 4],
 (Rs [Ki 0 4]
 (.seq (Rs (sq 6 [Mv 0, Ln 6, Ki 0] [])
 (bU7 0 (.loop (Rs [Bb .lss 8 7 9]
 (.seq (Ct 9 .skip
 (.exit 0))
 (.seq (.block 1 (Rs [Mv 8 10, Mv 10 5]
 (Rs (sq 11 [Mv 1, Mv 0, Mv 5, Ia 1 12 13, Ld 1 14, Bb .eql 11 15] [])
 (Ct 16 (Rs [Mv 5 17, Mv 17 4]
 .ret)
 .skip))))
 (.reg [Bk .add 8 1 18, Mv 18 8])))))))
 (Rs [Ki (-1) 4]
 .ret))), lcF []⟩
def Jl7 : List (List (Option Nat)) := [[none]]
def fz7 (a1 : Int) : List Int → Nat → Option (Int ⊕ Unit)
 | [], k10 => some (.inr ())
 | x11 :: l12, k10 => if (a1 == x11) = true then (some (.inl ((k10 : Int)))) else (fz7 a1 l12 (k10 + 1) )
def qF7 (a0 : (List Int)) (a1 : Int) : Option Int := if aH7 a0.length = true then ((fz7 a1 a0 0 ).bind fun q => match q with | .inl r => some r | .inr q8 => some ((-1))) else none
def En7 : Con := ⟨(List Int) × Int, Int, 85, fun a => [.ro (List.map bz7 a.1), .v (.int .i64 a.2)], fun a => qF7 a.1 a.2, fun a r => ⟨[(false, [.v (.int .i64 r)])], []⟩, fun a => []⟩
def Jm7 : IFn := ⟨34, [.inl 2],
 (Rs [Kb false 2]
 (.seq (Rs (sq 5 [Mv 0, Ln 5, Ki 0] [])
 (bU7 0 (.loop (Rs [Bb .lss 7 6 8]
 (.seq (Ct 8 .skip
 (.exit 0))
 (.seq (.block 1 (Rs (sq 9 [Mv 7, Ia 4 5 7, La 4 10] [Io (.alloc 100 [.v (.string ⟨#[]⟩), .v (.int .i64 0), .sl true 66 [], .sl true 82 []]) 4, Mv 9 3, Sv [none, none, some 66, some 82] 4 11])
 (.seq (.drw (sq 12 [La 4 4, Ca 82 [12], Nt 13, Mv 14] (Sf 15 16 [Mv 3, Bk .gtr 16 0, Mv 17] (Sg 18 19 [Mv 0, Mv 3, Bk .sub 20 1, Ia 4 19 21, Fa 0 22, Ld 1 23, Fa 0 4, Ld 1 25, Bb .geq 24 26] [Gf 15 (Pf 18 27 28), Pk 15 28 29]))) [(12, 14)])
 (Ct 29 (Rs [Kb false 2]
 .ret)
 .skip))))
 (.reg [Bk .add 7 1 30, Mv 30 7])))))))
 (Rs (sq 31 [Mv 0, Ln 31, Bk .leq 32 8] [Mv 33 2])
 .ret))), lcF []⟩
def Jn7 : List (List (Option Nat)) := [[none]]
def ei7 (a0 : (List Feat)) : List Feat → Nat → Option (Bool ⊕ Unit)
 | [], k23 => some (.inr ())
 | x24 :: l25, k23 => (ha7 x24).bind fun x33 => if (!x33) = true then (some (.inl (false))) else (if (decide ((k23 : Int) > 0)) = true then ((idx a0 (IntKind.i64.wrap ((k23 : Int) - 1))).bind fun x35 => if (!slt x35.id x24.id) = true then (some (.inl (false))) else (ei7 a0 l25 (k23 + 1) )) else (ei7 a0 l25 (k23 + 1) ))
def ik7 (a0 : (List Feat)) : Option Bool := if aH7 a0.length = true then ((ei7 a0 a0 0 ).bind fun q => match q with | .inl r => some r | .inr q21 => some ((decide ((a0.length : Int) ≤ 8)))) else none
def Ab7 : Con := ⟨(List Feat), Bool, 86, fun a => [.ro (List.map (aj7 false) a)], fun a => ik7 a, fun a r => ⟨[(false, [.v (.bool r)])], []⟩, fun a => []⟩
def Jo7 : IFn := ⟨7, [.inl 3],
 (Rs (sq 2 [Io (.box 115 [some 17, some 100, none] (.t 0)), Kb false] [])
 (Rs (sq 4 [La 3 2, La 3 1, Ca 330 [4, 5]] [Mv 6 3])
 .ret)), lcF []⟩
def Jp7 : List (List (Option Nat)) := [[none]]
def t27 (a0 : Commit) (a1 : Commit) : Option Bool := (qE7 a0 a1).bind fun x2 => some (x2)
def Ac7 : Con := ⟨Commit × Commit, Bool, 83, fun a => [.agg [.ro (List.map bz7 a.1.up), .ro (List.map (aj7 false) a.1.sheet), .v (.string a.1.note)], .rptr [.sl false 1 (List.map bz7 a.2.up), .sl false 4 (List.map (aj7 false) a.2.sheet), .v (.string a.2.note)]], fun a => t27 a.1 a.2, fun a r => ⟨[(false, [.v (.bool r)])], []⟩, fun a => []⟩
def Jq7 : IFn := ⟨19, [.inl 4],
 (Rs [Ki 0 4]
 (.seq (Rs (sq 6 [Mv 0, Ln 6, Ki 0] [])
 (bU7 0 (.loop (Rs [Bb .lss 8 7 9]
 (.seq (Ct 9 .skip
 (.exit 0))
 (.seq (.block 1 (Rs [Mv 8 10, Mv 10 5]
 (Rs (sq 11 [Mv 1, Mv 0, Mv 5, Ia 3 12 13, La 3 14, Io (.calld (.t 11) [(false, .t 15)])] [])
 (Ct 16 (Rs [Mv 5 17, Mv 17 4]
 .ret)
 .skip))))
 (.reg [Bk .add 8 1 18, Mv 18 8])))))))
 (Rs [Ki (-1) 4]
 .ret))), lcF []⟩
def Jr7 : List (List (Option Nat)) := [[none]]
def fA7 (a1 : Commit) : List Commit → Nat → Option (Int ⊕ Unit)
 | [], k16 => some (.inr ())
 | x17 :: l18, k16 => (t27 x17 a1).bind fun x25 => if x25 = true then (some (.inl ((k16 : Int)))) else (fA7 a1 l18 (k16 + 1) )
def qG7 (a0 : (List Commit)) (a1 : Commit) : Option Int := if aH7 a0.length = true then ((fA7 a1 a0 0 ).bind fun q => match q with | .inl r => some r | .inr q14 => some ((-1))) else none
def Eo7 : Con := ⟨(List Commit) × Commit, Int, 84, fun a => [.ro (List.map (am7 false) a.1), .fn 83 [.rptr [.sl false 1 (List.map bz7 a.2.up), .sl false 4 (List.map (aj7 false) a.2.sheet), .v (.string a.2.note)]]], fun a => qG7 a.1 a.2, fun a r => ⟨[(false, [.v (.int .i64 r)])], []⟩, fun a => []⟩
def Js7 : IFn := ⟨9, [.inl 4],
 (Rs (sq 2 [Io (.box 210 [some 115, some 130] (.t 0)), Io (.box 115 [some 17, some 100, none] (.t 1)), Ki 0] [])
 (Rs (sq 5 [Fa 0 2, Ld 1 5, Io (.mkf 83 [.t 3]), Ca 84 [6, 7]] [Mv 8 4])
 .ret)), lcF []⟩
def Jt7 : List (List (Option Nat)) := [[none]]
def qH7 (a0 : aF7) (a1 : Commit) : Option Int := (qG7 a0.commits a1).bind fun x3 => some (x3)
def Ep7 : Con := ⟨aF7 × Commit, Int, 87, fun a => [.agg [.ro (List.map (am7 false) a.1.commits), .ro (List.map aW7 a.1.heads)], .agg [.ro (List.map bz7 a.2.up), .ro (List.map (aj7 false) a.2.sheet), .v (.string a.2.note)]], fun a => qH7 a.1 a.2, fun a r => ⟨[(false, [.v (.int .i64 r)])], []⟩, fun a => []⟩
def Ju7 : IFn := ⟨9, [.inl 4],
 (Rs [Kb false 4]
 (Rs (sq 5 [Mv 0, Mv 1, Ca 85 [5, 6], Bk .geq 7 0] [Mv 8 4])
 .ret)), lcF []⟩
def Jv7 : List (List (Option Nat)) := [[none]]
def lA7 (a0 : (List Int)) (a1 : Int) : Option Bool := (qF7 a0 a1).bind fun x1 => some ((decide (x1 ≥ 0)))
def Eq7 : Con := ⟨(List Int) × Int, Bool, 88, fun a => [.ro (List.map bz7 a.1), .v (.int .i64 a.2)], fun a => lA7 a.1 a.2, fun a r => ⟨[(false, [.v (.bool r)])], []⟩, fun a => []⟩
def Jw7 : IFn := ⟨8, [.inl 3],
 (Rs (sq 2 [Io (.box 130 [none, none] (.t 0)), Kb false] [])
 (Rs (sq 4 [Fa 0 2, Ld 1 4, Ld 1 1, Bb .eql 5 6] [Mv 7 3])
 .ret)), lcF []⟩
def Jx7 : List (List (Option Nat)) := [[none]]
def t37 (a0 : Head) (a1 : Str) : Option Bool := some ((seq a0.name a1))
def Ad7 : Con := ⟨Head × Str, Bool, 77, fun a => [.agg [.v (.string a.1.name), .v (.int .i64 a.1.at_)], .rptr [.v (.string a.2)]], fun a => t37 a.1 a.2, fun a r => ⟨[(false, [.v (.bool r)])], []⟩, fun a => []⟩
def Jy7 : IFn := ⟨19, [.inl 4],
 (Rs [Ki 0 4]
 (.seq (Rs (sq 6 [Mv 0, Ln 6, Ki 0] [])
 (bU7 0 (.loop (Rs [Bb .lss 8 7 9]
 (.seq (Ct 9 .skip
 (.exit 0))
 (.seq (.block 1 (Rs [Mv 8 10, Mv 10 5]
 (Rs (sq 11 [Mv 1, Mv 0, Mv 5, Ia 2 12 13, La 2 14, Io (.calld (.t 11) [(false, .t 15)])] [])
 (Ct 16 (Rs [Mv 5 17, Mv 17 4]
 .ret)
 .skip))))
 (.reg [Bk .add 8 1 18, Mv 18 8])))))))
 (Rs [Ki (-1) 4]
 .ret))), lcF []⟩
def Jz7 : List (List (Option Nat)) := [[none]]
def fB7 (a1 : Str) : List Head → Nat → Option (Int ⊕ Unit)
 | [], k16 => some (.inr ())
 | x17 :: l18, k16 => (t37 x17 a1).bind fun x25 => if x25 = true then (some (.inl ((k16 : Int)))) else (fB7 a1 l18 (k16 + 1) )
def qI7 (a0 : (List Head)) (a1 : Str) : Option Int := if aH7 a0.length = true then ((fB7 a1 a0 0 ).bind fun q => match q with | .inl r => some r | .inr q14 => some ((-1))) else none
def Er7 : Con := ⟨(List Head) × Str, Int, 78, fun a => [.ro (List.map aW7 a.1), .fn 77 [.rptr [.v (.string a.2)]]], fun a => qI7 a.1 a.2, fun a r => ⟨[(false, [.v (.int .i64 r)])], []⟩, fun a => []⟩
def JA7 : IFn := ⟨9, [.inl 4],
 (Rs (sq 2 [Io (.box 210 [some 115, some 130] (.t 0)), Io (.box 49 [none] (.t 1)), Ki 0] [])
 (Rs (sq 5 [Fa 1 2, Ld 1 5, Io (.mkf 77 [.t 3]), Ca 78 [6, 7]] [Mv 8 4])
 .ret)), lcF []⟩
def JB7 : List (List (Option Nat)) := [[none]]
def qJ7 (a0 : aF7) (a1 : Str) : Option Int := (qI7 a0.heads a1).bind fun x3 => some (x3)
def Es7 : Con := ⟨aF7 × Str, Int, 89, fun a => [.agg [.ro (List.map (am7 false) a.1.commits), .ro (List.map aW7 a.1.heads)], .v (.string a.2)], fun a => qJ7 a.1 a.2, fun a r => ⟨[(false, [.v (.int .i64 r)])], []⟩, fun a => []⟩
def JC7 : IFn := ⟨11, [.inl 4],
 (Rs [Io (.box 210 [some 115, some 130] (.t 0)) 2, Kb false 4]
 (Rs (sq 5 [Mv 1, Fa 0 2, Ld 1 6, Ln 7, Bk .sub 8 1, Io (.call 76 [(false, .t 5), (false, .c (.int .i64 0)), (false, .t 9)])] [Mv 10 4])
 .ret)), lcF []⟩
def JD7 : List (List (Option Nat)) := [[none]]
def il7 (a0 : aF7) (a1 : Int) : Option Bool := (ef7 a1 0 (IntKind.i64.wrap ((a0.commits.length : Int) - 1))).bind fun x2 => some (x2)
def xP7 : Con := ⟨aF7 × Int, Bool, 90, fun a => [.agg [.ro (List.map (am7 false) a.1.commits), .ro (List.map aW7 a.1.heads)], .v (.int .i64 a.2)], fun a => il7 a.1 a.2, fun a r => ⟨[(false, [.v (.bool r)])], []⟩, fun a => []⟩
def JE7 : IFn := ⟨10, [.inr (2, 2)],
 (Rs (sq 1 [Io (.box 226 [none, some 66] (.t 0)), Io (.alloc 226 [.v (.int .i64 0), .sl true 66 []])] [])
 (.seq (.drw (sq 3 [Fa 0 1, Ld 1 3, Io (.lit 66 [none, none] [.v (.int .i64 0), .v (.int .i64 0)] 0 []), Fa 1 1, Ld 1 6, Io (.app 66 false (.t 5) (.t 7)), Io (.build [.v (.int .i64 0), .nil] [(0, 1, .t 4), (1, 1, .t 8)])] [Sv [none, some 66] 2 9]) [(1, 2), (1, 4), (2, 4), (1, 5)])
 .ret)), lcF []⟩
def JF7 : List (List (Option Nat)) := [[none, some 66]]
def lB7 (a0 : aD7) : Option aD7 := if aH7 ([] ++ a0.pts).length = true then some ((⟨a0.kind, ([] ++ a0.pts)⟩ : aD7)) else none
def Ae7 : Con := ⟨aD7, aD7, 91, fun a => [.agg [.v (.int .i64 a.kind), .ro (List.map ePt a.pts)]], fun a => lB7 a, fun a r => ⟨[(true, g67 true r)], []⟩, fun a => []⟩
def JG7 : IFn := ⟨13, [.inr (2, 4)],
 (Rs (sq 1 [Io (.box 100 [none, none, some 66, some 82] (.t 0)), Io (.alloc 100 [.v (.string ⟨#[]⟩), .v (.int .i64 0), .sl true 66 [], .sl true 82 []])] [])
 (.seq (.drw (sq 3 [Fa 0 1, Ld 1 3, Fa 1 1, La 2 5, Ca 91 [6], Io (.lit 82 [none, none] [.v (.string ⟨#[]⟩), .v (.string ⟨#[]⟩)] 0 []), Fa 3 1, Ld 1 9, Io (.app 82 false (.t 8) (.t 10)), Io (.build [.v (.string ⟨#[]⟩), .v (.int .i64 0), .nil, .nil] [(0, 1, .t 4), (1, 2, .t 7), (3, 1, .t 11)])] [Sv [none, none, some 66, some 82] 2 12]) [(1, 3), (1, 4), (1, 5), (3, 5), (4, 5), (1, 7), (3, 7), (4, 7), (5, 7), (1, 8)])
 .ret)), lcF []⟩
def JH7 : List (List (Option Nat)) := [[none, none, some 66, some 82]]
def lC7 (a0 : Feat) : Option Feat := (lB7 a0.shape).bind fun x3 => if aH7 ([] ++ a0.tags).length = true then some ((⟨a0.id, x3, ([] ++ a0.tags)⟩ : Feat)) else none
def xQ7 : Con := ⟨Feat, Feat, 92, fun a => [.agg [.v (.string a.id), .v (.int .i64 a.shape.kind), .ro (List.map ePt a.shape.pts), .ro (List.map bb7 a.tags)]], fun a => lC7 a, fun a r => ⟨[(true, aj7 true r)], []⟩, fun a => []⟩
def JI7 : IFn := ⟨112, [.inl 2],
 (Rs (sq 1 [Io (.box 210 [some 115, some 130] (.t 0)), Kb false] [])
 (.seq (Rs (sq 9 [Fa 0 1, Ld 1 9, Ln 10, Io (.call 76 [(false, .t 11), (false, .c (.int .i64 1)), (false, .c (.int .i64 14))]), Nt 12, Mv 13] (Sf 14 15 [Fa 1 1, Ld 1 15, Ln 16, Io (.call 76 [(false, .t 17), (false, .c (.int .i64 1)), (false, .c (.int .i64 4))]), Nt 18] [Pk 14 19 20]))
 (Ct 20 (Rs [Kb false 2]
 .ret)
 .skip))
 (.seq (Rs (sq 21 [Fa 0 1, Ld 1 21, Ln 22, Ki 0] [])
 (bU7 0 (.loop (Rs [Bb .lss 24 23 25]
 (.seq (Ct 25 .skip
 (.exit 0))
 (.seq (.block 1 (Rs (sq 26 [Mv 24, Ia 3 22 24, La 3 27] [Io (.alloc 115 [.sl true 17 [], .sl true 100 [], .v (.string ⟨#[]⟩)]) 4, Mv 26 3, Sv [some 17, some 100, none] 4 28])
 (.seq (Rs (sq 29 [Fa 1 4, Ld 1 29, Ca 86 [30], Nt 31, Mv 32] (Sf 33 34 [Fa 2 4, Ld 1 34, Ca 80 [35], Nt 36] (sq 38 [Pk 33 37, Mv 38] (Sf 39 40 [La 2 1, La 3 4, Ca 87 [40, 41], Mv 3, Bb .neq 42 43] (sq 45 [Pk 39 44, Mv 45] (Sf 46 47 [Mv 3, Bk .eql 47 0, Fa 0 4, Ld 1 49, Ln 50, Bk .eql 51 0, Io (.eqs true false [1] (.t 48) (.t 52))] (sq 54 [Pk 46 53, Mv 54] (Sf 55 56 [Fa 0 4, Ld 1 56, Ln 57, Bk .gtr 58 2] [Pk 55 59 60]))))))))
 (Ct 60 (Rs [Kb false 2]
 .ret)
 .skip))
 (Rs (sq 61 [Fa 0 4, Ld 1 61, Ln 62, Ki 0] [])
 (bU7 2 (.loop (Rs [Bb .lss 64 63 65]
 (.seq (Ct 65 .skip
 (.exit 2))
 (.seq (.block 3 (Rs (sq 66 [Mv 64, Ia 1 62 64, Ld 1 67] (sq 5 [Mv 66, Mv 68] []))
 (Rs (sq 69 [Mv 6, Mv 3, Bk .sub 70 1, Io (.call 76 [(false, .t 69), (false, .c (.int .i64 0)), (false, .t 71)]), Nt 72, Mv 73] (Sf 74 75 [Fa 0 4, Ld 1 75, Mv 5, Io (.sls 1 (.t 76) none (some (.t 77))), Mv 6, Ca 88 [78, 79]] [Pk 74 80 81]))
 (Ct 81 (Rs [Kb false 2]
 .ret)
 .skip))))
 (.reg [Bk .add 64 1 82, Mv 82 64]))))))))))
 (.reg [Bk .add 24 1 83, Mv 83 24])))))))
 (.seq (Rs (sq 84 [Fa 1 1, Ld 1 84, Ln 85, Ki 0] [])
 (bU7 4 (.loop (Rs [Bb .lss 87 86 88]
 (.seq (Ct 88 .skip
 (.exit 4))
 (.seq (.block 5 (Rs (sq 89 [Mv 87, Ia 2 85 87, La 2 90] [Io (.alloc 130 [.v (.string ⟨#[]⟩), .v (.int .i64 0)]) 8, Mv 89 7, Sv [none, none] 8 91])
 (Rs (sq 92 [Fa 0 8, Ld 1 92, Ca 80 [93], Nt 94, Mv 95] (Sf 96 97 [La 2 1, Fa 0 8, Ld 1 98, Ca 89 [97, 99], Mv 7, Bb .neq 100 101] (sq 103 [Pk 96 102, Mv 103] (Sf 104 105 [La 2 1, Fa 1 8, Ld 1 106, Ca 90 [105, 107], Nt 108] [Pk 104 109 110]))))
 (Ct 110 (Rs [Kb false 2]
 .ret)
 .skip))))
 (.reg [Bk .add 87 1 111, Mv 111 87])))))))
 (Rs [Kb true 2]
 .ret))))), lcF []⟩
def JJ7 : List (List (Option Nat)) := [[none]]
def ej7 (k162 : Nat) (x163 : Commit) : List Int → Nat → Option (Bool ⊕ Unit)
 | [], k205 => some (.inr ())
 | x206 :: l207, k205 => (ef7 x206 0 (IntKind.i64.wrap ((k162 : Int) - 1))).bind fun x214 => if (!x214) = true then (some (.inl (false))) else ((slc x163.up 0 (k205 : Int)).bind fun x216 => (lA7 x216 x206).bind fun x218 => if x218 = true then (some (.inl (false))) else (ej7 k162 x163 l207 (k205 + 1) ))
def ek7 (a0 : aF7) : List Commit → Nat → Option (Bool ⊕ Unit)
 | [], k162 => some (.inr ())
 | x163 :: l164, k162 => (ik7 x163.sheet).bind fun x172 => if (!x172) = true then (some (.inl (false))) else ((ij7 x163.note).bind fun x174 => if (!x174) = true then (some (.inl (false))) else ((qH7 a0 x163).bind fun x176 => if (x176 != (k162 : Int)) = true then (some (.inl (false))) else (if (!(((k162 : Int) == 0) == ((x163.up.length : Int) == 0))) = true then (some (.inl (false))) else (if (decide ((x163.up.length : Int) > 2)) = true then (some (.inl (false))) else (if aH7 x163.up.length = true then ((ej7 k162 x163 x163.up 0 ).bind fun q => match q with | .inl r => some (.inl r) | .inr q203 => ek7 a0 l164 (k162 + 1) ) else none)))))
def el7 (a0 : aF7) : List Head → Nat → Option (Bool ⊕ Unit)
 | [], k250 => some (.inr ())
 | x251 :: l252, k250 => (ij7 x251.name).bind fun x260 => if (!x260) = true then (some (.inl (false))) else ((qJ7 a0 x251.name).bind fun x262 => if (x262 != (k250 : Int)) = true then (some (.inl (false))) else ((il7 a0 x251.at_).bind fun x264 => if (!x264) = true then (some (.inl (false))) else (el7 a0 l252 (k250 + 1) )))
def nz7 (a0 : aF7) : Option Bool := (ef7 (a0.commits.length : Int) 1 14).bind fun x2 => if (!x2) = true then (some (false)) else ((ef7 (a0.heads.length : Int) 1 4).bind fun x4 => if (!x4) = true then (some (false)) else (if aH7 a0.commits.length = true then ((ek7 a0 a0.commits 0 ).bind fun q => match q with | .inl r => some r | .inr q160 => if aH7 a0.heads.length = true then ((el7 a0 a0.heads 0 ).bind fun q => match q with | .inl r => some r | .inr q248 => some (true)) else none) else none))
def Af7 : Con := ⟨aF7, Bool, 96, fun a => [.agg [.ro (List.map (am7 false) a.commits), .ro (List.map aW7 a.heads)]], fun a => nz7 a, fun a r => ⟨[(false, [.v (.bool r)])], []⟩, fun a => []⟩
def JK7 : IFn := ⟨41, [.inl 4],
 (Rs [Io (.box 210 [some 115, some 130] (.t 0)) 2, Io (.mv (.c (.slice none 0 0))) 4]
 (Rs (sq 9 [Fa 0 2, Ld 1 9, Ln 10, Io (.mks 33 [.v (.bool false)] (.t 11) (.t 11))] [Mv 12 5])
 (Rs (sq 13 [Mv 5, Mv 1, Ia 1 13 14] [Iz (.store [none] (.t 15) (.c (.bool true)))])
 (.seq (Rs [Mv 1 16, Mv 16 6]
 (bU7 0 (.loop (.seq (Rs (sq 17 [Mv 6, Bk .geq 17 0] [])
 (Ct 18 .skip
 (.exit 0)))
 (.seq (.block 1 (Rs (sq 21 [Mv 5, Mv 6, Ia 1 21 22, Ld 1 23] [])
 (Ct 24 (Rs (sq 25 [Fa 0 2, Ld 1 25, Mv 6, Ia 3 26 27, Fa 0 28, Ld 1 29, Ln 30, Ki 0] [])
 (bU7 2 (.loop (Rs [Bb .lss 32 31 33]
 (.seq (Ct 33 .skip
 (.exit 2))
 (.seq (.block 3 (Rs (sq 34 [Ia 1 30 32, Ld 1 34] [Mv 35 8])
 (.reg (sq 36 [Mv 5, Mv 8, Ia 1 36 37] [Iz (.store [none] (.t 38) (.c (.bool true)))]))))
 (.reg [Bk .add 32 1 39, Mv 39 32])))))))
 .skip)))
 (.reg (sq 19 [Mv 6, Bk .sub 19 1] [Mv 20 6])))))))
 (Rs [Mv 5 40, Mv 40 4]
 .ret))))), lcF []⟩
def JL7 : List (List (Option Nat)) := [[some 33]]
def fC7 : List Int → Nat → (List Bool) → Option (List Bool)
 | [], k159, v156 => some v156
 | x160 :: l161, k159, v156 => (idx v156 x160).bind fun x168 => fC7 l161 (k159 + 1) (List.set v156 x160.toNat true)
def em7 (a0 : aF7) : Nat → Int → (List Bool) → Option (List Bool)
 | 0, _, _ => none
 | n133 + 1, v129, v130 => if (decide (v129 ≥ 0)) = true then ((idx v130 v129).bind fun x134 => if x134 = true then ((idx a0.commits v129).bind fun x136 => if aH7 x136.up.length = true then ((fC7 x136.up 0 v130).bind fun q154 => em7 a0 n133 (IntKind.i64.wrap (v129 - 1)) q154) else none) else (em7 a0 n133 (IntKind.i64.wrap (v129 - 1)) v130)) else (some v130)
def jV7 (a0 : aF7) (a1 : Int) : Option (List Bool) := if (decide (0 ≤ (a0.commits.length : Int)) && aH7 ((a0.commits.length : Int)).toNat) = true then (idx (List.replicate ((a0.commits.length : Int)).toNat false) a1).bind fun x5 => (em7 a0 aP7 a1 (List.set (List.replicate ((a0.commits.length : Int)).toNat false) a1.toNat true)).bind fun q128 => some (q128) else none
def xR7 : Con := ⟨aF7 × Int, (List Bool), 97, fun a => [.agg [.ro (List.map (am7 false) a.1.commits), .ro (List.map aW7 a.1.heads)], .v (.int .i64 a.2)], fun a => jV7 a.1 a.2, fun a r => ⟨[(false, [sl true 33 (List.map bI7 r)])], []⟩, fun a => []⟩
def JM7 : IFn := ⟨11, [.inl 4],
 (Rs [Kb false 4]
 (.seq (.drw (sq 5 [La 2 1, Mv 0, Ca 97 [5, 6], Ld 1 2, Ia 1 7 8, Ld 1 9] [Mv 10 4]) [(0, 3), (2, 3)])
 .ret)), lcF []⟩
def JN7 : List (List (Option Nat)) := [[none]]
def t47 (a0 : Int) (a1 : aF7) (a2 : Int) : Option Bool := (jV7 a1 a0).bind fun x1 => (idx x1 a2).bind fun x5 => some (x5)
def Ag7 : Con := ⟨Int × aF7 × Int, Bool, 98, fun a => [.v (.int .i64 a.1), .rptr [.sl false 3 (List.map (am7 false) a.2.1.commits), .sl false 2 (List.map aW7 a.2.1.heads)], .rptr [.v (.int .i64 a.2.2)]], fun a => t47 a.1 a.2.1 a.2.2, fun a r => ⟨[(false, [.v (.bool r)])], []⟩, fun a => []⟩
def JO7 : IFn := ⟨19, [.inl 4],
 (Rs [Ki 0 4]
 (.seq (Rs (sq 6 [Mv 0, Ln 6, Ki 0] [])
 (bU7 0 (.loop (Rs [Bb .lss 8 7 9]
 (.seq (Ct 9 .skip
 (.exit 0))
 (.seq (.block 1 (Rs [Mv 8 10, Mv 10 5]
 (Rs (sq 11 [Mv 1, Mv 0, Mv 5, Ia 1 12 13, Ld 1 14, Io (.calld (.t 11) [(false, .t 15)])] [])
 (Ct 16 (Rs [Mv 5 17, Mv 17 4]
 .ret)
 .skip))))
 (.reg [Bk .add 8 1 18, Mv 18 8])))))))
 (Rs [Ki (-1) 4]
 .ret))), lcF []⟩
def JP7 : List (List (Option Nat)) := [[none]]
def fD7 (a1 : aF7) (a2 : Int) : List Int → Nat → Option (Int ⊕ Unit)
 | [], k16 => some (.inr ())
 | x17 :: l18, k16 => (t47 x17 a1 a2).bind fun x25 => if x25 = true then (some (.inl ((k16 : Int)))) else (fD7 a1 a2 l18 (k16 + 1) )
def qK7 (a0 : (List Int)) (a1 : aF7) (a2 : Int) : Option Int := if aH7 a0.length = true then ((fD7 a1 a2 a0 0 ).bind fun q => match q with | .inl r => some r | .inr q14 => some ((-1))) else none
def Et7 : Con := ⟨(List Int) × aF7 × Int, Int, 95, fun a => [.ro (List.map bz7 a.1), .fn 98 [.rptr [.sl false 3 (List.map (am7 false) a.2.1.commits), .sl false 2 (List.map aW7 a.2.1.heads)], .rptr [.v (.int .i64 a.2.2)]]], fun a => qK7 a.1 a.2.1 a.2.2, fun a r => ⟨[(false, [.v (.int .i64 r)])], []⟩, fun a => []⟩
def JQ7 : IFn := ⟨9, [.inl 4],
 (Rs [Kb false 4]
 (Rs (sq 5 [Mv 0, Mv 1, Ca 95 [5, 6], Bk .geq 7 0] [Mv 8 4])
 .ret)), lcF []⟩
def JR7 : List (List (Option Nat)) := [[none]]
def qL7 (a0 : (List Int)) (a1 : aF7) (a2 : Int) : Option Bool := (qK7 a0 a1 a2).bind fun x1 => some ((decide (x1 ≥ 0)))
def Eu7 : Con := ⟨(List Int) × aF7 × Int, Bool, 99, fun a => [.ro (List.map bz7 a.1), .fn 98 [.rptr [.sl false 3 (List.map (am7 false) a.2.1.commits), .sl false 2 (List.map aW7 a.2.1.heads)], .rptr [.v (.int .i64 a.2.2)]]], fun a => qL7 a.1 a.2.1 a.2.2, fun a r => ⟨[(false, [.v (.bool r)])], []⟩, fun a => []⟩
def JS7 : IFn := ⟨63, [.inl 6],
 (Rs [Io (.box 210 [some 115, some 130] (.t 0)) 3, Io (.mv (.c (.slice none 0 0))) 6]
 (.seq (Rs (sq 11 [La 2 3, Ca 96 [11], Nt 12, Mv 13] (Sf 14 15 [La 2 3, Mv 1, Ca 90 [15, 16], Nt 17] (sq 19 [Pk 14 18, Mv 19] (Sf 20 21 [La 2 3, Mv 2, Ca 90 [21, 22], Nt 23] [Pk 20 24 25]))))
 (Ct 25 (Rs [Io (.lit 17 [none] [.v (.int .i64 0)] 0 []) 26, Mv 26 6]
 .ret)
 .skip))
 (.seq (.drw (sq 27 [La 2 3, Mv 1, Ca 97 [27, 28], La 2 3, Mv 2, Ca 97 [30, 31]] (sq 7 [Mv 29, Mv 32] [])) [(0, 3), (2, 3)])
 (Rs [Io (.lit 17 [none] [.v (.int .i64 0)] 0 []) 33, Mv 33 9]
 (.seq (Rs (sq 34 [Mv 7, Ln 34, Bk .sub 35 1] [Io (.alloc 17 [.v (.int .i64 0)]) 10, Sv [none] 10 36])
 (bU7 0 (.loop (.seq (Rs (sq 37 [Ld 1 10, Bk .geq 37 0] [])
 (Ct 38 .skip
 (.exit 0)))
 (eH7 (.block 1 (.seq (Rs (sq 41 [Mv 7, Ld 1 10, Ia 1 41 42, Ld 1 43, Nt 44, Mv 45] (Sf 46 47 [Mv 8, Ld 1 10, Ia 1 47 48, Ld 1 49, Nt 50] [Pk 46 51 52]))
 (Ct 52 (.exit 1)
 .skip))
 (Rs (sq 53 [Mv 9, Io (.mkf 98 [.t 3, .t 10]), Ca 99 [53, 54], Nt 55] [])
 (Ct 56 (.reg (sq 57 [Mv 9, Ld 1 10, Io (.lit 17 [none] [.v (.int .i64 0)] 1 [(0, .t 58)]), Io (.app 17 true (.t 57) (.t 59))] [Mv 60 9]))
 .skip))))
 (.seq (Rs [Ld 1 10 61]
 (.reg [Io (.alloc 17 [.v (.int .i64 0)]) 10, Sv [none] 10 61]))
 (.reg (sq 39 [Ld 1 10, Bk .sub 39 1] [Sv [none] 10 40]))))))))
 (Rs [Mv 9 62, Mv 62 6]
 .ret)))))), lcF []⟩
def JT7 : List (List (Option Nat)) := [[some 17]]
def im7 (x11 : (List Bool)) (x15 : (List Bool)) (a0 : aF7) : Nat → (List Int) → Int → Option (List Int)
 | 0, _, _ => none
 | n82 + 1, v77, v80 => if (decide (v80 ≥ 0)) = true then ((((idx x11 v80).bind fun x94 => if (!x94) = true then (some v77) else ((idx x15 v80).bind fun x96 => if (!x96) = true then (some v77) else ((qL7 v77 a0 v80).bind fun x98 => if (!x98) = true then (if aH7 (v77 ++ ([v80] : (List Int))).length = true then some (v77 ++ ([v80] : (List Int))) else none) else (some v77))) : Option (List Int))).bind fun q93 => im7 x11 x15 a0 n82 q93 (IntKind.i64.wrap (v80 - 1))) else (some v77)
def qM7 (a0 : aF7) (a1 : Int) (a2 : Int) : Option (List Int) := (nz7 a0).bind fun x2 => if (!x2) = true then (some (([] : (List Int)))) else ((il7 a0 a1).bind fun x4 => if (!x4) = true then (some (([] : (List Int)))) else ((il7 a0 a2).bind fun x6 => if (!x6) = true then (some (([] : (List Int)))) else ((jV7 a0 a1).bind fun x11 => (jV7 a0 a2).bind fun x15 => (im7 x11 x15 a0 aP7 [] (IntKind.i64.wrap ((x11.length : Int) - 1))).bind fun q76 => some (q76))))
def Ev7 : Con := ⟨aF7 × Int × Int, (List Int), 100, fun a => [.agg [.ro (List.map (am7 false) a.1.commits), .ro (List.map aW7 a.1.heads)], .v (.int .i64 a.2.1), .v (.int .i64 a.2.2)], fun a => qM7 a.1 a.2.1 a.2.2, fun a r => ⟨[(false, [sl true 17 (List.map bz7 r)])], []⟩, fun a => []⟩
def qN7 (a0 : List Str) : Option (List Str) := p27 a0
def xS7 : Con := op7 121
theorem JU7 {a0 r : List Str} (h : qN7 a0 = some r) : r.length = a0.length := xi7 h
def t57 (a0 : List Str) : Option (List Str) := vo7 a0
def Ew7 : Con := oq7 122
def JV7 : IFn := ⟨8, [.inl 3],
 (Rs (sq 2 [Io (.box 100 [none, none, some 66, some 82] (.t 0)), Kb false] [])
 (Rs (sq 4 [Fa 0 2, Ld 1 4, Ld 1 1, Bb .eql 5 6] [Mv 7 3])
 .ret)), lcF []⟩
def JW7 : List (List (Option Nat)) := [[none]]
def t67 (a0 : Feat) (a1 : Str) : Option Bool := some ((seq a0.id a1))
def Ah7 : Con := ⟨Feat × Str, Bool, 123, fun a => [.agg [.v (.string a.1.id), .v (.int .i64 a.1.shape.kind), .ro (List.map ePt a.1.shape.pts), .ro (List.map bb7 a.1.tags)], .rptr [.v (.string a.2)]], fun a => t67 a.1 a.2, fun a r => ⟨[(false, [.v (.bool r)])], []⟩, fun a => []⟩
def JX7 : IFn := ⟨19, [.inl 4],
 (Rs [Ki 0 4]
 (.seq (Rs (sq 6 [Mv 0, Ln 6, Ki 0] [])
 (bU7 0 (.loop (Rs [Bb .lss 8 7 9]
 (.seq (Ct 9 .skip
 (.exit 0))
 (.seq (.block 1 (Rs [Mv 8 10, Mv 10 5]
 (Rs (sq 11 [Mv 1, Mv 0, Mv 5, Ia 4 12 13, La 4 14, Io (.calld (.t 11) [(false, .t 15)])] [])
 (Ct 16 (Rs [Mv 5 17, Mv 17 4]
 .ret)
 .skip))))
 (.reg [Bk .add 8 1 18, Mv 18 8])))))))
 (Rs [Ki (-1) 4]
 .ret))), lcF []⟩
def JY7 : List (List (Option Nat)) := [[none]]
def fE7 (a1 : Str) : List Feat → Nat → Option (Int ⊕ Unit)
 | [], k16 => some (.inr ())
 | x17 :: l18, k16 => (t67 x17 a1).bind fun x25 => if x25 = true then (some (.inl ((k16 : Int)))) else (fE7 a1 l18 (k16 + 1) )
def t77 (a0 : (List Feat)) (a1 : Str) : Option Int := if aH7 a0.length = true then ((fE7 a1 a0 0 ).bind fun q => match q with | .inl r => some r | .inr q14 => some ((-1))) else none
def Ex7 : Con := ⟨(List Feat) × Str, Int, 124, fun a => [.ro (List.map (aj7 false) a.1), .fn 123 [.rptr [.v (.string a.2)]]], fun a => t77 a.1 a.2, fun a r => ⟨[(false, [.v (.int .i64 r)])], []⟩, fun a => []⟩
def JZ7 : IFn := ⟨8, [.inl 4],
 (Rs (sq 3 [Io (.box 49 [none] (.t 1)), Ki 0] [])
 (Rs (sq 5 [Mv 0, Io (.mkf 123 [.t 3]), Ca 124 [5, 6]] [Mv 7 4])
 .ret)), lcF []⟩
def J07 : List (List (Option Nat)) := [[none]]
def qO7 (a0 : (List Feat)) (a1 : Str) : Option Int := (t77 a0 a1).bind fun x2 => some (x2)
def Ey7 : Con := ⟨(List Feat) × Str, Int, 125, fun a => [.ro (List.map (aj7 false) a.1), .v (.string a.2)], fun a => qO7 a.1 a.2, fun a r => ⟨[(false, [.v (.int .i64 r)])], []⟩, fun a => []⟩
def J17 : IFn := ⟨18, [.inr (4, 4), .inl 5],
 (Rs (sq 4 [Io (.alloc 100 [.v (.string ⟨#[]⟩), .v (.int .i64 0), .sl true 66 [], .sl true 82 []]), Kb false] [])
 (Rs (sq 7 [Mv 0, Mv 1, Ca 125 [7, 8]] [Mv 9 6])
 (.seq (Rs (sq 10 [Mv 6, Bk .lss 10 0] [])
 (Ct 11 (Rs [Io (.build [.v (.string ⟨#[]⟩), .v (.int .i64 0), .nil, .nil] []) 12, Sv [none, none, some 66, some 82] 4 12, Kb false 5]
 .ret)
 .skip))
 (Rs (sq 13 [Mv 0, Mv 6, Ia 4 13 14, La 4 15, Ca 92 [16]] [Sv [none, none, some 66, some 82] 4 17, Kb true 5])
 .ret)))), lcF []⟩
def J27 : List (List (Option Nat)) := [[none, none, some 66, some 82], [none]]
def qP7 (a0 : (List Feat)) (a1 : Str) : Option (Feat × Bool) := (qO7 a0 a1).bind fun x2 => if (decide (x2 < 0)) = true then (some ((⟨(⟨#[]⟩ : Str), ⟨0, []⟩, []⟩ : Feat), false)) else ((idx a0 x2).bind fun x4 => (lC7 x4).bind fun x6 => some (x6, true))
def Ez7 : Con := ⟨(List Feat) × Str, (Feat × Bool), 126, fun a => [.ro (List.map (aj7 false) a.1), .v (.string a.2)], fun a => qP7 a.1 a.2, fun a r => ⟨[(true, aj7 true r.1), (false, [.v (.bool r.2)])], []⟩, fun a => []⟩
def BY7 (a0 : List Pt) (a1 : List Pt) : Option (List (List Int)) := vp7 a0 a1
def J37 : Con := sp7 131
def J47 : IFn := ⟨75, [.inl 4],
 (Rs [Io (.mv (.c (.slice none 0 0))) 4]
 (Rs [Io (.lit 194 [none, none] [.v (.int .i64 0), .v (.int .i64 0)] 0 []) 9, Mv 9 5]
 (.seq (Rs (sq 10 [Mv 0, Ln 10, Bk .gtr 11 12, Mv 12] (Sf 13 14 [Mv 1, Ln 14, Bk .gtr 15 12] [Pk 13 16 17]))
 (Ct 17 (Rs [Mv 5 18, Mv 18 4]
 .ret)
 .skip))
 (Rs (sq 19 [Mv 0, Mv 1, Io (.frz (.call 131 [(false, .t 19), (false, .t 20)]))] [Mv 21 6])
 (.seq (Rs (sq 7 [Ki 0, Ki 0] [])
 (bU7 0 (.loop (.seq (Rs (sq 22 [Mv 7, Mv 0, Ln 23, Bb .lss 22 24, Mv 25] (Sg 26 27 [Mv 8, Mv 1, Ln 28, Bb .lss 27 29] [Pf 26 30 31]))
 (Ct 31 .skip
 (.exit 0)))
 (.block 1 (.block 2 (.seq (.drw (sq 35 [Mv 0, Mv 7, Ia 2 35 36, La 2 37, Mv 1, Mv 8, Ia 2 39 40, La 2 41, Io (.eqs false true [0, 0] (.t 38) (.t 42))] [Mv 43 34]) [(3, 7)])
 (Ct 34 (Rs (sq 44 [Mv 5, Mv 7, Mv 8, Io (.build [.v (.int .i64 0), .v (.int .i64 0)] [(0, 1, .t 45), (1, 1, .t 46)]), Io (.lit 194 [none, none] [.v (.int .i64 0), .v (.int .i64 0)] 1 [(0, .t 47)]), Io (.app 194 true (.t 44) (.t 48))] [Mv 49 5])
 (Rs (sq 50 [Mv 7, Bk .add 50 1] [Mv 51 7])
 (.reg (sq 52 [Mv 8, Bk .add 52 1] [Mv 53 8]))))
 (.seq (.drw (sq 55 [Mv 6, Mv 7, Bk .add 56 1, Ia 1 55 57, Ld 1 58, Mv 8, Ia 1 59 60, Ld 1 61, Mv 6, Mv 7, Ia 1 63 64, Ld 1 65, Mv 8, Bk .add 67 1, Ia 1 66 68, Ld 1 69, Bb .geq 62 70] [Mv 71 54]) [(4, 11), (7, 11), (4, 15), (7, 15)])
 (Ct 54 (.reg (sq 72 [Mv 7, Bk .add 72 1] [Mv 73 7]))
 (.reg (sq 32 [Mv 8, Bk .add 32 1] [Mv 33 8]))))))))))))
 (Rs [Mv 5 74, Mv 74 4]
 .ret)))))), lcF []⟩
def J57 : List (List (Option Nat)) := [[some 194]]
def dC7 (a0 : (List Pt)) (a1 : (List Pt)) (x2 : (List (List Int))) : Nat → Int → Int → (List cI7) → Option (List cI7)
 | 0, _, _, _ => none
 | n49 + 1, v44, v45, v46 => if (decide (v44 < (a0.length : Int))) = true then (if (decide (v45 < (a1.length : Int))) = true then ((idx a0 v44).bind fun x50 => (idx a1 v45).bind fun x52 => if ((x50.x == x52.x) && ((x50.y == x52.y) && true)) = true then (if aH7 (v46 ++ ([(⟨v44, v45⟩ : cI7)] : (List cI7))).length = true then dC7 a0 a1 x2 n49 (IntKind.i64.wrap (v44 + 1)) (IntKind.i64.wrap (v45 + 1)) (v46 ++ ([(⟨v44, v45⟩ : cI7)] : (List cI7))) else none) else ((idx x2 (IntKind.i64.wrap (v44 + 1))).bind fun x58 => (idx x58 v45).bind fun x60 => (idx x2 v44).bind fun x62 => (idx x62 (IntKind.i64.wrap (v45 + 1))).bind fun x64 => if (decide (x60 ≥ x64)) = true then (dC7 a0 a1 x2 n49 (IntKind.i64.wrap (v44 + 1)) v45 v46) else (dC7 a0 a1 x2 n49 v44 (IntKind.i64.wrap (v45 + 1)) v46))) else (some v46)) else (some v46)
def nA7 (a0 : (List Pt)) (a1 : (List Pt)) : Option (List cI7) := if (decide ((a0.length : Int) > 12)) = true then (some (([] : (List cI7)))) else (if (decide ((a1.length : Int) > 12)) = true then (some (([] : (List cI7)))) else ((BY7 a0 a1).bind fun x2 => (dC7 a0 a1 x2 aP7 0 0 []).bind fun q43 => some (q43)))
def EA7 : Con := ⟨(List Pt) × (List Pt), (List cI7), 132, fun a => [.ro (List.map ePt a.1), .ro (List.map ePt a.2)], fun a => nA7 a.1 a.2, fun a r => ⟨[(false, [sl true 194 (List.map fb7 r)])], []⟩, fun a => []⟩
def J67 : IFn := ⟨20, [.inl 4],
 (Rs [Ki 0 4]
 (.seq (Rs (sq 7 [Mv 0, Ln 7, Ki 0] [])
 (bU7 0 (.loop (Rs [Bb .lss 9 8 10]
 (.seq (Ct 10 .skip
 (.exit 0))
 (.seq (.block 1 (Rs (sq 11 [Ia 2 7 9, La 2 11] [Io (.alloc 194 [.v (.int .i64 0), .v (.int .i64 0)]) 6, Sv [none, none] 6 12])
 (Rs (sq 13 [Fa 0 6, Ld 1 13, Mv 1, Bb .eql 14 15] [])
 (Ct 16 (Rs (sq 17 [Fa 1 6, Ld 1 17] [Mv 18 4])
 .ret)
 .skip))))
 (.reg [Bk .add 9 1 19, Mv 19 9])))))))
 (Rs [Ki (-1) 4]
 .ret))), lcF []⟩
def J77 : List (List (Option Nat)) := [[none]]
def fF7 (a1 : Int) : List cI7 → Nat → Option (Int ⊕ Unit)
 | [], k13 => some (.inr ())
 | x14 :: l15, k13 => if (x14.a == a1) = true then (some (.inl (x14.b))) else (fF7 a1 l15 (k13 + 1) )
def nB7 (a0 : (List cI7)) (a1 : Int) : Option Int := if aH7 a0.length = true then ((fF7 a1 a0 0 ).bind fun q => match q with | .inl r => some r | .inr q11 => some ((-1))) else none
def EB7 : Con := ⟨(List cI7) × Int, Int, 133, fun a => [.ro (List.map fb7 a.1), .v (.int .i64 a.2)], fun a => nB7 a.1 a.2, fun a r => ⟨[(false, [.v (.int .i64 r)])], []⟩, fun a => []⟩
def J87 : IFn := ⟨8, [.inl 3],
 (Rs (sq 2 [Io (.box 82 [none, none] (.t 0)), Kb false] [])
 (Rs (sq 4 [Fa 0 2, Ld 1 4, Ld 1 1, Bb .eql 5 6] [Mv 7 3])
 .ret)), lcF []⟩
def J97 : List (List (Option Nat)) := [[none]]
def t87 (a0 : Tag) (a1 : Str) : Option Bool := some ((seq a0.key a1))
def Ai7 : Con := ⟨Tag × Str, Bool, 134, fun a => [.agg [.v (.string a.1.key), .v (.string a.1.val)], .rptr [.v (.string a.2)]], fun a => t87 a.1 a.2, fun a r => ⟨[(false, [.v (.bool r)])], []⟩, fun a => []⟩
def Ka7 : IFn := ⟨19, [.inl 4],
 (Rs [Ki 0 4]
 (.seq (Rs (sq 6 [Mv 0, Ln 6, Ki 0] [])
 (bU7 0 (.loop (Rs [Bb .lss 8 7 9]
 (.seq (Ct 9 .skip
 (.exit 0))
 (.seq (.block 1 (Rs [Mv 8 10, Mv 10 5]
 (Rs (sq 11 [Mv 1, Mv 0, Mv 5, Ia 2 12 13, La 2 14, Io (.calld (.t 11) [(false, .t 15)])] [])
 (Ct 16 (Rs [Mv 5 17, Mv 17 4]
 .ret)
 .skip))))
 (.reg [Bk .add 8 1 18, Mv 18 8])))))))
 (Rs [Ki (-1) 4]
 .ret))), lcF []⟩
def Kb7 : List (List (Option Nat)) := [[none]]
def fG7 (a1 : Str) : List Tag → Nat → Option (Int ⊕ Unit)
 | [], k16 => some (.inr ())
 | x17 :: l18, k16 => (t87 x17 a1).bind fun x25 => if x25 = true then (some (.inl ((k16 : Int)))) else (fG7 a1 l18 (k16 + 1) )
def t97 (a0 : (List Tag)) (a1 : Str) : Option Int := if aH7 a0.length = true then ((fG7 a1 a0 0 ).bind fun q => match q with | .inl r => some r | .inr q14 => some ((-1))) else none
def EC7 : Con := ⟨(List Tag) × Str, Int, 135, fun a => [.ro (List.map bb7 a.1), .fn 134 [.rptr [.v (.string a.2)]]], fun a => t97 a.1 a.2, fun a r => ⟨[(false, [.v (.int .i64 r)])], []⟩, fun a => []⟩
def Kc7 : IFn := ⟨9, [.inl 4],
 (Rs (sq 2 [Io (.box 100 [none, none, some 66, some 82] (.t 0)), Io (.box 49 [none] (.t 1)), Ki 0] [])
 (Rs (sq 5 [Fa 3 2, Ld 1 5, Io (.mkf 134 [.t 3]), Ca 135 [6, 7]] [Mv 8 4])
 .ret)), lcF []⟩
def Kd7 : List (List (Option Nat)) := [[none]]
def qQ7 (a0 : Feat) (a1 : Str) : Option Int := (t97 a0.tags a1).bind fun x3 => some (x3)
def ED7 : Con := ⟨Feat × Str, Int, 136, fun a => [.agg [.v (.string a.1.id), .v (.int .i64 a.1.shape.kind), .ro (List.map ePt a.1.shape.pts), .ro (List.map bb7 a.1.tags)], .v (.string a.2)], fun a => qQ7 a.1 a.2, fun a r => ⟨[(false, [.v (.int .i64 r)])], []⟩, fun a => []⟩
def Ke7 : IFn := ⟨117, [.inl 6, .inl 7],
 (Rs (sq 6 [Io (.mv (.c (.slice none 0 0))), Kb false] [])
 (.seq (Rs (sq 20 [Mv 0, Ln 20, Bk .gtr 21 12, Mv 22] (Sf 23 24 [Mv 1, Ln 24, Bk .gtr 25 12] (sq 27 [Pk 23 26, Mv 27] (Sf 28 29 [Mv 2, Ln 29, Bk .gtr 30 12] [Pk 28 31 32]))))
 (Ct 32 (Rs (Io (.lit 66 [none, none] [.v (.int .i64 0), .v (.int .i64 0)] 0 []) 33 :: (sq 6 [Mv 33, Kb false] []))
 .ret)
 .skip))
 (Rs (sq 34 [Mv 0, Mv 1, Ca 132 [34, 35], Mv 0, Mv 2, Ca 132 [37, 38]] (sq 8 [Mv 36, Mv 39] []))
 (Rs [Io (.lit 66 [none, none] [.v (.int .i64 0), .v (.int .i64 0)] 0 []) 40, Mv 40 10]
 (Rs (sq 11 [Ki 0, Ki 0, Ki 0] [])
 (.seq (Rs [Ki 0 14]
 (bU7 0 (.loop (.seq (Rs (sq 41 [Mv 14, Mv 0, Ln 42, Bb .leq 41 43] [])
 (Ct 44 .skip
 (.exit 0)))
 (eH7 (.block 1 (Rs (sq 47 [Mv 1, Ln 47, Mv 2, Ln 49] (sq 15 [Mv 48, Mv 50] []))
 (.seq (Rs (sq 51 [Mv 14, Mv 0, Ln 52, Bb .lss 51 53] [])
 (Ct 54 (Rs (sq 55 [Mv 8, Mv 14, Ca 133 [55, 56], Mv 9, Mv 14, Ca 133 [58, 59]] (sq 15 [Mv 57, Mv 60] []))
 (Rs (sq 61 [Mv 15, Bk .lss 61 0, Mv 62] (Sf 63 64 [Mv 16, Bk .lss 64 0] [Pk 63 65 66]))
 (Ct 66 (.exit 1)
 .skip)))
 .skip))
 (.seq (.drw (sq 67 [Mv 0, Mv 11, Mv 14, Io (.sls 2 (.t 67) (some (.t 68)) (some (.t 69))), Mv 1, Mv 12, Mv 15, Io (.sls 2 (.t 71) (some (.t 72)) (some (.t 73))), Mv 2, Mv 13, Mv 16, Io (.sls 2 (.t 75) (some (.t 76)) (some (.t 77)))] (sq 17 [Mv 70, Mv 74, Mv 78] [])) [])
 (eH7 (.block 2 (Rs (sq 81 [Mv 18, Mv 17, Ca 127 [81, 82]] [Mv 83 80])
 (Ct 80 (.reg (sq 84 [Mv 10, Mv 19, Io (.app 66 false (.t 84) (.t 85))] [Mv 86 10]))
 (Rs (sq 88 [Mv 19, Mv 17, Ca 127 [88, 89], Mv 90] (Sf 91 92 [Mv 18, Mv 19, Ca 127 [92, 93]] [Pk 91 94 95, Mv 95 87]))
 (Ct 87 (.reg (sq 96 [Mv 10, Mv 18, Io (.app 66 false (.t 96) (.t 97))] [Mv 98 10]))
 (Rs (Io (.lit 66 [none, none] [.v (.int .i64 0), .v (.int .i64 0)] 0 []) 79 :: (sq 6 [Mv 79, Kb false] []))
 .ret))))))
 (.seq (Rs (sq 99 [Mv 14, Mv 0, Ln 100, Bb .lss 99 101] [])
 (Ct 102 (.reg (sq 103 [Mv 10, Mv 0, Mv 14, Ia 2 104 105, La 2 106, Io (.lit 66 [none, none] [.v (.int .i64 0), .v (.int .i64 0)] 1 [(0, .t 107)]), Io (.app 66 true (.t 103) (.t 108))] [Mv 109 10]))
 .skip))
 (.reg (sq 110 [Mv 14, Bk .add 110 1, Mv 15, Bk .add 112 1, Mv 16, Bk .add 114 1] (sq 11 [Mv 111, Mv 113, Mv 115] [])))))))))
 (.reg (sq 45 [Mv 14, Bk .add 45 1] [Mv 46 14])))))))
 (Rs (Mv 10 116 :: (sq 6 [Mv 116, Kb true] []))
 .ret))))))), lcF []⟩
def Kf7 : List (List (Option Nat)) := [[some 66], [none]]
def en7 (a0 : (List Pt)) (x4 : (List cI7)) (x8 : (List cI7)) (a1 : (List Pt)) (a2 : (List Pt)) : Nat → Int → Int → Int → Int → (List Pt) → Option (((List Pt) × Bool) ⊕ (List Pt))
 | 0, _, _, _, _, _ => none
 | n649 + 1, v642, v643, v644, v645, v646 => if (decide (v645 ≤ (a0.length : Int))) = true then (((if (decide (v645 < (a0.length : Int))) = true then ((nB7 x4 v645).bind fun x751 => (nB7 x8 v645).bind fun x753 => if (decide (x751 < 0)) = true then (some (.inr (v642, v643, v644, v646))) else (if (decide (x753 < 0)) = true then (some (.inr (v642, v643, v644, v646))) else ((slc a0 v642 v645).bind fun x755 => (slc a1 v643 x751).bind fun x757 => (slc a2 v644 x753).bind fun x759 => (((eT7 x757 x755).bind fun x778 => if x778 = true then (if aH7 (v646 ++ x759).length = true then some (.inr (v646 ++ x759)) else none) else ((eT7 x759 x755).bind fun x783 => if x783 = true then (if aH7 (v646 ++ x757).length = true then some (.inr (v646 ++ x757)) else none) else ((eT7 x757 x759).bind fun x785 => if x785 = true then (if aH7 (v646 ++ x757).length = true then some (.inr (v646 ++ x757)) else none) else (some (.inl (([] : (List Pt)), false))))) : Option (((List Pt) × Bool) ⊕ (List Pt)))).bind fun q => match q with | .inl r => some (.inl r) | .inr q777 => if (decide (v645 < (a0.length : Int))) = true then ((idx a0 v645).bind fun x797 => if aH7 (q777 ++ ([x797] : (List Pt))).length = true then some (.inr ((IntKind.i64.wrap (v645 + 1)), (IntKind.i64.wrap (x751 + 1)), (IntKind.i64.wrap (x753 + 1)), (q777 ++ ([x797] : (List Pt))))) else none) else (some (.inr ((IntKind.i64.wrap (v645 + 1)), (IntKind.i64.wrap (x751 + 1)), (IntKind.i64.wrap (x753 + 1)), q777)))))) else ((slc a0 v642 v645).bind fun x803 => (slc a1 v643 (a1.length : Int)).bind fun x805 => (slc a2 v644 (a2.length : Int)).bind fun x807 => (((eT7 x805 x803).bind fun x826 => if x826 = true then (if aH7 (v646 ++ x807).length = true then some (.inr (v646 ++ x807)) else none) else ((eT7 x807 x803).bind fun x831 => if x831 = true then (if aH7 (v646 ++ x805).length = true then some (.inr (v646 ++ x805)) else none) else ((eT7 x805 x807).bind fun x833 => if x833 = true then (if aH7 (v646 ++ x805).length = true then some (.inr (v646 ++ x805)) else none) else (some (.inl (([] : (List Pt)), false))))) : Option (((List Pt) × Bool) ⊕ (List Pt)))).bind fun q => match q with | .inl r => some (.inl r) | .inr q825 => if (decide (v645 < (a0.length : Int))) = true then ((idx a0 v645).bind fun x845 => if aH7 (q825 ++ ([x845] : (List Pt))).length = true then some (.inr ((IntKind.i64.wrap (v645 + 1)), (IntKind.i64.wrap ((a1.length : Int) + 1)), (IntKind.i64.wrap ((a2.length : Int) + 1)), (q825 ++ ([x845] : (List Pt))))) else none) else (some (.inr ((IntKind.i64.wrap (v645 + 1)), (IntKind.i64.wrap ((a1.length : Int) + 1)), (IntKind.i64.wrap ((a2.length : Int) + 1)), q825)))) : Option (((List Pt) × Bool) ⊕ (Int × Int × Int × (List Pt))))).bind fun q => match q with | .inl r => some (.inl r) | .inr q750 => en7 a0 x4 x8 a1 a2 n649 q750.1 q750.2.1 q750.2.2.1 (IntKind.i64.wrap (v645 + 1)) q750.2.2.2) else (some (.inr v646))
def nC7 (a0 : (List Pt)) (a1 : (List Pt)) (a2 : (List Pt)) : Option ((List Pt) × Bool) := if (decide ((a0.length : Int) > 12)) = true then (some (([] : (List Pt)), false)) else (if (decide ((a1.length : Int) > 12)) = true then (some (([] : (List Pt)), false)) else (if (decide ((a2.length : Int) > 12)) = true then (some (([] : (List Pt)), false)) else ((nA7 a0 a1).bind fun x4 => (nA7 a0 a2).bind fun x8 => (en7 a0 x4 x8 a1 a2 aP7 0 0 0 0 []).bind fun q => match q with | .inl r => some r | .inr q641 => some (q641, true))))
def EE7 : Con := ⟨(List Pt) × (List Pt) × (List Pt), ((List Pt) × Bool), 138, fun a => [.ro (List.map ePt a.1), .ro (List.map ePt a.2.1), .ro (List.map ePt a.2.2)], fun a => nC7 a.1 a.2.1 a.2.2, fun a r => ⟨[(false, [sl true 66 (List.map ePt r.1)]), (false, [.v (.bool r.2)])], []⟩, fun a => []⟩
def BZ7 (a0 : Int) : Option (List Tag) := xj7 a0
def Kg7 : Con := so7 401 82 bb7
def Kh7 : IFn := ⟨36, [.inl 2],
 (Rs [Io (.mv (.c (.slice none 0 0))) 2]
 (Rs [Ki 0 3]
 (.seq (Rs (sq 9 [Mv 0, Ln 9, Ki 0] [])
 (bU7 0 (.loop (Rs [Bb .lss 11 10 12]
 (.seq (Ct 12 .skip
 (.exit 0))
 (.seq (.block 1 (Rs (sq 13 [Ia 1 9 11, Ld 1 13] [Mv 14 5])
 (Rs (sq 15 [Mv 3, Mv 5, Ln 16, Bb .add 15 17] [Mv 18 3])
 (Rs (sq 19 [Mv 3, Bk .lss 19 0] [])
 (Ct 20 (.reg [Io (.dead) 21, Iz (.dead)])
 .skip)))))
 (.reg [Bk .add 11 1 22, Mv 22 11])))))))
 (Rs (sq 23 [Mv 3, Io (.call 401 [(false, .nl), (false, .t 23)])] [Mv 24 6])
 (.seq (Rs (sq 25 [Mv 0, Ln 25, Ki 0] [])
 (bU7 2 (.loop (Rs [Bb .lss 27 26 28]
 (.seq (Ct 28 .skip
 (.exit 2))
 (.seq (.block 3 (Rs (sq 29 [Ia 1 25 27, Ld 1 29] [Mv 30 8])
 (.reg (sq 31 [Mv 6, Mv 8, Io (.app 82 false (.t 31) (.t 32))] [Mv 33 6]))))
 (.reg [Bk .add 27 1 34, Mv 34 27])))))))
 (Rs [Mv 6 35, Mv 35 2]
 .ret)))))), lcF []⟩
def Ki7 : List (List (Option Nat)) := [[some 82]]
def fH7 : List (List Tag) → Nat → Int → Option Int
 | [], k12, v10 => some v10
 | x13 :: l14, k12, v10 => if (decide ((IntKind.i64.wrap (v10 + (x13.length : Int))) < 0)) = true then (none) else (fH7 l14 (k12 + 1) (IntKind.i64.wrap (v10 + (x13.length : Int))))
def eo7 : List (List Tag) → Nat → (List Tag) → Option (List Tag)
 | [], k50, v47 => some v47
 | x51 :: l52, k50, v47 => if aH7 (v47 ++ x51).length = true then eo7 l52 (k50 + 1) (v47 ++ x51) else none
def qR7 (a0 : (List (List Tag))) : Option (List Tag) := if aH7 a0.length = true then ((fH7 a0 0 0).bind fun q9 => (BZ7 q9).bind fun x22 => if aH7 a0.length = true then ((eo7 a0 0 x22).bind fun q45 => some (q45)) else none) else none
def Aj7 : Con := ⟨(List (List Tag)), (List Tag), 139, fun a => [.ro (List.map (eSl false 82 bb7) a)], fun a => qR7 a, fun a r => ⟨[(false, [sl true 82 (List.map bb7 r)])], []⟩, fun a => []⟩
def Kj7 : IFn := ⟨19, [.inr (4, 2)],
 (Rs [Io (.box 100 [none, none, some 66, some 82] (.t 0)) 2, Io (.alloc 306 [.v (.bool false), .v (.string ⟨#[]⟩)]) 4]
 (Rs (sq 6 [La 4 2, Mv 1, Ca 136 [6, 7]] [Mv 8 5])
 (.seq (Rs (sq 9 [Mv 5, Bk .lss 9 0] [])
 (Ct 10 (Rs [Io (.build [.v (.bool false), .v (.string ⟨#[]⟩)] []) 11, Sv [none, none] 4 11]
 .ret)
 .skip))
 (Rs (sq 12 [Fa 3 2, Ld 1 12, Mv 5, Ia 2 13 14, Fa 1 15, Ld 1 16, Io (.build [.v (.bool false), .v (.string ⟨#[]⟩)] [(0, 1, .c (.bool true)), (1, 1, .t 17)])] [Sv [none, none] 4 18])
 .ret)))), lcF []⟩
def Kk7 : List (List (Option Nat)) := [[none, none]]
def lD7 (a0 : Feat) (a1 : Str) : Option Val := (qQ7 a0 a1).bind fun x3 => if (decide (x3 < 0)) = true then (some ((⟨false, (⟨#[]⟩ : Str)⟩ : Val))) else ((idx a0.tags x3).bind fun x5 => some ((⟨true, x5.val⟩ : Val)))
def EF7 : Con := ⟨Feat × Str, Val, 140, fun a => [.agg [.v (.string a.1.id), .v (.int .i64 a.1.shape.kind), .ro (List.map ePt a.1.shape.pts), .ro (List.map bb7 a.1.tags)], .v (.string a.2)], fun a => lD7 a.1 a.2, fun a r => ⟨[(true, F47 r)], []⟩, fun a => []⟩
def Kl7 : IFn := ⟨8, [.inl 4],
 (Rs (sq 2 [Io (.box 306 [none, none] (.t 0)), Io (.box 306 [none, none] (.t 1)), Kb false] [])
 (Rs (sq 5 [La 2 2, La 2 3, Io (.eqs false true [1, 2] (.t 5) (.t 6))] [Mv 7 4])
 .ret)), lcF []⟩
def Km7 : List (List (Option Nat)) := [[none]]
def nD7 (a0 : Val) (a1 : Val) : Option Bool := some (((a0.has == a1.has) && ((a0.val == a1.val) && true)))
def vy7 : Con := ⟨Val × Val, Bool, 142, fun a => [.agg [.v (.bool a.1.has), .v (.string a.1.val)], .agg [.v (.bool a.2.has), .v (.string a.2.val)]], fun a => nD7 a.1 a.2, fun a r => ⟨[(false, [.v (.bool r)])], []⟩, fun a => []⟩
def Kn7 : IFn := ⟨32, [.inl 2],
 (Rs [Io (.mv (.c (.slice none 0 0))) 2]
 (Rs [Io (.lit 49 [none] [.v (.string ⟨#[]⟩)] 0 []) 8, Mv 8 3]
 (.seq (Rs (sq 9 [Mv 0, Ln 9, Ki 0] [])
 (bU7 0 (.loop (Rs [Bb .lss 11 10 12]
 (.seq (Ct 12 .skip
 (.exit 0))
 (.seq (.block 1 (Rs (sq 13 [Ia 1 9 11, Ld 1 13] [Mv 14 5])
 (Rs (sq 15 [Mv 5, Ln 15, Ki 0] [])
 (bU7 2 (.loop (Rs [Bb .lss 17 16 18]
 (.seq (Ct 18 .skip
 (.exit 2))
 (.seq (.block 3 (Rs (sq 19 [Ia 4 15 17, La 4 19] [Io (.alloc 100 [.v (.string ⟨#[]⟩), .v (.int .i64 0), .sl true 66 [], .sl true 82 []]) 7, Sv [none, none, some 66, some 82] 7 20])
 (.reg (sq 21 [Mv 3, Fa 0 7, Ld 1 22, Io (.lit 49 [none] [.v (.string ⟨#[]⟩)] 1 [(0, .t 23)]), Io (.app 49 true (.t 21) (.t 24))] [Mv 25 3]))))
 (.reg [Bk .add 17 1 26, Mv 26 17])))))))))
 (.reg [Bk .add 11 1 27, Mv 27 11])))))))
 (Rs (sq 28 [Mv 3, Io (.call 121 [(true, .t 28)])] [])
 (Rs (sq 30 [Mv 3, Io (.call 122 [(true, .t 30)])] [Mv 31 2])
 .ret))))), lcF []⟩
def Ko7 : List (List (Option Nat)) := [[some 49]]
def ep7 : List Feat → Nat → (List Str) → Option (List Str)
 | [], k197, v194 => some v194
 | x198 :: l199, k197, v194 => if aH7 (v194 ++ ([x198.id] : (List Str))).length = true then ep7 l199 (k197 + 1) (v194 ++ ([x198.id] : (List Str))) else none
def gT7 : List (List Feat) → Nat → (List Str) → Option (List Str)
 | [], k158, v155 => some v155
 | x159 :: l160, k158, v155 => if aH7 x159.length = true then ((ep7 x159 0 v155).bind fun q192 => gT7 l160 (k158 + 1) q192) else none
def qS7 (a0 : (List (List Feat))) : Option (List Str) := if aH7 a0.length = true then ((gT7 a0 0 []).bind fun q153 => (qN7 q153).bind fun x217 => (t57 x217).bind fun x219 => some (x219)) else none
def Ak7 : Con := ⟨(List (List Feat)), (List Str), 143, fun a => [.ro (List.map (eSl false 100 (aj7 false)) a)], fun a => qS7 a, fun a r => ⟨[(false, [sl true 49 (List.map cv7 r)])], []⟩, fun a => []⟩
def Kp7 : IFn := ⟨16, [.inr (4, 5)],
 (Rs [Io (.alloc 325 [.v (.bool false), .v (.string ⟨#[]⟩), .v (.int .i64 0), .sl true 66 [], .sl true 82 []]) 4]
 (Rs (sq 8 [Mv 0, Mv 1, Ca 126 [8, 9]] (Mv 10 7 :: (sq 11 [Xt 7 0, Xt 7 1] [Io (.alloc 100 [.v (.string ⟨#[]⟩), .v (.int .i64 0), .sl true 66 [], .sl true 82 []]) 5, Sv [none, none, some 66, some 82] 5 11, Mv 12 6])))
 (Rs (sq 13 [Mv 6, La 4 5, Io (.build [.v (.bool false), .v (.string ⟨#[]⟩), .v (.int .i64 0), .nil, .nil] [(0, 1, .t 13), (1, 4, .t 14)])] [Sv [none, none, none, some 66, some 82] 4 15])
 .ret))), lcF []⟩
def Kq7 : List (List (Option Nat)) := [[none, none, none, some 66, some 82]]
def lE7 (a0 : (List Feat)) (a1 : Str) : Option dh7 := (qP7 a0 a1).bind fun x2 => some ((⟨x2.2, x2.1⟩ : dh7))
def EG7 : Con := ⟨(List Feat) × Str, dh7, 144, fun a => [.ro (List.map (aj7 false) a.1), .v (.string a.2)], fun a => lE7 a.1 a.2, fun a r => ⟨[(true, pJ7 true r)], []⟩, fun a => []⟩
def Kr7 : IFn := ⟨17, [.inl 4],
 (Rs (sq 2 [Io (.box 325 [none, none, none, some 66, some 82] (.t 0)), Io (.box 325 [none, none, none, some 66, some 82] (.t 1)), Kb false] [])
 (Rs (sq 5 [Fa 0 2, Ld 1 5, Fa 0 3, Ld 1 7, Io (.eqs false false [1] (.t 6) (.t 8)), Mv 9] (Sg 10 11 [Fa 1 2, La 4 11, Fa 1 3, La 4 13, Ca 130 [12, 14]] [Pf 10 15 16, Mv 16 4]))
 .ret)), lcF []⟩
def Ks7 : List (List (Option Nat)) := [[none]]
def lF7 (a0 : dh7) (a1 : dh7) : Option Bool := if (a0.has == a1.has) = true then ((ny7 a0.f a1.f).bind fun x3 => some (x3)) else (some (false))
def vz7 : Con := ⟨dh7 × dh7, Bool, 146, fun a => [.agg [.v (.bool a.1.has), .v (.string a.1.f.id), .v (.int .i64 a.1.f.shape.kind), .ro (List.map ePt a.1.f.shape.pts), .ro (List.map bb7 a.1.f.tags)], .agg [.v (.bool a.2.has), .v (.string a.2.f.id), .v (.int .i64 a.2.f.shape.kind), .ro (List.map ePt a.2.f.shape.pts), .ro (List.map bb7 a.2.f.tags)]], fun a => lF7 a.1 a.2, fun a r => ⟨[(false, [.v (.bool r)])], []⟩, fun a => []⟩
def Kt7 : IFn := ⟨27, [.inr (8, 2), .inl 9],
 (Rs (sq 4 [Io (.box 226 [none, some 66] (.t 0)), Io (.box 226 [none, some 66] (.t 1)), Io (.box 226 [none, some 66] (.t 2))] (sq 8 [Io (.alloc 226 [.v (.int .i64 0), .sl true 66 []]), Kb false] []))
 (.seq (.block 0 (Rs (sq 11 [Mv 3, La 2 5, La 2 4, Io (.calld (.t 11) [(false, .t 12), (false, .t 13)])] [Mv 14 10])
 (Ct 10 (Rs [La 2 6 15, Sv [none, some 66] 8 15, Kb true 9]
 .ret)
 (.seq (Rs (sq 17 [Mv 3, La 2 6, La 2 4, Io (.calld (.t 17) [(false, .t 18), (false, .t 19)])] [Mv 20 16])
 (Ct 16 .skip
 (.reg (sq 21 [Mv 3, La 2 5, La 2 6, Io (.calld (.t 21) [(false, .t 22), (false, .t 23)])] [Mv 24 16]))))
 (Ct 16 (Rs [La 2 5 25, Sv [none, some 66] 8 25, Kb true 9]
 .ret)
 .skip)))))
 (Rs [La 2 5 26, Sv [none, some 66] 8 26, Kb false 9]
 .ret))), lcF []⟩
def Ku7 : List (List (Option Nat)) := [[none, some 66], [none]]
def qT7 (a0 : aD7) (a1 : aD7) (a2 : aD7) : Option (aD7 × Bool) := (jU7 a1 a0).bind fun x5 => if x5 = true then (some (a2, true)) else ((jU7 a2 a0).bind fun x7 => if x7 = true then (some (a1, true)) else ((jU7 a1 a2).bind fun x9 => if x9 = true then (some (a1, true)) else (some (a1, false))))
def EH7 : Con := ⟨aD7 × aD7 × aD7, (aD7 × Bool), 137, fun a => [.agg [.v (.int .i64 a.1.kind), .ro (List.map ePt a.1.pts)], .agg [.v (.int .i64 a.2.1.kind), .ro (List.map ePt a.2.1.pts)], .agg [.v (.int .i64 a.2.2.kind), .ro (List.map ePt a.2.2.pts)], .fn 128 []], fun a => qT7 a.1 a.2.1 a.2.2, fun a r => ⟨[(true, g67 false r.1), (false, [.v (.bool r.2)])], []⟩, fun a => []⟩
def Kv7 : IFn := ⟨27, [.inr (8, 2), .inl 9],
 (Rs (sq 4 [Io (.box 306 [none, none] (.t 0)), Io (.box 306 [none, none] (.t 1)), Io (.box 306 [none, none] (.t 2))] (sq 8 [Io (.alloc 306 [.v (.bool false), .v (.string ⟨#[]⟩)]), Kb false] []))
 (.seq (.block 0 (Rs (sq 11 [Mv 3, La 2 5, La 2 4, Io (.calld (.t 11) [(false, .t 12), (false, .t 13)])] [Mv 14 10])
 (Ct 10 (Rs [La 2 6 15, Sv [none, none] 8 15, Kb true 9]
 .ret)
 (.seq (Rs (sq 17 [Mv 3, La 2 6, La 2 4, Io (.calld (.t 17) [(false, .t 18), (false, .t 19)])] [Mv 20 16])
 (Ct 16 .skip
 (.reg (sq 21 [Mv 3, La 2 5, La 2 6, Io (.calld (.t 21) [(false, .t 22), (false, .t 23)])] [Mv 24 16]))))
 (Ct 16 (Rs [La 2 5 25, Sv [none, none] 8 25, Kb true 9]
 .ret)
 .skip)))))
 (Rs [La 2 5 26, Sv [none, none] 8 26, Kb false 9]
 .ret))), lcF []⟩
def Kw7 : List (List (Option Nat)) := [[none, none], [none]]
def qU7 (a0 : Val) (a1 : Val) (a2 : Val) : Option (Val × Bool) := (nD7 a1 a0).bind fun x5 => if x5 = true then (some (a2, true)) else ((nD7 a2 a0).bind fun x7 => if x7 = true then (some (a1, true)) else ((nD7 a1 a2).bind fun x9 => if x9 = true then (some (a1, true)) else (some (a1, false))))
def EI7 : Con := ⟨Val × Val × Val, (Val × Bool), 141, fun a => [.agg [.v (.bool a.1.has), .v (.string a.1.val)], .agg [.v (.bool a.2.1.has), .v (.string a.2.1.val)], .agg [.v (.bool a.2.2.has), .v (.string a.2.2.val)], .fn 142 []], fun a => qU7 a.1 a.2.1 a.2.2, fun a r => ⟨[(true, F47 r.1), (false, [.v (.bool r.2)])], []⟩, fun a => []⟩
def Kx7 : IFn := ⟨195, [.inr (6, 4), .inl 7],
 (Rs (sq 3 [Io (.box 100 [none, none, some 66, some 82] (.t 0)), Io (.box 100 [none, none, some 66, some 82] (.t 1)), Io (.box 100 [none, none, some 66, some 82] (.t 2)), Io (.alloc 100 [.v (.string ⟨#[]⟩), .v (.int .i64 0), .sl true 66 [], .sl true 82 []]), Io (.mv (.c (.slice none 0 0)))] [])
 (Rs [Io (.lit 49 [none] [.v (.string ⟨#[]⟩)] 0 []) 25, Mv 25 8]
 (.seq (eH7 (.reg (sq 26 [La 4 3, Ca 82 [26], Nt 27, Mv 28] (Sf 29 30 [La 4 4, Ca 82 [30], Nt 31] (sq 33 [Pk 29 32, Mv 33] (Sf 34 35 [La 4 5, Ca 82 [35], Nt 36] (sq 38 [Pk 34 37, Mv 38] (Sf 39 40 [Fa 0 3, Ld 1 40, Fa 0 4, Ld 1 42, Bb .neq 41 43] (sq 45 [Pk 39 44, Mv 45] (Sf 46 47 [Fa 0 3, Ld 1 47, Fa 0 5, Ld 1 49, Bb .neq 48 50] [Pk 46 51 52])))))))))
 (Ct 52 (Rs (sq 53 [Io (.build [.v (.string ⟨#[]⟩), .v (.int .i64 0), .nil, .nil] []), Mv 8] [Sv [none, none, some 66, some 82] 6 53, Mv 54 7])
 .ret)
 .skip))
 (Rs (sq 55 [Fa 0 4, Ld 1 55, Io (.lit 82 [none, none] [.v (.string ⟨#[]⟩), .v (.string ⟨#[]⟩)] 0 []), Io (.build [.v (.string ⟨#[]⟩), .v (.int .i64 0), .nil, .nil] [(0, 1, .t 56), (3, 1, .t 57)])] [Io (.alloc 100 [.v (.string ⟨#[]⟩), .v (.int .i64 0), .sl true 66 [], .sl true 82 []]) 9, Sv [none, none, some 66, some 82] 9 58])
 (eH7 (.reg (sq 60 [Fa 1 3, La 2 60, Fa 1 4, La 2 62, Fa 1 5, La 2 64, Io (.call 137 [(false, .t 61), (false, .t 63), (false, .t 65), (false, .f 128)])] (Mv 66 59 :: (sq 67 [Xt 59 0, Xt 59 1] [Io (.alloc 226 [.v (.int .i64 0), .sl true 66 []]) 10, Sv [none, some 66] 10 67, Mv 68 11]))))
 (eH7 (Rs (sq 69 [Mv 11, Nt 69] [])
 (Ct 70 (Rs [Kb false 12]
 (eH7 (Rs (sq 71 [Fa 1 3, Fa 0 71, Ld 1 72, Fa 1 4, Fa 0 74, Ld 1 75, Bb .eql 73 76, Mv 77] (Sg 78 79 [Fa 1 3, Fa 0 79, Ld 1 80, Fa 1 5, Fa 0 82, Ld 1 83, Bb .eql 81 84] [Pf 78 85 86]))
 (Ct 86 (Rs (sq 88 [Fa 1 3, Fa 1 88, Ld 1 89, Fa 1 4, Fa 1 91, Ld 1 92, Fa 1 5, Fa 1 94, Ld 1 95, Io (.frz (.call 138 [(false, .t 90), (false, .t 93), (false, .t 96)]))] (Mv 97 87 :: (sq 98 [Xt 87 0, Xt 87 1] (sq 13 [Mv 98, Mv 99] []))))
 (Rs (sq 100 [Fa 1 4, Fa 0 100, Ld 1 101, Mv 13, Io (.build [.v (.int .i64 0), .nil] [(0, 1, .t 102), (1, 1, .t 103)])] [Io (.alloc 226 [.v (.int .i64 0), .sl true 66 []]) 15, Sv [none, some 66] 15 104])
 (Rs (sq 105 [Mv 14, Mv 105] (Sg 106 107 [La 2 15, Ca 81 [107]] [Pf 106 108 109]))
 (Ct 109 (.reg [La 2 15 110, Sv [none, some 66] 10 110, Kb true 12])
 .skip))))
 .skip))
 (Rs (sq 111 [Mv 12, Nt 111] [])
 (Ct 112 (.reg (sq 113 [Mv 8, Io (.lit 49 [none] [.v (.string ⟨#[]⟩)] 1 [(0, .c (.string ⟨#[115, 104, 97, 112, 101]⟩))]), Io (.app 49 true (.t 113) (.t 114))] [Mv 115 8]))
 .skip))))
 .skip))
 (Rs (sq 116 [La 2 10, Ca 91 [116], Fa 1 9] [Sv [none, some 66] 118 117])
 (Rs [Io (.lit 49 [none] [.v (.string ⟨#[]⟩)] 0 []) 119, Mv 119 16]
 (.seq (Rs (sq 120 [Fa 3 3, Ld 1 120, Fa 3 4, Ld 1 122, Fa 3 5, Ld 1 124, Io (.lit 529 [some 82] [.sl true 82 []] 3 [(0, .t 121), (1, .t 123), (2, .t 125)]), Ca 139 [126], Ln 127, Ki 0] [])
 (bU7 0 (.loop (Rs [Bb .lss 129 128 130]
 (.seq (Ct 130 .skip
 (.exit 0))
 (.seq (.block 1 (Rs (sq 131 [Ia 2 127 129, La 2 131] [Io (.alloc 82 [.v (.string ⟨#[]⟩), .v (.string ⟨#[]⟩)]) 18, Sv [none, none] 18 132])
 (.reg (sq 133 [Mv 16, Fa 0 18, Ld 1 134, Io (.lit 49 [none] [.v (.string ⟨#[]⟩)] 1 [(0, .t 135)]), Io (.app 49 true (.t 133) (.t 136))] [Mv 137 16]))))
 (.reg [Bk .add 129 1 138, Mv 138 129])))))))
 (Rs (sq 139 [Mv 16, Io (.call 121 [(true, .t 139)])] [])
 (.seq (Rs (sq 141 [Mv 16, Io (.call 122 [(true, .t 141)]), Ln 142, Ki 0] [])
 (bU7 2 (.loop (Rs [Bb .lss 144 143 145]
 (.seq (Ct 145 .skip
 (.exit 2))
 (.seq (.block 3 (Rs (sq 146 [Ia 1 142 144, Ld 1 146] [Mv 147 20])
 (.seq (.drw (sq 148 [La 4 4, Mv 20, Ca 140 [148, 149], La 4 5, Mv 20, Ca 140 [151, 152]] (sq 21 [Io (.alloc 306 [.v (.bool false), .v (.string ⟨#[]⟩)]), Io (.alloc 306 [.v (.bool false), .v (.string ⟨#[]⟩)])] [Sv [none, none] 21 150, Sv [none, none] 22 153])) [(0, 3), (2, 3), (0, 6), (2, 6), (3, 6), (5, 6), (0, 7), (2, 7), (3, 7), (5, 7), (6, 7)])
 (.seq (.drw (sq 155 [La 4 3, Mv 20, Ca 140 [155, 156], La 2 21, La 2 22, Io (.call 141 [(false, .t 157), (false, .t 158), (false, .t 159), (false, .f 142)])] (Mv 160 154 :: (sq 161 [Xt 154 0, Xt 154 1] [Io (.alloc 306 [.v (.bool false), .v (.string ⟨#[]⟩)]) 23, Sv [none, none] 23 161, Mv 162 24]))) [(0, 3), (2, 3), (0, 4), (2, 4), (3, 4), (0, 9), (2, 9), (3, 9), (4, 9), (5, 9)])
 (eH7 (Rs (sq 163 [Mv 24, Nt 163] [])
 (Ct 164 (Rs (sq 165 [Mv 8, Mv 20, Io (.bin .add (.c (.string ⟨#[116, 97, 103, 32]⟩)) (.t 166)), Io (.lit 49 [none] [.v (.string ⟨#[]⟩)] 1 [(0, .t 167)]), Io (.app 49 true (.t 165) (.t 168))] [Mv 169 8])
 (Rs [La 2 21 170, Sv [none, none] 23 170]
 (Rs (sq 171 [Fa 0 21, Ld 1 171, Nt 172] [])
 (Ct 173 (.reg [La 2 22 174, Sv [none, none] 23 174])
 .skip))))
 .skip))
 (Rs (sq 175 [Fa 0 23, Ld 1 175] [])
 (Ct 176 (.reg (sq 177 [Fa 3 9, Ld 1 177, Mv 20, Fa 1 23, Ld 1 180, Io (.build [.v (.string ⟨#[]⟩), .v (.string ⟨#[]⟩)] [(0, 1, .t 179), (1, 1, .t 181)]), Io (.lit 82 [none, none] [.v (.string ⟨#[]⟩), .v (.string ⟨#[]⟩)] 1 [(0, .t 182)]), Io (.app 82 true (.t 178) (.t 183)), Fa 3 9] [Sv [some 82] 185 184]))
 .skip)))))))
 (.reg [Bk .add 144 1 186, Mv 186 144])))))))
 (.seq (Rs (sq 187 [La 4 9, Ca 82 [187], Nt 188] [])
 (Ct 189 (Rs (sq 190 [La 4 4, Ca 92 [190], Io (.lit 49 [none] [.v (.string ⟨#[]⟩)] 1 [(0, .c (.string ⟨#[109, 117, 99, 104]⟩))])] [Sv [none, none, some 66, some 82] 6 191, Mv 192 7])
 .ret)
 .skip))
 (Rs (sq 193 [La 4 9, Mv 8] [Sv [none, none, some 66, some 82] 6 193, Mv 194 7])
 .ret))))))))))))), lcF []⟩
def Ky7 : List (List (Option Nat)) := [[none, none, some 66, some 82], [some 49]]
def jW7 : List Tag → Nat → (List Str) → Option (List Str)
 | [], k117, v114 => some v114
 | x118 :: l119, k117, v114 => if aH7 (v114 ++ ([x118.key] : (List Str))).length = true then jW7 l119 (k117 + 1) (v114 ++ ([x118.key] : (List Str))) else none
def dD7 (a1 : Feat) (a2 : Feat) (a0 : Feat) : List Str → Nat → (List Str) → (List Tag) → Option ((List Str) × (List Tag))
 | [], k265, v258, v261 => some (v258, v261)
 | x266 :: l267, k265, v258, v261 => (lD7 a1 x266).bind fun x274 => (lD7 a2 x266).bind fun x276 => (lD7 a0 x266).bind fun x280 => (qU7 x280 x274 x276).bind fun x282 => ((if (!x282.2) = true then ((cat (⟨#[116, 97, 103, 32]⟩ : Str) x266).bind fun x292 => if aH7 (v258 ++ ([x292] : (List Str))).length = true then if (!x274.has) = true then (some ((v258 ++ ([x292] : (List Str))), x276.has, x276.val)) else (some ((v258 ++ ([x292] : (List Str))), x274.has, x274.val)) else none) else (some (v258, x282.1.has, x282.1.val)) : Option ((List Str) × Bool × Str))).bind fun q291 => if q291.2.1 = true then (if aH7 (v261 ++ ([(⟨x266, q291.2.2⟩ : Tag)] : (List Tag))).length = true then dD7 a1 a2 a0 l267 (k265 + 1) q291.1 (v261 ++ ([(⟨x266, q291.2.2⟩ : Tag)] : (List Tag))) else none) else (dD7 a1 a2 a0 l267 (k265 + 1) q291.1 v261)
def qV7 (a0 : Feat) (a1 : Feat) (a2 : Feat) : Option (Feat × (List Str)) := (((ha7 a0).bind fun x7 => if (!x7) = true then (some true) else ((ha7 a1).bind fun x9 => if (!x9) = true then (some true) else ((ha7 a2).bind fun x11 => if (!x11) = true then (some true) else (if (!seq a0.id a1.id) = true then (some true) else (some (!seq a0.id a2.id))))) : Option Bool)).bind fun q6 => if q6 = true then (some ((⟨(⟨#[]⟩ : Str), ⟨0, []⟩, []⟩ : Feat), ([] : (List Str)))) else ((((qT7 a0.shape a1.shape a2.shape).bind fun x17 => some (x17.2, x17.1.kind, x17.1.pts) : Option (Bool × Int × (List Pt)))).bind fun q16 => ((if (!q16.1) = true then (((if (a0.shape.kind == a1.shape.kind) = true then (if (a0.shape.kind == a2.shape.kind) = true then ((nC7 a0.shape.pts a1.shape.pts a2.shape.pts).bind fun x56 => if x56.2 = true then ((lz7 (⟨a1.shape.kind, x56.1⟩ : aD7)).bind fun x61 => if x61 = true then (some (true, a1.shape.kind, x56.1)) else (some (false, q16.2.1, q16.2.2))) else (some (false, q16.2.1, q16.2.2))) else (some (false, q16.2.1, q16.2.2))) else (some (false, q16.2.1, q16.2.2)) : Option (Bool × Int × (List Pt)))).bind fun q55 => if (!q55.1) = true then (if aH7 ([] ++ ([(⟨#[115, 104, 97, 112, 101]⟩ : Str)] : (List Str))).length = true then some (([] ++ ([(⟨#[115, 104, 97, 112, 101]⟩ : Str)] : (List Str))), q55.2.1, q55.2.2) else none) else (some ([], q55.2.1, q55.2.2))) else (some ([], q16.2.1, q16.2.2)) : Option ((List Str) × Int × (List Pt)))).bind fun q47 => (lB7 (⟨q47.2.1, q47.2.2⟩ : aD7)).bind fun x77 => (qR7 ([a0.tags, a1.tags, a2.tags] : (List (List Tag)))).bind fun x83 => if aH7 x83.length = true then ((jW7 x83 0 []).bind fun q112 => (qN7 q112).bind fun x134 => (t57 x134).bind fun x136 => if aH7 x136.length = true then ((dD7 a1 a2 a0 x136 0 q47.1 []).bind fun q256 => (ha7 (⟨a1.id, x77, q256.2⟩ : Feat)).bind fun x315 => if (!x315) = true then ((lC7 a1).bind fun x317 => some (x317, ([(⟨#[109, 117, 99, 104]⟩ : Str)] : (List Str)))) else (some ((⟨a1.id, x77, q256.2⟩ : Feat), q256.1))) else none) else none)
def EJ7 : Con := ⟨Feat × Feat × Feat, (Feat × (List Str)), 147, fun a => [.agg [.v (.string a.1.id), .v (.int .i64 a.1.shape.kind), .ro (List.map ePt a.1.shape.pts), .ro (List.map bb7 a.1.tags)], .agg [.v (.string a.2.1.id), .v (.int .i64 a.2.1.shape.kind), .ro (List.map ePt a.2.1.shape.pts), .ro (List.map bb7 a.2.1.tags)], .agg [.v (.string a.2.2.id), .v (.int .i64 a.2.2.shape.kind), .ro (List.map ePt a.2.2.shape.pts), .ro (List.map bb7 a.2.2.tags)]], fun a => qV7 a.1 a.2.1 a.2.2, fun a r => ⟨[(true, aj7 true r.1), (false, [sl true 49 (List.map cv7 r.2)])], []⟩, fun a => []⟩
def Kz7 : IFn := ⟨18, [.inl 6],
 (Rs [Io (.box 210 [some 115, some 130] (.t 0)) 3, Ki 0 6]
 (Rs (sq 8 [La 2 3, Mv 1, Mv 2, Ca 100 [8, 9, 10]] [Mv 11 7])
 (.seq (Rs (sq 12 [Mv 7, Ln 12, Bk .eql 13 0] [])
 (Ct 14 (Rs [Ki (-1) 6]
 .ret)
 .skip))
 (Rs (sq 15 [Mv 7, Ik 1 15 0, Ld 1 16] [Mv 17 6])
 .ret)))), lcF []⟩
def KA7 : List (List (Option Nat)) := [[none]]
def lG7 (a0 : aF7) (a1 : Int) (a2 : Int) : Option Int := (qM7 a0 a1 a2).bind fun x2 => if ((x2.length : Int) == 0) = true then (some ((-1))) else ((idx x2 0).bind fun x6 => some (x6))
def vA7 : Con := ⟨aF7 × Int × Int, Int, 148, fun a => [.agg [.ro (List.map (am7 false) a.1.commits), .ro (List.map aW7 a.1.heads)], .v (.int .i64 a.2.1), .v (.int .i64 a.2.2)], fun a => lG7 a.1 a.2.1 a.2.2, fun a r => ⟨[(false, [.v (.int .i64 r)])], []⟩, fun a => []⟩
def KB7 : IFn := ⟨27, [.inr (8, 5), .inl 9],
 (Rs (sq 4 [Io (.box 325 [none, none, none, some 66, some 82] (.t 0)), Io (.box 325 [none, none, none, some 66, some 82] (.t 1)), Io (.box 325 [none, none, none, some 66, some 82] (.t 2))] (sq 8 [Io (.alloc 325 [.v (.bool false), .v (.string ⟨#[]⟩), .v (.int .i64 0), .sl true 66 [], .sl true 82 []]), Kb false] []))
 (.seq (.block 0 (eH7 (.reg (sq 11 [Mv 3, La 5 5, La 5 4, Io (.calld (.t 11) [(false, .t 12), (false, .t 13)])] [Mv 14 10]))
 (Ct 10 (Rs [La 5 6 15, Sv [none, none, none, some 66, some 82] 8 15, Kb true 9]
 .ret)
 (.seq (Rs (sq 17 [Mv 3, La 5 6, La 5 4, Io (.calld (.t 17) [(false, .t 18), (false, .t 19)])] [Mv 20 16])
 (Ct 16 .skip
 (.reg (sq 21 [Mv 3, La 5 5, La 5 6, Io (.calld (.t 21) [(false, .t 22), (false, .t 23)])] [Mv 24 16]))))
 (Ct 16 (Rs [La 5 5 25, Sv [none, none, none, some 66, some 82] 8 25, Kb true 9]
 .ret)
 .skip)))))
 (Rs [La 5 5 26, Sv [none, none, none, some 66, some 82] 8 26, Kb false 9]
 .ret))), lcF []⟩
def KC7 : List (List (Option Nat)) := [[none, none, none, some 66, some 82], [none]]
def qW7 (a0 : dh7) (a1 : dh7) (a2 : dh7) : Option (dh7 × Bool) := (((lF7 a1 a0).bind fun x6 => some x6 : Option Bool)).bind fun q5 => if q5 = true then (some (a2, true)) else ((lF7 a2 a0).bind fun x9 => if x9 = true then (some (a1, true)) else ((lF7 a1 a2).bind fun x11 => if x11 = true then (some (a1, true)) else (some (a1, false))))
def EK7 : Con := ⟨dh7 × dh7 × dh7, (dh7 × Bool), 145, fun a => [.agg [.v (.bool a.1.has), .v (.string a.1.f.id), .v (.int .i64 a.1.f.shape.kind), .ro (List.map ePt a.1.f.shape.pts), .ro (List.map bb7 a.1.f.tags)], .agg [.v (.bool a.2.1.has), .v (.string a.2.1.f.id), .v (.int .i64 a.2.1.f.shape.kind), .ro (List.map ePt a.2.1.f.shape.pts), .ro (List.map bb7 a.2.1.f.tags)], .agg [.v (.bool a.2.2.has), .v (.string a.2.2.f.id), .v (.int .i64 a.2.2.f.shape.kind), .ro (List.map ePt a.2.2.f.shape.pts), .ro (List.map bb7 a.2.2.f.tags)], .fn 146 []], fun a => qW7 a.1 a.2.1 a.2.2, fun a r => ⟨[(true, pJ7 false r.1), (false, [.v (.bool r.2)])], []⟩, fun a => []⟩
def KD7 : IFn := ⟨137, [.inl 6, .inl 7, .inl 8],
 (Rs (sq 6 [Io (.mv (.c (.slice none 0 0))), Io (.mv (.c (.slice none 0 0))), Kb false] [])
 (Rs [Io (.lit 178 [none, none] [.v (.string ⟨#[]⟩), .v (.string ⟨#[]⟩)] 0 []) 22, Mv 22 9]
 (Rs [Io (.lit 100 [none, none, some 66, some 82] [.v (.string ⟨#[]⟩), .v (.int .i64 0), .sl true 66 [], .sl true 82 []] 0 []) 23, Mv 23 10]
 (.seq (Rs (sq 24 [Mv 0, Ca 86 [24], Nt 25, Mv 26] (Sf 27 28 [Mv 1, Ca 86 [28], Nt 29] (sq 31 [Pk 27 30, Mv 31] (Sf 32 33 [Mv 2, Ca 86 [33], Nt 34] [Pk 32 35 36]))))
 (Ct 36 (Rs (sq 37 [Mv 10, Mv 9] (sq 6 [Mv 37, Mv 38, Kb false] []))
 .ret)
 .skip))
 (.seq (Rs (sq 39 [Mv 0, Mv 1, Mv 2, Io (.lit 545 [some 100] [.sl true 100 []] 3 [(0, .t 39), (1, .t 40), (2, .t 41)]), Ca 143 [42], Ln 43, Ki 0] [])
 (bU7 0 (.loop (Rs [Bb .lss 45 44 46]
 (.seq (Ct 46 .skip
 (.exit 0))
 (.seq (.block 1 (Rs (sq 47 [Ia 1 43 45, Ld 1 47] [Mv 48 12])
 (eH7 (.reg (sq 49 [Mv 0, Mv 12, Io (.frz (.call 144 [(false, .t 49), (false, .t 50)])), Mv 1, Mv 12, Io (.frz (.call 144 [(false, .t 52), (false, .t 53)])), Mv 2, Mv 12, Io (.frz (.call 144 [(false, .t 55), (false, .t 56)]))] (sq 13 [Io (.alloc 325 [.v (.bool false), .v (.string ⟨#[]⟩), .v (.int .i64 0), .sl true 66 [], .sl true 82 []]), Io (.alloc 325 [.v (.bool false), .v (.string ⟨#[]⟩), .v (.int .i64 0), .sl true 66 [], .sl true 82 []]), Io (.alloc 325 [.v (.bool false), .v (.string ⟨#[]⟩), .v (.int .i64 0), .sl true 66 [], .sl true 82 []])] [Sv [none, none, none, some 66, some 82] 13 51, Sv [none, none, none, some 66, some 82] 14 54, Sv [none, none, none, some 66, some 82] 15 57])))
 (Rs (sq 59 [La 5 13, La 5 14, La 5 15, Io (.frz (.call 145 [(false, .t 59), (false, .t 60), (false, .t 61), (false, .f 146)]))] (Mv 62 58 :: (sq 63 [Xt 58 0, Xt 58 1] [Io (.alloc 325 [.v (.bool false), .v (.string ⟨#[]⟩), .v (.int .i64 0), .sl true 66 [], .sl true 82 []]) 16, Sv [none, none, none, some 66, some 82] 16 63, Mv 64 17])))
 (eH7 (.block 2 (Rs [Mv 17 91, Mv 91 90]
 (Ct 90 .skip
 (Rs (sq 93 [Fa 0 14, Ld 1 93, Nt 94, Mv 95] (Sf 96 97 [Fa 0 15, Ld 1 97, Nt 98] [Pk 96 99 100, Mv 100 92]))
 (Ct 92 (eH7 (.reg [La 5 14 101, Sv [none, none, none, some 66, some 82] 16 101])
 (.seq (Rs (sq 102 [Fa 0 14, Ld 1 102, Nt 103] [])
 (Ct 104 (.reg [La 5 15 105, Sv [none, none, none, some 66, some 82] 16 105])
 .skip))
 (.reg (sq 106 [Mv 9, Mv 12, Io (.build [.v (.string ⟨#[]⟩), .v (.string ⟨#[]⟩)] [(0, 1, .t 107), (1, 1, .c (.string ⟨#[103, 111, 110, 101]⟩))]), Io (.lit 178 [none, none] [.v (.string ⟨#[]⟩), .v (.string ⟨#[]⟩)] 1 [(0, .t 108)]), Io (.app 178 true (.t 106) (.t 109))] [Mv 110 9]))))
 (Rs (sq 112 [Fa 0 13, Ld 1 112, Nt 113] [Mv 114 111])
 (Ct 111 (Rs [La 5 14 115, Sv [none, none, none, some 66, some 82] 16 115]
 (.reg (sq 116 [Mv 9, Mv 12, Io (.build [.v (.string ⟨#[]⟩), .v (.string ⟨#[]⟩)] [(0, 1, .t 117), (1, 1, .c (.string ⟨#[98, 111, 116, 104]⟩))]), Io (.lit 178 [none, none] [.v (.string ⟨#[]⟩), .v (.string ⟨#[]⟩)] 1 [(0, .t 118)]), Io (.app 178 true (.t 116) (.t 119))] [Mv 120 9])))
 (eH7 (.reg (sq 66 [Fa 1 13, La 4 66, Fa 1 14, La 4 68, Fa 1 15, La 4 70, Io (.frz (.call 147 [(false, .t 67), (false, .t 69), (false, .t 71)]))] (Mv 72 65 :: (sq 73 [Xt 65 0, Xt 65 1] [Io (.alloc 100 [.v (.string ⟨#[]⟩), .v (.int .i64 0), .sl true 66 [], .sl true 82 []]) 18, Sv [none, none, some 66, some 82] 18 73, Mv 74 19]))))
 (Rs (sq 75 [La 4 18, Io (.build [.v (.bool false), .v (.string ⟨#[]⟩), .v (.int .i64 0), .nil, .nil] [(0, 1, .c (.bool true)), (1, 4, .t 75)])] [Sv [none, none, none, some 66, some 82] 16 76])
 (Rs (sq 77 [Mv 19, Ln 77, Ki 0] [])
 (bU7 3 (.loop (Rs [Bb .lss 79 78 80]
 (.seq (Ct 80 .skip
 (.exit 3))
 (.seq (.block 4 (Rs (sq 81 [Ia 1 77 79, Ld 1 81] [Mv 82 21])
 (.reg (sq 83 [Mv 9, Mv 12, Mv 21, Io (.build [.v (.string ⟨#[]⟩), .v (.string ⟨#[]⟩)] [(0, 1, .t 84), (1, 1, .t 85)]), Io (.lit 178 [none, none] [.v (.string ⟨#[]⟩), .v (.string ⟨#[]⟩)] 1 [(0, .t 86)]), Io (.app 178 true (.t 83) (.t 87))] [Mv 88 9]))))
 (.reg [Bk .add 79 1 89, Mv 89 79]))))))))))))))))
 (Rs (sq 121 [Fa 0 16, Ld 1 121] [])
 (Ct 122 (.reg (sq 123 [Mv 10, Fa 1 16, La 4 124, Ca 92 [125], Io (.lit 100 [none, none, some 66, some 82] [.v (.string ⟨#[]⟩), .v (.int .i64 0), .sl true 66 [], .sl true 82 []] 1 [(0, .t 126)]), Io (.app 100 true (.t 123) (.t 127))] [Mv 128 10]))
 .skip)))))))
 (.reg [Bk .add 45 1 129, Mv 129 45])))))))
 (.seq (Rs (sq 130 [Mv 10, Ca 86 [130], Nt 131] [])
 (Ct 132 (Rs (sq 133 [Io (.lit 100 [none, none, some 66, some 82] [.v (.string ⟨#[]⟩), .v (.int .i64 0), .sl true 66 [], .sl true 82 []] 0 []), Io (.lit 178 [none, none] [.v (.string ⟨#[]⟩), .v (.string ⟨#[]⟩)] 0 [])] (sq 6 [Mv 133, Mv 134, Kb false] []))
 .ret)
 .skip))
 (Rs (sq 135 [Mv 10, Mv 9] (sq 6 [Mv 135, Mv 136, Kb true] []))
 .ret))))))), lcF []⟩
def KE7 : List (List (Option Nat)) := [[some 100], [some 178], [none]]
def eq7 (x723 : Str) : List Str → Nat → (List aL7) → Option (List aL7)
 | [], k925, v922 => some v922
 | x926 :: l927, k925, v922 => if aH7 (v922 ++ ([(⟨x723, x926⟩ : aL7)] : (List aL7))).length = true then eq7 x723 l927 (k925 + 1) (v922 ++ ([(⟨x723, x926⟩ : aL7)] : (List aL7))) else none
def dE7 (a0 : (List Feat)) (a1 : (List Feat)) (a2 : (List Feat)) : List Str → Nat → (List aL7) → (List Feat) → Option ((List aL7) × (List Feat))
 | [], k722, v716, v719 => some (v716, v719)
 | x723 :: l724, k722, v716, v719 => (((lE7 a0 x723).bind fun x732 => (lE7 a1 x723).bind fun x738 => (lE7 a2 x723).bind fun x744 => some (x732.has, x732.f.id, x732.f.shape.kind, x732.f.shape.pts, x732.f.tags, x738.has, x738.f.id, x738.f.shape.kind, x738.f.shape.pts, x738.f.tags, x744.has, x744.f.id, x744.f.shape.kind, x744.f.shape.pts, x744.f.tags) : Option (Bool × Str × Int × (List Pt) × (List Tag) × Bool × Str × Int × (List Pt) × (List Tag) × Bool × Str × Int × (List Pt) × (List Tag)))).bind fun q731 => (qW7 (⟨q731.1, ⟨q731.2.1, ⟨q731.2.2.1, q731.2.2.2.1⟩, q731.2.2.2.2.1⟩⟩ : dh7) (⟨q731.2.2.2.2.2.1, ⟨q731.2.2.2.2.2.2.1, ⟨q731.2.2.2.2.2.2.2.1, q731.2.2.2.2.2.2.2.2.1⟩, q731.2.2.2.2.2.2.2.2.2.1⟩⟩ : dh7) (⟨q731.2.2.2.2.2.2.2.2.2.2.1, ⟨q731.2.2.2.2.2.2.2.2.2.2.2.1, ⟨q731.2.2.2.2.2.2.2.2.2.2.2.2.1, q731.2.2.2.2.2.2.2.2.2.2.2.2.2.1⟩, q731.2.2.2.2.2.2.2.2.2.2.2.2.2.2⟩⟩ : dh7)).bind fun x771 => ((if x771.2 = true then (some (v716, x771.1.has, x771.1.f.id, x771.1.f.shape.kind, x771.1.f.shape.pts, x771.1.f.tags)) else (if (!q731.2.2.2.2.2.1) = true then (((some () : Option Unit)).bind fun q858 => if (!q731.2.2.2.2.2.1) = true then (if aH7 (v716 ++ ([(⟨x723, (⟨#[103, 111, 110, 101]⟩ : Str)⟩ : aL7)] : (List aL7))).length = true then some ((v716 ++ ([(⟨x723, (⟨#[103, 111, 110, 101]⟩ : Str)⟩ : aL7)] : (List aL7))), q731.2.2.2.2.2.2.2.2.2.2.1, q731.2.2.2.2.2.2.2.2.2.2.2.1, q731.2.2.2.2.2.2.2.2.2.2.2.2.1, q731.2.2.2.2.2.2.2.2.2.2.2.2.2.1, q731.2.2.2.2.2.2.2.2.2.2.2.2.2.2) else none) else (if aH7 (v716 ++ ([(⟨x723, (⟨#[103, 111, 110, 101]⟩ : Str)⟩ : aL7)] : (List aL7))).length = true then some ((v716 ++ ([(⟨x723, (⟨#[103, 111, 110, 101]⟩ : Str)⟩ : aL7)] : (List aL7))), q731.2.2.2.2.2.1, q731.2.2.2.2.2.2.1, q731.2.2.2.2.2.2.2.1, q731.2.2.2.2.2.2.2.2.1, q731.2.2.2.2.2.2.2.2.2.1) else none)) else (if (!q731.2.2.2.2.2.2.2.2.2.2.1) = true then (((some () : Option Unit)).bind fun q868 => if (!q731.2.2.2.2.2.1) = true then (if aH7 (v716 ++ ([(⟨x723, (⟨#[103, 111, 110, 101]⟩ : Str)⟩ : aL7)] : (List aL7))).length = true then some ((v716 ++ ([(⟨x723, (⟨#[103, 111, 110, 101]⟩ : Str)⟩ : aL7)] : (List aL7))), q731.2.2.2.2.2.2.2.2.2.2.1, q731.2.2.2.2.2.2.2.2.2.2.2.1, q731.2.2.2.2.2.2.2.2.2.2.2.2.1, q731.2.2.2.2.2.2.2.2.2.2.2.2.2.1, q731.2.2.2.2.2.2.2.2.2.2.2.2.2.2) else none) else (if aH7 (v716 ++ ([(⟨x723, (⟨#[103, 111, 110, 101]⟩ : Str)⟩ : aL7)] : (List aL7))).length = true then some ((v716 ++ ([(⟨x723, (⟨#[103, 111, 110, 101]⟩ : Str)⟩ : aL7)] : (List aL7))), q731.2.2.2.2.2.1, q731.2.2.2.2.2.2.1, q731.2.2.2.2.2.2.2.1, q731.2.2.2.2.2.2.2.2.1, q731.2.2.2.2.2.2.2.2.2.1) else none)) else (if (!q731.1) = true then (if aH7 (v716 ++ ([(⟨x723, (⟨#[98, 111, 116, 104]⟩ : Str)⟩ : aL7)] : (List aL7))).length = true then some ((v716 ++ ([(⟨x723, (⟨#[98, 111, 116, 104]⟩ : Str)⟩ : aL7)] : (List aL7))), q731.2.2.2.2.2.1, q731.2.2.2.2.2.2.1, q731.2.2.2.2.2.2.2.1, q731.2.2.2.2.2.2.2.2.1, q731.2.2.2.2.2.2.2.2.2.1) else none) else ((((qV7 (⟨q731.2.1, ⟨q731.2.2.1, q731.2.2.2.1⟩, q731.2.2.2.2.1⟩ : Feat) (⟨q731.2.2.2.2.2.2.1, ⟨q731.2.2.2.2.2.2.2.1, q731.2.2.2.2.2.2.2.2.1⟩, q731.2.2.2.2.2.2.2.2.2.1⟩ : Feat) (⟨q731.2.2.2.2.2.2.2.2.2.2.2.1, ⟨q731.2.2.2.2.2.2.2.2.2.2.2.2.1, q731.2.2.2.2.2.2.2.2.2.2.2.2.2.1⟩, q731.2.2.2.2.2.2.2.2.2.2.2.2.2.2⟩ : Feat)).bind fun x883 => some (x883.2, x883.1.id, x883.1.shape.kind, x883.1.shape.pts, x883.1.tags) : Option ((List Str) × Str × Int × (List Pt) × (List Tag)))).bind fun q882 => if aH7 q882.1.length = true then ((eq7 x723 q882.1 0 v716).bind fun q920 => some (q920, true, q882.2.1, q882.2.2.1, q882.2.2.2.1, q882.2.2.2.2)) else none)))) : Option ((List aL7) × Bool × Str × Int × (List Pt) × (List Tag)))).bind fun q857 => if q857.2.1 = true then ((lC7 (⟨q857.2.2.1, ⟨q857.2.2.2.1, q857.2.2.2.2.1⟩, q857.2.2.2.2.2⟩ : Feat)).bind fun x950 => if aH7 (v719 ++ ([x950] : (List Feat))).length = true then dE7 a0 a1 a2 l724 (k722 + 1) q857.1 (v719 ++ ([x950] : (List Feat))) else none) else (dE7 a0 a1 a2 l724 (k722 + 1) q857.1 v719)
def qX7 (a0 : (List Feat)) (a1 : (List Feat)) (a2 : (List Feat)) : Option ((List Feat) × (List aL7) × Bool) := (ik7 a0).bind fun x3 => if (!x3) = true then (some (([] : (List Feat)), ([] : (List aL7)), false)) else ((ik7 a1).bind fun x5 => if (!x5) = true then (some (([] : (List Feat)), ([] : (List aL7)), false)) else ((ik7 a2).bind fun x7 => if (!x7) = true then (some (([] : (List Feat)), ([] : (List aL7)), false)) else ((qS7 ([a0, a1, a2] : (List (List Feat)))).bind fun x10 => if aH7 x10.length = true then ((dE7 a0 a1 a2 x10 0 [] []).bind fun q714 => (ik7 q714.2).bind fun x966 => if (!x966) = true then (some (([] : (List Feat)), ([] : (List aL7)), false)) else (some (q714.2, q714.1, true))) else none)))
def EL7 : Con := ⟨(List Feat) × (List Feat) × (List Feat), ((List Feat) × (List aL7) × Bool), 149, fun a => [.ro (List.map (aj7 false) a.1), .ro (List.map (aj7 false) a.2.1), .ro (List.map (aj7 false) a.2.2)], fun a => qX7 a.1 a.2.1 a.2.2, fun a r => ⟨[(false, [sl true 100 (List.map (aj7 true) r.1)]), (false, [sl true 178 (List.map bh7 r.2.1)]), (false, [.v (.bool r.2.2)])], []⟩, fun a => []⟩
def KF7 : IFn := ⟨40, [.inl 6, .inl 7, .inl 8],
 (Rs (Io (.box 210 [some 115, some 130] (.t 0)) 3 :: (sq 6 [Io (.mv (.c (.slice none 0 0))), Io (.mv (.c (.slice none 0 0))), Kb false] []))
 (Rs (sq 10 [La 2 3, Mv 1, Mv 2, Ca 148 [10, 11, 12]] [Mv 13 9])
 (.seq (Rs (sq 14 [Mv 9, Bk .lss 14 0] [])
 (Ct 15 (Rs (sq 16 [Io (.lit 100 [none, none, some 66, some 82] [.v (.string ⟨#[]⟩), .v (.int .i64 0), .sl true 66 [], .sl true 82 []] 0 []), Io (.lit 178 [none, none] [.v (.string ⟨#[]⟩), .v (.string ⟨#[]⟩)] 0 [])] (sq 6 [Mv 16, Mv 17, Kb false] []))
 .ret)
 .skip))
 (.seq (.drw (sq 18 [Fa 0 3, Ld 1 18, Mv 9, Ia 3 19 20, Fa 1 21, Ld 1 22, Fa 0 3, Ld 1 24, Mv 1, Ia 3 25 26, Fa 1 27, Ld 1 28, Fa 0 3, Ld 1 30, Mv 2, Ia 3 31 32, Fa 1 33, Ld 1 34, Ca 149 [23, 29, 35], Xt 36 0, Xt 36 1, Xt 36 2] (sq 6 [Mv 37, Mv 38, Mv 39] [])) [(1, 7), (5, 7), (1, 11), (5, 11), (1, 13), (5, 13), (7, 13), (11, 13), (1, 17), (5, 17), (7, 17), (11, 17)])
 .ret)))), lcF []⟩
def KG7 : List (List (Option Nat)) := [[some 100], [some 178], [none]]
def nE7 (a0 : aF7) (a1 : Int) (a2 : Int) : Option ((List Feat) × (List aL7) × Bool) := (lG7 a0 a1 a2).bind fun x2 => if (decide (x2 < 0)) = true then (some (([] : (List Feat)), ([] : (List aL7)), false)) else ((idx a0.commits x2).bind fun x6 => (idx a0.commits a1).bind fun x8 => (idx a0.commits a2).bind fun x10 => (qX7 x6.sheet x8.sheet x10.sheet).bind fun x12 => some (x12.1, x12.2.1, x12.2.2))
def xT7 : Con := ⟨aF7 × Int × Int, ((List Feat) × (List aL7) × Bool), 151, fun a => [.agg [.ro (List.map (am7 false) a.1.commits), .ro (List.map aW7 a.1.heads)], .v (.int .i64 a.2.1), .v (.int .i64 a.2.2)], fun a => nE7 a.1 a.2.1 a.2.2, fun a r => ⟨[(false, [sl true 100 (List.map (aj7 true) r.1)]), (false, [sl true 178 (List.map bh7 r.2.1)]), (false, [.v (.bool r.2.2)])], []⟩, fun a => []⟩
def KH7 : IFn := ⟨11, [.inl 2],
 (Rs [Io (.mv (.c (.pointer none))) 2]
 (.seq (Rs (sq 3 [Mv 0, Ln 3, Bk .gtr 4 2000] [])
 (Ct 5 (.reg (sq 6 [Mv 0, Io (.sls 1 (.t 6) none (some (.c (.int .i64 2000))))] [Mv 7 0]))
 .skip))
 (Rs (sq 8 [Mv 0, Io (.build [.nil, .v (.int .i64 0)] [(0, 1, .t 8)]), Io (.box 290 [some 257, none] (.t 9))] [Mv 10 2])
 .ret))), lcF []⟩
def KI7 : List (List (Option Nat)) := [[none]]
def qY7 (a0 : (List UInt8)) : Option Rd := if (decide ((a0.length : Int) > 2000)) = true then ((slc a0 0 2000).bind fun x1 => some ((⟨x1, 0⟩ : Rd))) else (some ((⟨a0, 0⟩ : Rd)))
def EM7 : Con := ⟨(List UInt8) × Option Addr × Nat, Rd, 316, fun a => [.raw a.2.1 a.2.2 (List.map eU8 a.1)], fun a => qY7 a.1, fun a r => ⟨[(false, [.bx 290 [.rw a.2.1 a.2.2 (List.map eU8 r.b), .v (.int .i64 r.p)]])], []⟩, fun a => []⟩
def KJ7 : IFn := ⟨99, [.inl 4],
 (Rs [Ki 0 4]
 (Rs (sq 7 [Mv 0, Mv 0, Io (.nilck (.t 8)), Fa 1 9, Ld 1 10, Bk .add 11 1, Io (.nilck (.t 7)), Fa 1 13] [Sv [none] 14 12])
 (.seq (Rs (sq 15 [Mv 1, Bk .lss 15 1, Mv 16] (Sf 17 18 [Mv 0, Io (.nilck (.t 18)), Fa 0 19, Ld 1 20, Ln 21, Bk .eql 22 0] [Pk 17 23 24]))
 (Ct 24 (Rs [Ki 0 4]
 .ret)
 .skip))
 (Rs (sq 25 [Mv 0, Io (.nilck (.t 25)), Fa 1 26, Ld 1 27, Bk .sub 28 1] [Mv 29 5])
 (.seq (Rs (sq 30 [Mv 5, Mv 0, Io (.nilck (.t 31)), Fa 0 32, Ld 1 33, Ln 34, Bb .lss 30 35] [])
 (Ct 36 (Rs (sq 37 [Mv 0, Io (.nilck (.t 37)), Fa 0 38, Ld 1 39, Mv 5, Ia 1 40 41, Ld 1 42, Io (.conv .i64 (.t 43)), Mv 1, Bb .rem 44 45] [Mv 46 4])
 .ret)
 .skip))
 (.seq (.drw (sq 47 [Mv 0, Io (.nilck (.t 47)), Fa 0 48, Ld 1 49, Mv 5, Mv 0, Io (.nilck (.t 52)), Fa 0 53, Ld 1 54, Ln 55, Bb .rem 51 56, Ia 1 50 57, Ld 1 58, Io (.conv .i64 (.t 59)), Bk .mul 60 131, Mv 0, Io (.nilck (.t 62)), Fa 0 63, Ld 1 64, Mv 5, Bk .mul 66 7, Bk .add 67 3, Mv 0, Io (.nilck (.t 69)), Fa 0 70, Ld 1 71, Ln 72, Bb .rem 68 73, Ia 1 65 74, Ld 1 75, Io (.conv .i64 (.t 76)), Bk .mul 77 1117, Bb .add 61 78, Mv 5, Bk .mul 80 29, Bb .add 79 81, Mv 5, Mv 0, Io (.nilck (.t 84)), Fa 0 85, Ld 1 86, Ln 87, Bb .quo 83 88, Bk .mul 89 53, Bb .add 82 90] [Mv 91 6]) [(3, 8), (3, 18), (8, 18), (12, 18), (3, 25), (8, 25), (12, 25), (18, 25), (3, 29), (8, 29), (12, 29), (3, 40), (8, 40), (12, 40), (18, 40), (25, 40), (29, 40)])
 (Rs (sq 92 [Mv 6, Mv 6, Bk .quo 93 64, Bb .xor 92 94] [Mv 95 6])
 (Rs (sq 96 [Mv 6, Mv 1, Bb .rem 96 97] [Mv 98 4])
 .ret)))))))), lcF []⟩
def KK7 : List (List (Option Nat)) := [[none]]
def bv7 (a0 : Rd) (a1 : Int) : Option (Int × Int) := if (decide (a1 < 1)) = true then (some (0, (IntKind.i64.wrap (a0.p + 1)))) else (if ((a0.b.length : Int) == 0) = true then (some (0, (IntKind.i64.wrap (a0.p + 1)))) else (if (decide ((IntKind.i64.wrap ((IntKind.i64.wrap (a0.p + 1)) - 1)) < (a0.b.length : Int))) = true then ((idx a0.b (IntKind.i64.wrap ((IntKind.i64.wrap (a0.p + 1)) - 1))).bind fun x1 => (y27 (IntKind.i64.wrap (x1.toNat : Int)) a1).bind fun x3 => some (x3, (IntKind.i64.wrap (a0.p + 1)))) else ((y27 (IntKind.i64.wrap ((IntKind.i64.wrap (a0.p + 1)) - 1)) (a0.b.length : Int)).bind fun x5 => (idx a0.b x5).bind fun x7 => (y27 (IntKind.i64.wrap ((IntKind.i64.wrap ((IntKind.i64.wrap ((IntKind.i64.wrap (a0.p + 1)) - 1)) * 7)) + 3)) (a0.b.length : Int)).bind fun x9 => (idx a0.b x9).bind fun x11 => (CJ7 (IntKind.i64.wrap ((IntKind.i64.wrap (a0.p + 1)) - 1)) (a0.b.length : Int)).bind fun x13 => (y27 (Fu7 (IntKind.i64.wrap ((IntKind.i64.wrap ((IntKind.i64.wrap ((IntKind.i64.wrap ((IntKind.i64.wrap (x7.toNat : Int)) * 131)) + (IntKind.i64.wrap ((IntKind.i64.wrap (x11.toNat : Int)) * 1117)))) + (IntKind.i64.wrap ((IntKind.i64.wrap ((IntKind.i64.wrap (a0.p + 1)) - 1)) * 29)))) + (IntKind.i64.wrap (x13 * 53)))) (IntKind.i64.wrap (Int.tdiv (IntKind.i64.wrap ((IntKind.i64.wrap ((IntKind.i64.wrap ((IntKind.i64.wrap ((IntKind.i64.wrap (x7.toNat : Int)) * 131)) + (IntKind.i64.wrap ((IntKind.i64.wrap (x11.toNat : Int)) * 1117)))) + (IntKind.i64.wrap ((IntKind.i64.wrap ((IntKind.i64.wrap (a0.p + 1)) - 1)) * 29)))) + (IntKind.i64.wrap (x13 * 53)))) 64))) a1).bind fun x15 => some (x15, (IntKind.i64.wrap (a0.p + 1))))))
def cg7 : Con := ⟨Rd × Int × Option Addr × Nat, (Int × Int), 321, fun a => [.pio 0 290, .v (.int .i64 a.2.1)], fun a => bv7 a.1 a.2.1, fun a r => ⟨[(false, [.v (.int .i64 r.1)])], [some [[.v (.slice a.2.2.1 (List.map eU8 a.1.b).length a.2.2.2), .v (.int .i64 r.2)]]]⟩, fun a => [(true, 290, [[.rw a.2.2.1 a.2.2.2 (List.map eU8 a.1.b), .v (.int .i64 a.1.p)]])]⟩
def KL7 : IFn := ⟨12, [.inl 4],
 (Rs [Io (.mv (.c (.string ⟨#[]⟩))) 4]
 (Rs (sq 5 [Mv 1, Mv 0, Mv 1, Ln 7, Io (.call 321 [(true, .t 6), (false, .t 8)]), Ia 1 5 9, Ld 1 10] [Mv 11 4])
 .ret)), lcF []⟩
def KM7 : List (List (Option Nat)) := [[none]]
def gq7 (a0 : Rd) (a1 : (List Str)) : Option (Str × Int) := (bv7 a0 (a1.length : Int)).bind fun x1 => (idx a1 x1.1).bind fun x3 => some (x3, x1.2)
def ms7 : Con := ⟨Rd × (List Str) × Option Addr × Nat, (Str × Int), 326, fun a => [.pio 0 290, .ro (List.map cv7 a.2.1)], fun a => gq7 a.1 a.2.1, fun a r => ⟨[(false, [.v (.string r.1)])], [some [[.v (.slice a.2.2.1 (List.map eU8 a.1.b).length a.2.2.2), .v (.int .i64 r.2)]]]⟩, fun a => [(true, 290, [[.rw a.2.2.1 a.2.2.2 (List.map eU8 a.1.b), .v (.int .i64 a.1.p)]])]⟩
def KN7 : IFn := ⟨6, [.inl 2],
 (Rs [Io (.mv (.c (.string ⟨#[]⟩))) 2]
 (Rs (sq 3 [Mv 0, Io (.lit 49 [none] [.v (.string ⟨#[]⟩)] 5 [(0, .c (.string ⟨#[97]⟩)), (1, .c (.string ⟨#[98]⟩)), (2, .c (.string ⟨#[99]⟩)), (3, .c (.string ⟨#[100]⟩)), (4, .c (.string ⟨#[101]⟩))]), Io (.call 326 [(true, .t 3), (false, .t 4)])] [Mv 5 2])
 .ret)), lcF []⟩
def KO7 : List (List (Option Nat)) := [[none]]
def lH7 (a0 : Rd) : Option (Str × Int) := (gq7 a0 ([(⟨#[97]⟩ : Str), (⟨#[98]⟩ : Str), (⟨#[99]⟩ : Str), (⟨#[100]⟩ : Str), (⟨#[101]⟩ : Str)] : (List Str))).bind fun x2 => some (x2.1, x2.2)
def sC7 : Con := ⟨Rd × Option Addr × Nat, (Str × Int), 362, fun a => [.pio 0 290], fun a => lH7 a.1, fun a r => ⟨[(false, [.v (.string r.1)])], [some [[.v (.slice a.2.1 (List.map eU8 a.1.b).length a.2.2), .v (.int .i64 r.2)]]]⟩, fun a => [(true, 290, [[.rw a.2.1 a.2.2 (List.map eU8 a.1.b), .v (.int .i64 a.1.p)]])]⟩
def KP7 : IFn := ⟨6, [.inl 2],
 (Rs [Io (.mv (.c (.string ⟨#[]⟩))) 2]
 (Rs (sq 3 [Mv 0, Io (.lit 49 [none] [.v (.string ⟨#[]⟩)] 4 [(0, .c (.string ⟨#[110, 97, 109, 101]⟩)), (1, .c (.string ⟨#[107, 105, 110, 100]⟩)), (2, .c (.string ⟨#[117, 115, 101]⟩)), (3, .c (.string ⟨#[116, 111, 110, 101]⟩))]), Io (.call 326 [(true, .t 3), (false, .t 4)])] [Mv 5 2])
 .ret)), lcF []⟩
def KQ7 : List (List (Option Nat)) := [[none]]
def nF7 (a0 : Rd) : Option (Str × Int) := (gq7 a0 ([(⟨#[110, 97, 109, 101]⟩ : Str), (⟨#[107, 105, 110, 100]⟩ : Str), (⟨#[117, 115, 101]⟩ : Str), (⟨#[116, 111, 110, 101]⟩ : Str)] : (List Str))).bind fun x2 => some (x2.1, x2.2)
def xU7 : Con := ⟨Rd × Option Addr × Nat, (Str × Int), 365, fun a => [.pio 0 290], fun a => nF7 a.1, fun a r => ⟨[(false, [.v (.string r.1)])], [some [[.v (.slice a.2.1 (List.map eU8 a.1.b).length a.2.2), .v (.int .i64 r.2)]]]⟩, fun a => [(true, 290, [[.rw a.2.1 a.2.2 (List.map eU8 a.1.b), .v (.int .i64 a.1.p)]])]⟩
def KR7 : IFn := ⟨6, [.inl 2],
 (Rs [Io (.mv (.c (.string ⟨#[]⟩))) 2]
 (Rs (sq 3 [Mv 0, Io (.lit 49 [none] [.v (.string ⟨#[]⟩)] 5 [(0, .c (.string ⟨#[97]⟩)), (1, .c (.string ⟨#[98]⟩)), (2, .c (.string ⟨#[111, 97, 107]⟩)), (3, .c (.string ⟨#[97, 115, 104]⟩)), (4, .c (.string ⟨#[114, 111, 97, 100]⟩))]), Io (.call 326 [(true, .t 3), (false, .t 4)])] [Mv 5 2])
 .ret)), lcF []⟩
def KS7 : List (List (Option Nat)) := [[none]]
def nG7 (a0 : Rd) : Option (Str × Int) := (gq7 a0 ([(⟨#[97]⟩ : Str), (⟨#[98]⟩ : Str), (⟨#[111, 97, 107]⟩ : Str), (⟨#[97, 115, 104]⟩ : Str), (⟨#[114, 111, 97, 100]⟩ : Str)] : (List Str))).bind fun x2 => some (x2.1, x2.2)
def xV7 : Con := ⟨Rd × Option Addr × Nat, (Str × Int), 366, fun a => [.pio 0 290], fun a => nG7 a.1, fun a r => ⟨[(false, [.v (.string r.1)])], [some [[.v (.slice a.2.1 (List.map eU8 a.1.b).length a.2.2), .v (.int .i64 r.2)]]]⟩, fun a => [(true, 290, [[.rw a.2.1 a.2.2 (List.map eU8 a.1.b), .v (.int .i64 a.1.p)]])]⟩
def KT7 : IFn := ⟨12, [.inl 4],
 (Rs [Ki 0 4]
 (Rs (sq 5 [Mv 1, Mv 0, Mv 1, Ln 7, Io (.call 321 [(true, .t 6), (false, .t 8)]), Ia 1 5 9, Ld 1 10] [Mv 11 4])
 .ret)), lcF []⟩
def KU7 : List (List (Option Nat)) := [[none]]
def in7 (a0 : Rd) (a1 : (List Int)) : Option (Int × Int) := (bv7 a0 (a1.length : Int)).bind fun x1 => (idx a1 x1.1).bind fun x3 => some (x3, x1.2)
def mt7 : Con := ⟨Rd × (List Int) × Option Addr × Nat, (Int × Int), 356, fun a => [.pio 0 290, .ro (List.map bz7 a.2.1)], fun a => in7 a.1 a.2.1, fun a r => ⟨[(false, [.v (.int .i64 r.1)])], [some [[.v (.slice a.2.2.1 (List.map eU8 a.1.b).length a.2.2.2), .v (.int .i64 r.2)]]]⟩, fun a => [(true, 290, [[.rw a.2.2.1 a.2.2.2 (List.map eU8 a.1.b), .v (.int .i64 a.1.p)]])]⟩
def KV7 : IFn := ⟨9, [.inr (2, 2)],
 (Rs [Io (.alloc 66 [.v (.int .i64 0), .v (.int .i64 0)]) 2]
 (Rs (sq 3 [Mv 0, Io (.call 321 [(true, .t 3), (false, .c (.int .i64 4))]), Mv 0, Io (.lit 17 [none] [.v (.int .i64 0)] 4 [(0, .c (.int .i64 0)), (1, .c (.int .i64 1)), (2, .c (.int .i64 2)), (3, .c (.int .i64 5))]), Io (.call 356 [(true, .t 5), (false, .t 6)]), Io (.build [.v (.int .i64 0), .v (.int .i64 0)] [(0, 1, .t 4), (1, 1, .t 7)])] [Sv [none, none] 2 8])
 .ret)), lcF []⟩
def KW7 : List (List (Option Nat)) := [[none, none]]
def hc7 (a0 : Rd) : Option (Pt × Int) := (bv7 a0 4).bind fun x2 => (in7 (⟨a0.b, x2.2⟩ : Rd) ([0, 1, 2, 5] : (List Int))).bind fun x5 => some ((⟨x2.1, x5.1⟩ : Pt), x5.2)
def qZ7 : Con := ⟨Rd × Option Addr × Nat, (Pt × Int), 387, fun a => [.pio 0 290], fun a => hc7 a.1, fun a r => ⟨[(true, ePt r.1)], [some [[.v (.slice a.2.1 (List.map eU8 a.1.b).length a.2.2), .v (.int .i64 r.2)]]]⟩, fun a => [(true, 290, [[.rw a.2.1 a.2.2 (List.map eU8 a.1.b), .v (.int .i64 a.1.p)]])]⟩
def KX7 : IFn := ⟨10, [.inl 4],
 (Rs [Ki 0 4]
 (.seq (Rs (sq 5 [Mv 0, Mv 1, Bb .lss 5 6] [])
 (Ct 7 (Rs [Mv 0 8, Mv 8 4]
 .ret)
 .skip))
 (Rs [Mv 1 9, Mv 9 4]
 .ret))), lcF []⟩
def KY7 : List (List (Option Nat)) := [[none]]
def q07 (a0 : Int) (a1 : Int) : Option Int := if (decide (a0 < a1)) = true then (some (a0)) else (some (a1))
def Al7 : Con := ⟨Int × Int, Int, 397, fun a => [.v (.int .i64 a.1), .v (.int .i64 a.2)], fun a => q07 a.1 a.2, fun a r => ⟨[(false, [.v (.int .i64 r)])], []⟩, fun a => []⟩
def KZ7 : IFn := ⟨76, [.inr (2, 2)],
 (Rs [Io (.alloc 226 [.v (.int .i64 0), .sl true 66 []]) 2]
 (Rs (sq 8 [Mv 0, Io (.lit 17 [none] [.v (.int .i64 0)] 5 [(0, .c (.int .i64 1)), (1, .c (.int .i64 2)), (2, .c (.int .i64 2)), (3, .c (.int .i64 3)), (4, .c (.int .i64 3))]), Io (.call 356 [(true, .t 8), (false, .t 9)]), Io (.build [.v (.int .i64 0), .nil] [(0, 1, .t 10)])] [Io (.alloc 226 [.v (.int .i64 0), .sl true 66 []]) 3, Sv [none, some 66] 3 11])
 (.seq (.drw (sq 12 [Fa 0 3, Ld 1 12, Mv 0, Io (.call 321 [(true, .t 14), (false, .c (.int .i64 4))]), Bb .add 13 15] [Mv 16 4]) [(1, 3)])
 (eH7 (Rs (sq 17 [Fa 0 3, Ld 1 17, Bk .eql 18 1] [])
 (Ct 19 (.reg [Ki 1 4])
 .skip))
 (.seq (Rs [Ki 0 5]
 (bU7 0 (.loop (.seq (.seq (.drw (sq 20 [Mv 5, Bk .lss 20 12, Mv 21] (Sg 22 23 [Fa 1 3, Ld 1 23, Ln 24, Mv 4, Io (.call 397 [(false, .t 26), (false, .c (.int .i64 6))]), Bb .lss 25 27] [Pf 22 28 29])) [(4, 7)])
 (Ct 29 .skip
 (.exit 0)))
 (.seq (.block 1 (Rs (sq 32 [Mv 0, Io (.call 387 [(true, .t 32)])] [Io (.alloc 66 [.v (.int .i64 0), .v (.int .i64 0)]) 6, Sv [none, none] 6 33])
 (Rs (sq 34 [Fa 1 3, Ld 1 34, Ln 35] [Mv 36 7])
 (eH7 (.drw (sq 37 [Mv 7, Bk .eql 37 0, Mv 38] (Sf 39 40 [Fa 1 3, Ld 1 40, Mv 7, Bk .sub 42 1, Ia 2 41 43, La 2 44, La 2 6, Io (.eqs true true [0, 0] (.t 45) (.t 46)), Mv 47] (Sg 48 49 [Fa 0 3, Ld 1 49, Bk .neq 50 3, Mv 51] (Sf 52 53 [Fa 1 3, Ld 1 53, Ik 2 54 0, La 2 55, La 2 6, Io (.eqs true true [0, 0] (.t 56) (.t 57))] [Gt 48 (Pk 52 58 59), Gf 39 (Pf 48 59 60), Pk 39 60 61])))) [(4, 9), (8, 9), (17, 20), (19, 20)])
 (Ct 61 (.reg (sq 62 [Fa 1 3, Ld 1 62, La 2 6, Io (.lit 66 [none, none] [.v (.int .i64 0), .v (.int .i64 0)] 1 [(0, .t 64)]), Io (.app 66 true (.t 63) (.t 65)), Fa 1 3] [Sv [some 66] 67 66]))
 .skip)))))
 (.reg (sq 30 [Mv 5, Bk .add 30 1] [Mv 31 5])))))))
 (.seq (Rs (sq 68 [La 2 3, Ca 15 [68], Nt 69] [])
 (Ct 70 (Rs (sq 71 [Mv 0, Io (.call 387 [(true, .t 71)]), Io (.lit 66 [none, none] [.v (.int .i64 0), .v (.int .i64 0)] 1 [(0, .t 72)]), Io (.build [.v (.int .i64 0), .nil] [(0, 1, .c (.int .i64 1)), (1, 1, .t 73)])] [Sv [none, some 66] 2 74])
 .ret)
 .skip))
 (Rs [La 2 3 75, Sv [none, some 66] 2 75]
 .ret))))))), lcF []⟩
def K07 : List (List (Option Nat)) := [[none, some 66]]
def dF7 (q8 : Int) (a0 : Rd) (x3 : (Int × Int)) : Nat → Int → Int → (List Pt) → Option (Int × (List Pt))
 | 0, _, _, _ => none
 | n119 + 1, v110, v111, v115 => if (decide (v110 < 12)) = true then ((q07 q8 6).bind fun x120 => if (decide ((v115.length : Int) < x120)) = true then ((hc7 (⟨a0.b, v111⟩ : Rd)).bind fun x122 => ((if ((v115.length : Int) == 0) = true then (some true) else ((idx v115 (IntKind.i64.wrap ((v115.length : Int) - 1))).bind fun x130 => if (!((x130.x == x122.1.x) && ((x130.y == x122.1.y) && true))) = true then (if (x3.1 != 3) = true then (some true) else ((idx v115 0).bind fun x132 => some (!((x132.x == x122.1.x) && ((x132.y == x122.1.y) && true))))) else (some false)) : Option Bool)).bind fun q129 => if q129 = true then (if aH7 (v115 ++ ([x122.1] : (List Pt))).length = true then dF7 q8 a0 x3 n119 (IntKind.i64.wrap (v110 + 1)) x122.2 (v115 ++ ([x122.1] : (List Pt))) else none) else (dF7 q8 a0 x3 n119 (IntKind.i64.wrap (v110 + 1)) x122.2 v115)) else (some (v111, v115))) else (some (v111, v115))
def nH7 (a0 : Rd) : Option (aD7 × Int) := (in7 a0 ([1, 2, 2, 3, 3] : (List Int))).bind fun x3 => (bv7 (⟨a0.b, x3.2⟩ : Rd) 4).bind fun x6 => ((if (x3.1 == 1) = true then (some 1) else (some (IntKind.i64.wrap (x3.1 + x6.1))) : Option Int)).bind fun q8 => (dF7 q8 a0 x3 aP7 0 x6.2 []).bind fun q109 => (jQ7 (⟨x3.1, q109.2⟩ : aD7)).bind fun x154 => if (!x154) = true then ((hc7 (⟨a0.b, q109.1⟩ : Rd)).bind fun x156 => some ((⟨1, [x156.1]⟩ : aD7), x156.2)) else (some ((⟨x3.1, q109.2⟩ : aD7), q109.1))
def xW7 : Con := ⟨Rd × Option Addr × Nat, (aD7 × Int), 386, fun a => [.pio 0 290], fun a => nH7 a.1, fun a r => ⟨[(true, g67 true r.1)], [some [[.v (.slice a.2.1 (List.map eU8 a.1.b).length a.2.2), .v (.int .i64 r.2)]]]⟩, fun a => [(true, 290, [[.rw a.2.1 a.2.2 (List.map eU8 a.1.b), .v (.int .i64 a.1.p)]])]⟩
def K17 : IFn := ⟨26, [.inr (4, 4)],
 (Rs [Io (.alloc 100 [.v (.string ⟨#[]⟩), .v (.int .i64 0), .sl true 66 [], .sl true 82 []]) 4]
 (Rs (sq 7 [Mv 1, Mv 0, Io (.call 386 [(true, .t 8)]), Io (.build [.v (.string ⟨#[]⟩), .v (.int .i64 0), .nil, .nil] [(0, 1, .t 7), (1, 2, .t 9)])] [Io (.alloc 100 [.v (.string ⟨#[]⟩), .v (.int .i64 0), .sl true 66 [], .sl true 82 []]) 5, Sv [none, none, some 66, some 82] 5 10])
 (.seq (Rs (sq 11 [Mv 0, Io (.call 321 [(true, .t 11), (false, .c (.int .i64 4))])] [Mv 12 6])
 (bU7 0 (.loop (.seq (Rs (sq 13 [Mv 6, Bk .gtr 13 0] [])
 (Ct 14 .skip
 (.exit 0)))
 (.seq (.block 1 (.drw (sq 17 [Fa 3 5, Ld 1 17, Mv 0, Io (.call 365 [(true, .t 19)]), Mv 0, Io (.call 366 [(true, .t 21)]), Ca 47 [18, 20, 22], Fa 3 5] [Sv [some 82] 24 23]) [(1, 3), (1, 5)]))
 (.reg (sq 15 [Mv 6, Bk .sub 15 1] [Mv 16 6])))))))
 (Rs [La 4 5 25, Sv [none, none, some 66, some 82] 4 25]
 .ret)))), lcF []⟩
def K27 : List (List (Option Nat)) := [[none, none, some 66, some 82]]
def er7 (a0 : Rd) : Nat → Int → Int → (List Tag) → Option ((List Tag) × Int)
 | 0, _, _, _ => none
 | n46 + 1, v40, v41, v42 => if (decide (v40 > 0)) = true then ((nF7 (⟨a0.b, v41⟩ : Rd)).bind fun x47 => (nG7 (⟨a0.b, x47.2⟩ : Rd)).bind fun x49 => (ii7 v42 x47.1 x49.1).bind fun x51 => er7 a0 n46 (IntKind.i64.wrap (v40 - 1)) x49.2 x51) else (some (v42, v41))
def lI7 (a0 : Rd) (a1 : Str) : Option (Feat × Int) := (nH7 a0).bind fun x2 => (bv7 (⟨a0.b, x2.2⟩ : Rd) 4).bind fun x7 => (er7 a0 aP7 x7.1 x7.2 []).bind fun q39 => some ((⟨a1, x2.1, q39.1⟩ : Feat), q39.2)
def sD7 : Con := ⟨Rd × Str × Option Addr × Nat, (Feat × Int), 363, fun a => [.pio 0 290, .v (.string a.2.1)], fun a => lI7 a.1 a.2.1, fun a r => ⟨[(true, aj7 true r.1)], [some [[.v (.slice a.2.2.1 (List.map eU8 a.1.b).length a.2.2.2), .v (.int .i64 r.2)]]]⟩, fun a => [(true, 290, [[.rw a.2.2.1 a.2.2.2 (List.map eU8 a.1.b), .v (.int .i64 a.1.p)]])]⟩
def K37 : IFn := ⟨53, [.inr (2, 2)],
 (Rs [Io (.alloc 226 [.v (.int .i64 0), .sl true 66 []]) 2]
 (Rs (sq 5 [Mv 0, Io (.call 386 [(true, .t 5)])] [Io (.alloc 226 [.v (.int .i64 0), .sl true 66 []]) 3, Sv [none, some 66] 3 6])
 (Rs (sq 7 [Mv 0, Fa 1 3, Ld 1 8, Ln 9, Io (.call 321 [(true, .t 7), (false, .t 10)])] [Mv 11 4])
 (.seq (Rs (sq 12 [Mv 0, Io (.call 321 [(true, .t 12), (false, .c (.int .i64 40))])] [])
 (.block 0 (eH7 (.reg [Bk .eql 13 0 15, Mv 15 14])
 (Ct 14 (.reg (sq 16 [Mv 0, Io (.lit 17 [none] [.v (.int .i64 0)] 5 [(0, .c (.int .i64 0)), (1, .c (.int .i64 4)), (2, .c (.int .i64 1)), (3, .c (.int .i64 2)), (4, .c (.int .i64 3))]), Io (.call 356 [(true, .t 16), (false, .t 17)]), Fa 0 3] [Sv [none] 19 18]))
 (Rs [Bk .eql 13 1 21, Mv 21 20]
 (Ct 20 (.drw (sq 22 [Fa 1 3, Ld 1 22, Mv 4, Mv 0, Io (.lit 17 [none] [.v (.int .i64 0)] 3 [(0, .c (.int .i64 1000)), (1, .c (.int .i64 1001)), (2, .c (.int .i64 (-1001)))]), Io (.call 356 [(true, .t 25), (false, .t 26)]), Ia 2 23 24, Fa 0 28] [Sv [none] 29 27]) [(1, 4), (1, 5)])
 (Rs [Bk .eql 13 2 31, Mv 31 30]
 (Ct 30 (.drw (sq 32 [Fa 1 3, Ld 1 32, Fa 1 3, Ld 1 34, Fa 1 3, Ld 1 36, Ln 37, Bk .sub 38 1, Ia 2 35 39, La 2 40, Io (.lit 66 [none, none] [.v (.int .i64 0), .v (.int .i64 0)] 1 [(0, .t 41)]), Io (.app 66 true (.t 33) (.t 42)), Fa 1 3] [Sv [some 66] 44 43]) [(1, 3), (1, 5), (3, 5), (1, 9), (1, 10)])
 (Rs [Bk .eql 13 3 46, Mv 46 45]
 (Ct 45 (.reg (sq 47 [Fa 1 3, Ld 1 47, Mv 4, Io (.trn (.sls 2 (.t 48) none (some (.t 49)))), Fa 1 3] [Sv [some 66] 51 50]))
 .skip))))))))))
 (Rs [La 2 3 52, Sv [none, some 66] 2 52]
 .ret))))), lcF []⟩
def K47 : List (List (Option Nat)) := [[none, some 66]]
def q17 (a0 : Rd) : Option (aD7 × Int) := (nH7 a0).bind fun x2 => (bv7 (⟨a0.b, x2.2⟩ : Rd) (x2.1.pts.length : Int)).bind fun x7 => (bv7 (⟨a0.b, x7.2⟩ : Rd) 40).bind fun x9 => ((some () : Option Unit)).bind fun q11 => if (x9.1 == 0) = true then ((in7 (⟨a0.b, x9.2⟩ : Rd) ([0, 4, 1, 2, 3] : (List Int))).bind fun x19 => some ((⟨x19.1, x2.1.pts⟩ : aD7), x19.2)) else (if (x9.1 == 1) = true then ((in7 (⟨a0.b, x9.2⟩ : Rd) ([1000, 1001, (-1001)] : (List Int))).bind fun x22 => (idx x2.1.pts x7.1).bind fun x24 => some ((⟨x2.1.kind, (List.set x2.1.pts x7.1.toNat (⟨x22.1, x24.y⟩ : Pt))⟩ : aD7), x22.2)) else (if (x9.1 == 2) = true then ((idx x2.1.pts (IntKind.i64.wrap ((x2.1.pts.length : Int) - 1))).bind fun x26 => if aH7 (x2.1.pts ++ ([x26] : (List Pt))).length = true then some ((⟨x2.1.kind, (x2.1.pts ++ ([x26] : (List Pt)))⟩ : aD7), x9.2) else none) else (if (x9.1 == 3) = true then ((slc x2.1.pts 0 x7.1).bind fun x32 => some ((⟨x2.1.kind, x32⟩ : aD7), x9.2)) else (some (x2.1, x9.2)))))
def Am7 : Con := ⟨Rd × Option Addr × Nat, (aD7 × Int), 372, fun a => [.pio 0 290], fun a => q17 a.1, fun a r => ⟨[(true, g67 true r.1)], [some [[.v (.slice a.2.1 (List.map eU8 a.1.b).length a.2.2), .v (.int .i64 r.2)]]]⟩, fun a => [(true, 290, [[.rw a.2.1 a.2.2 (List.map eU8 a.1.b), .v (.int .i64 a.1.p)]])]⟩
def K57 : IFn := ⟨41, [.inr (2, 4)],
 (Rs [Io (.alloc 100 [.v (.string ⟨#[]⟩), .v (.int .i64 0), .sl true 66 [], .sl true 82 []]) 2]
 (eH7 (.reg (sq 4 [Mv 0, Mv 0, Io (.call 362 [(true, .t 5)]), Io (.call 363 [(true, .t 4), (false, .t 6)])] [Io (.alloc 100 [.v (.string ⟨#[]⟩), .v (.int .i64 0), .sl true 66 [], .sl true 82 []]) 3, Sv [none, none, some 66, some 82] 3 7]))
 (.seq (Rs (sq 8 [Mv 0, Io (.call 321 [(true, .t 8), (false, .c (.int .i64 40))])] [])
 (.block 0 (Rs [Bk .eql 9 0 11, Mv 11 10]
 (Ct 10 (.reg (sq 12 [Mv 0, Io (.lit 49 [none] [.v (.string ⟨#[]⟩)] 3 [(0, .c (.string ⟨#[]⟩)), (1, .c (.string ⟨#[65]⟩)), (2, .c (.string ⟨#[97, 98, 99, 100, 101, 102, 103]⟩))]), Io (.call 326 [(true, .t 12), (false, .t 13)]), Fa 0 3] [Sv [none] 15 14]))
 (Rs [Bk .eql 9 1 17, Mv 17 16]
 (Ct 16 (.reg (sq 18 [Mv 0, Io (.call 372 [(true, .t 18)]), Fa 1 3] [Sv [none, some 66] 20 19]))
 (Rs [Bk .eql 9 2 22, Mv 22 21]
 (Ct 21 (.reg (sq 23 [Fa 3 3, Ld 1 23, Io (.build [.v (.string ⟨#[]⟩), .v (.string ⟨#[]⟩)] [(0, 1, .c (.string ⟨#[97]⟩)), (1, 1, .c (.string ⟨#[98]⟩))]), Io (.lit 82 [none, none] [.v (.string ⟨#[]⟩), .v (.string ⟨#[]⟩)] 1 [(0, .t 25)]), Io (.app 82 true (.t 24) (.t 26)), Fa 3 3] [Sv [some 82] 28 27]))
 (Rs [Bk .eql 9 3 30, Mv 30 29]
 (Ct 29 (.drw (sq 31 [Fa 3 3, Ld 1 31, Mv 0, Io (.lit 49 [none] [.v (.string ⟨#[]⟩)] 2 [(0, .c (.string ⟨#[]⟩)), (1, .c (.string ⟨#[66]⟩))]), Io (.call 326 [(true, .t 33), (false, .t 34)]), Io (.build [.v (.string ⟨#[]⟩), .v (.string ⟨#[]⟩)] [(0, 1, .c (.string ⟨#[122, 122]⟩)), (1, 1, .t 35)]), Io (.lit 82 [none, none] [.v (.string ⟨#[]⟩), .v (.string ⟨#[]⟩)] 1 [(0, .t 36)]), Io (.app 82 true (.t 32) (.t 37)), Fa 3 3] [Sv [some 82] 39 38]) [(1, 3), (1, 4), (1, 6)])
 .skip))))))))))
 (Rs [La 4 3 40, Sv [none, none, some 66, some 82] 2 40]
 .ret)))), lcF []⟩
def K67 : List (List (Option Nat)) := [[none, none, some 66, some 82]]
def q27 (a0 : Rd) : Option (Feat × Int) := (((lH7 a0).bind fun x3 => (lI7 (⟨a0.b, x3.2⟩ : Rd) x3.1).bind fun x5 => some (x5.2, x5.1.shape.pts, x5.1.tags, x5.1.id, x5.1.shape.kind) : Option (Int × (List Pt) × (List Tag) × Str × Int))).bind fun q2 => (bv7 (⟨a0.b, q2.1⟩ : Rd) 40).bind fun x27 => if (x27.1 == 0) = true then ((gq7 (⟨a0.b, x27.2⟩ : Rd) ([(⟨#[]⟩ : Str), (⟨#[65]⟩ : Str), (⟨#[97, 98, 99, 100, 101, 102, 103]⟩ : Str)] : (List Str))).bind fun x30 => some ((⟨x30.1, ⟨q2.2.2.2.2, q2.2.1⟩, q2.2.2.1⟩ : Feat), x30.2)) else (if (x27.1 == 1) = true then ((q17 (⟨a0.b, x27.2⟩ : Rd)).bind fun x32 => some ((⟨q2.2.2.2.1, x32.1, q2.2.2.1⟩ : Feat), x32.2)) else (if (x27.1 == 2) = true then (if aH7 (q2.2.2.1 ++ ([(⟨(⟨#[97]⟩ : Str), (⟨#[98]⟩ : Str)⟩ : Tag)] : (List Tag))).length = true then some ((⟨q2.2.2.2.1, ⟨q2.2.2.2.2, q2.2.1⟩, (q2.2.2.1 ++ ([(⟨(⟨#[97]⟩ : Str), (⟨#[98]⟩ : Str)⟩ : Tag)] : (List Tag)))⟩ : Feat), x27.2) else none) else (if (x27.1 == 3) = true then ((gq7 (⟨a0.b, x27.2⟩ : Rd) ([(⟨#[]⟩ : Str), (⟨#[66]⟩ : Str)] : (List Str))).bind fun x41 => if aH7 (q2.2.2.1 ++ ([(⟨(⟨#[122, 122]⟩ : Str), x41.1⟩ : Tag)] : (List Tag))).length = true then some ((⟨q2.2.2.2.1, ⟨q2.2.2.2.2, q2.2.1⟩, (q2.2.2.1 ++ ([(⟨(⟨#[122, 122]⟩ : Str), x41.1⟩ : Tag)] : (List Tag)))⟩ : Feat), x41.2) else none) else (some ((⟨q2.2.2.2.1, ⟨q2.2.2.2.2, q2.2.1⟩, q2.2.2.1⟩ : Feat), x27.2)))))
def An7 : Con := ⟨Rd × Option Addr × Nat, (Feat × Int), 341, fun a => [.pio 0 290], fun a => q27 a.1, fun a r => ⟨[(true, aj7 true r.1)], [some [[.v (.slice a.2.1 (List.map eU8 a.1.b).length a.2.2), .v (.int .i64 r.2)]]]⟩, fun a => [(true, 290, [[.rw a.2.1 a.2.2 (List.map eU8 a.1.b), .v (.int .i64 a.1.p)]])]⟩
def K77 : IFn := ⟨53, [.inl 4],
 (Rs (sq 3 [Io (.box 100 [none, none, some 66, some 82] (.t 1)), Io (.mv (.c (.slice none 0 0)))] [])
 (Rs [Io (.lit 100 [none, none, some 66, some 82] [.v (.string ⟨#[]⟩), .v (.int .i64 0), .sl true 66 [], .sl true 82 []] 0 []) 8, Mv 8 5]
 (Rs [Kb false 6]
 (.seq (Rs [Ki 0 7]
 (bU7 0 (.loop (.seq (Rs (sq 9 [Mv 7, Mv 0, Ln 10, Bb .lss 9 11] [])
 (Ct 12 .skip
 (.exit 0)))
 (.seq (.block 1 (eH7 (.seq (.drw (sq 15 [Mv 6, Nt 15, Mv 16] (Sg 17 18 [Mv 0, Mv 7, Ia 4 18 19, Fa 0 20, Ld 1 21, Fa 0 3, Ld 1 23, Bb .geq 22 24] [Pf 17 25 26])) [(7, 9)])
 (Ct 26 (Rs (sq 27 [Mv 5, La 4 3, Io (.lit 100 [none, none, some 66, some 82] [.v (.string ⟨#[]⟩), .v (.int .i64 0), .sl true 66 [], .sl true 82 []] 1 [(0, .t 28)]), Io (.app 100 true (.t 27) (.t 29))] [Mv 30 5])
 (.reg [Kb true 6]))
 .skip))
 (.seq (.drw (sq 31 [Mv 0, Mv 7, Ia 4 31 32, Fa 0 33, Ld 1 34, Fa 0 3, Ld 1 36, Bb .neq 35 37] []) [(4, 6)])
 (Ct 38 (.reg (sq 39 [Mv 5, Mv 0, Mv 7, Ia 4 40 41, La 4 42, Io (.lit 100 [none, none, some 66, some 82] [.v (.string ⟨#[]⟩), .v (.int .i64 0), .sl true 66 [], .sl true 82 []] 1 [(0, .t 43)]), Io (.app 100 true (.t 39) (.t 44))] [Mv 45 5]))
 .skip))))
 (.reg (sq 13 [Mv 7, Bk .add 13 1] [Mv 14 7])))))))
 (.seq (Rs (sq 46 [Mv 6, Nt 46] [])
 (Ct 47 (.reg (sq 48 [Mv 5, La 4 3, Io (.lit 100 [none, none, some 66, some 82] [.v (.string ⟨#[]⟩), .v (.int .i64 0), .sl true 66 [], .sl true 82 []] 1 [(0, .t 49)]), Io (.app 100 true (.t 48) (.t 50))] [Mv 51 5]))
 .skip))
 (Rs [Mv 5 52, Mv 52 4]
 .ret)))))), lcF []⟩
def K87 : List (List (Option Nat)) := [[some 100]]
def fI7 (a1 : Feat) : List Feat → Nat → Bool → (List Feat) → Option (Bool × (List Feat))
 | [], k84, v79, v81 => some (v79, v81)
 | x85 :: l86, k84, v79, v81 => ((if (!v79) = true then (if (!slt x85.id a1.id) = true then (if aH7 (v81 ++ ([a1] : (List Feat))).length = true then some (true, (v81 ++ ([a1] : (List Feat)))) else none) else (some (v79, v81))) else (some (v79, v81)) : Option (Bool × (List Feat)))).bind fun q97 => if (!seq x85.id a1.id) = true then (if aH7 (q97.2 ++ ([x85] : (List Feat))).length = true then fI7 a1 l86 (k84 + 1) q97.1 (q97.2 ++ ([x85] : (List Feat))) else none) else (fI7 a1 l86 (k84 + 1) q97.1 q97.2)
def nI7 (a0 : (List Feat)) (a1 : Feat) : Option (List Feat) := if aH7 a0.length = true then ((fI7 a1 a0 0 false []).bind fun q78 => if (!q78.1) = true then (if aH7 (q78.2 ++ ([a1] : (List Feat))).length = true then some ((q78.2 ++ ([a1] : (List Feat)))) else none) else (some (q78.2))) else none
def xX7 : Con := ⟨(List Feat) × Feat, (List Feat), 37, fun a => [.io 0 a.1.length 100, .agg [.v (.string a.2.id), .v (.int .i64 a.2.shape.kind), .ro (List.map ePt a.2.shape.pts), .ro (List.map bb7 a.2.tags)]], fun a => nI7 a.1 a.2, fun a r => ⟨[(false, [sl true 100 (List.map (aj7 false) r)])], [none]⟩, fun a => [(false, 100, List.map (aj7 false) a.1)]⟩
def K97 : IFn := ⟨19, [.inl 2],
 (Rs [Io (.mv (.c (.slice none 0 0))) 2]
 (Rs [Io (.lit 100 [none, none, some 66, some 82] [.v (.string ⟨#[]⟩), .v (.int .i64 0), .sl true 66 [], .sl true 82 []] 0 []) 5, Io (.ren 2000003 100 (.mv (.t 5))) 3]
 (.seq (Rs (sq 6 [Mv 0, Io (.call 321 [(true, .t 6), (false, .c (.int .i64 5))])] [Mv 7 4])
 (bU7 0 (.loop (.seq (Rs (sq 8 [Mv 4, Bk .gtr 8 0] [])
 (Ct 9 .skip
 (.exit 0)))
 (.seq (.block 1 (.reg (sq 12 [Mv 3, Mv 0, Mv 0, Io (.call 362 [(true, .t 14)]), Io (.frz (.call 363 [(true, .t 13), (false, .t 15)])), Io (.call 37 [(true, .t 12), (false, .t 16)])] [Io (.ren 2000003 100 (.mv (.t 17))) 3])))
 (.reg (sq 10 [Mv 4, Bk .sub 10 1] [Mv 11 4])))))))
 (Rs [Mv 3 18, Mv 18 2]
 .ret)))), lcF []⟩
def La7 : List (List (Option Nat)) := [[some 100]]
def es7 (a0 : Rd) : Nat → Int → Int → (List Feat) → Option ((List Feat) × Int)
 | 0, _, _, _ => none
 | n51 + 1, v46, v47, v48 => if (decide (v46 > 0)) = true then ((lH7 (⟨a0.b, v47⟩ : Rd)).bind fun x52 => (lI7 (⟨a0.b, x52.2⟩ : Rd) x52.1).bind fun x54 => (nI7 v48 x54.1).bind fun x60 => es7 a0 n51 (IntKind.i64.wrap (v46 - 1)) x54.2 x60) else (some (v48, v47))
def nJ7 (a0 : Rd) : Option ((List Feat) × Int) := (bv7 a0 5).bind fun x2 => (es7 a0 aP7 x2.1 x2.2 []).bind fun q45 => some (q45.1, q45.2)
def vB7 : Con := ⟨Rd × Option Addr × Nat, ((List Feat) × Int), 361, fun a => [.pio 0 290], fun a => nJ7 a.1, fun a r => ⟨[(false, [sl true 100 (List.map (aj7 false) r.1)])], [some [[.v (.slice a.2.1 (List.map eU8 a.1.b).length a.2.2), .v (.int .i64 r.2)]]]⟩, fun a => [(true, 290, [[.rw a.2.1 a.2.2 (List.map eU8 a.1.b), .v (.int .i64 a.1.p)]])]⟩
def Lb7 : IFn := ⟨38, [.inl 2],
 (Rs [Io (.mv (.c (.slice none 0 0))) 2]
 (Rs (sq 5 [Mv 0, Io (.call 361 [(true, .t 5)])] [Io (.ren 2000003 100 (.mv (.t 6))) 3])
 (.seq (Rs (sq 7 [Mv 0, Io (.call 321 [(true, .t 7), (false, .c (.int .i64 40))])] [])
 (.block 0 (Rs [Bk .eql 8 0 10, Mv 10 9]
 (Ct 9 (.reg (sq 11 [Mv 3, Mv 0, Io (.frz (.call 341 [(true, .t 12)])), Io (.lit 100 [none, none, some 66, some 82] [.v (.string ⟨#[]⟩), .v (.int .i64 0), .sl true 66 [], .sl true 82 []] 1 [(0, .t 13)]), Io (.app 100 true (.t 11) (.t 14))] [Io (.ren 2000003 100 (.mv (.t 15))) 3]))
 (Rs [Bk .eql 8 1 17, Mv 17 16]
 (Ct 16 (Rs (sq 18 [Mv 3, Mv 3, Io (.app 100 false (.t 18) (.t 19))] [Mv 20 2])
 .ret)
 (Rs [Bk .eql 8 2 22, Mv 22 21]
 (Ct 21 (Rs [Ki 0 4]
 (bU7 1 (.loop (.seq (Rs (sq 23 [Mv 4, Bk .leq 23 8] [])
 (Ct 24 .skip
 (.exit 1)))
 (.seq (.block 2 (.reg (sq 27 [Mv 3, Mv 4, Mv 4, Bk .add 29 1, Io (.ssl (.c (.string ⟨#[113, 114, 115, 116, 117, 118, 119, 120, 121, 122]⟩)) (some (.t 28)) (some (.t 30))), Io (.build [.v (.int .i64 0), .v (.int .i64 0)] []), Io (.lit 66 [none, none] [.v (.int .i64 0), .v (.int .i64 0)] 1 [(0, .t 32)]), Io (.build [.v (.int .i64 0), .nil] [(0, 1, .c (.int .i64 1)), (1, 1, .t 33)]), Io (.frz (.build [.v (.string ⟨#[]⟩), .v (.int .i64 0), .nil, .nil] [(0, 1, .t 31), (1, 2, .t 34)])), Io (.call 37 [(true, .t 27), (false, .t 35)])] [Io (.ren 2000003 100 (.mv (.t 36))) 3])))
 (.reg (sq 25 [Mv 4, Bk .add 25 1] [Mv 26 4])))))))
 .skip))))))))
 (Rs [Mv 3 37, Mv 37 2]
 .ret)))), lcF []⟩
def Lc7 : List (List (Option Nat)) := [[some 100]]
def et7 : Nat → Int → (List Feat) → Option (List Feat)
 | 0, _, _ => none
 | n52 + 1, v48, v49 => if (decide (v48 ≤ 8)) = true then ((CI7 (⟨#[113, 114, 115, 116, 117, 118, 119, 120, 121, 122]⟩ : Str) v48 (IntKind.i64.wrap (v48 + 1))).bind fun x53 => (nI7 v49 (⟨x53, ⟨1, [(⟨0, 0⟩ : Pt)]⟩, []⟩ : Feat)).bind fun x56 => et7 n52 (IntKind.i64.wrap (v48 + 1)) x56) else (some v49)
def q37 (a0 : Rd) : Option ((List Feat) × Int) := (nJ7 a0).bind fun x1 => (bv7 (⟨a0.b, x1.2⟩ : Rd) 40).bind fun x5 => if (x5.1 == 0) = true then ((q27 (⟨a0.b, x5.2⟩ : Rd)).bind fun x7 => if aH7 (x1.1 ++ ([x7.1] : (List Feat))).length = true then some ((x1.1 ++ ([x7.1] : (List Feat))), x7.2) else none) else (if (x5.1 == 1) = true then (if aH7 (x1.1 ++ x1.1).length = true then some ((x1.1 ++ x1.1), x5.2) else none) else (if (x5.1 == 2) = true then ((et7 aP7 0 x1.1).bind fun q47 => some (q47, x5.2)) else (some (x1.1, x5.2))))
def Ao7 : Con := ⟨Rd × Option Addr × Nat, ((List Feat) × Int), 335, fun a => [.pio 0 290], fun a => q37 a.1, fun a r => ⟨[(false, [sl true 100 (List.map (aj7 false) r.1)])], [some [[.v (.slice a.2.1 (List.map eU8 a.1.b).length a.2.2), .v (.int .i64 r.2)]]]⟩, fun a => [(true, 290, [[.rw a.2.1 a.2.2 (List.map eU8 a.1.b), .v (.int .i64 a.1.p)]])]⟩
def Ld7 : IFn := ⟨14, [.inr (2, 2), .inl 3],
 (Rs (sq 2 [Io (.alloc 210 [.sl true 115 [], .sl true 130 []]), Kb false] [])
 (.seq (Rs (sq 4 [Mv 0, Ca 14 [4], Nt 5] [])
 (Ct 6 (Rs [Io (.build [.nil, .nil] []) 7, Sv [some 115, some 130] 2 7, Kb false 3]
 .ret)
 .skip))
 (Rs (sq 8 [Io (.build [.nil, .nil, .v (.string ⟨#[]⟩)] [(2, 1, .c (.string ⟨#[98, 101, 103, 105, 110]⟩))]), Io (.lit 115 [some 17, some 100, none] [.sl true 17 [], .sl true 100 [], .v (.string ⟨#[]⟩)] 1 [(0, .t 8)]), Mv 0, Io (.build [.v (.string ⟨#[]⟩), .v (.int .i64 0)] [(0, 1, .t 10)]), Io (.lit 130 [none, none] [.v (.string ⟨#[]⟩), .v (.int .i64 0)] 1 [(0, .t 11)]), Io (.build [.nil, .nil] [(0, 1, .t 9), (1, 1, .t 12)])] [Sv [some 115, some 130] 2 13, Kb true 3])
 .ret))), lcF []⟩
def Le7 : List (List (Option Nat)) := [[some 115, some 130], [none]]
def q57 (a0 : Str) : Option (aF7 × Bool) := (gp7 a0).bind fun x2 => if (!x2) = true then (some ((⟨[], []⟩ : aF7), false)) else (some ((⟨[(⟨[], [], (⟨#[98, 101, 103, 105, 110]⟩ : Str)⟩ : Commit)], [(⟨a0, 0⟩ : Head)]⟩ : aF7), true))
def Ap7 : Con := ⟨Str, (aF7 × Bool), 227, fun a => [.v (.string a)], fun a => q57 a, fun a r => ⟨[(true, od7 true r.1), (false, [.v (.bool r.2)])], []⟩, fun a => []⟩
def Lf7 : IFn := ⟨54, [.inr (6, 2), .inl 7],
 (Rs (Io (.box 210 [some 115, some 130] (.t 0)) 3 :: (sq 6 [Io (.alloc 210 [.sl true 115 [], .sl true 130 []]), Ki 0] []))
 (.seq (Rs (sq 10 [La 2 3, Ca 33 [10], Nt 11, Mv 12] (Sf 13 14 [Mv 1, Ca 14 [14], Nt 15] [Pk 13 16 17]))
 (Ct 17 (Rs [Io (.build [.nil, .nil] []) 18, Sv [some 115, some 130] 6 18, Ki 4 7]
 .ret)
 .skip))
 (eH7 (.reg (sq 19 [La 2 3, Ca 61 [19]] [Io (.alloc 210 [.sl true 115 [], .sl true 130 []]) 8, Sv [some 115, some 130] 8 20]))
 (Rs (sq 21 [La 2 3, Mv 2, Ca 28 [21, 22]] [Mv 23 9])
 (.seq (.block 0 (Rs (sq 25 [Mv 9, Bk .lss 25 0] [Mv 26 24])
 (Ct 24 (Rs [La 2 8 27, Sv [some 115, some 130] 6 27, Ki 1 7]
 .ret)
 (Rs (sq 29 [La 2 3, Mv 1, Ca 28 [29, 30], Bk .geq 31 0, Mv 32] (Sf 33 34 [Fa 1 3, Ld 1 34, Ln 35, Bk .geq 36 4] [Pk 33 37 38, Mv 38 28]))
 (Ct 28 (Rs [La 2 8 39, Sv [some 115, some 130] 6 39, Ki 2 7]
 .ret)
 .skip)))))
 (.seq (.drw (sq 40 [Fa 1 8, Ld 1 40, Mv 1, Fa 1 3, Ld 1 43, Mv 9, Ia 2 44 45, Fa 1 46, Ld 1 47, Io (.build [.v (.string ⟨#[]⟩), .v (.int .i64 0)] [(0, 1, .t 42), (1, 1, .t 48)]), Io (.lit 130 [none, none] [.v (.string ⟨#[]⟩), .v (.int .i64 0)] 1 [(0, .t 49)]), Io (.app 130 true (.t 41) (.t 50)), Fa 1 8] [Sv [some 130] 52 51]) [(1, 4), (1, 8), (1, 10)])
 (Rs [La 2 8 53, Sv [some 115, some 130] 6 53, Ki 0 7]
 .ret))))))), lcF []⟩
def Lg7 : List (List (Option Nat)) := [[some 115, some 130], [none]]
def q67 (a0 : aF7) (a1 : Str) (a2 : Str) : Option (aF7 × Int) := (nq7 a0).bind fun x3 => if (!x3) = true then (some ((⟨[], []⟩ : aF7), 4)) else ((gp7 a1).bind fun x5 => if (!x5) = true then (some ((⟨[], []⟩ : aF7), 4)) else ((((nx7 a0).bind fun x8 => some (x8.commits, x8.heads) : Option ((List Commit) × (List Head)))).bind fun q7 => (jS7 a0 a2).bind fun x22 => if (decide (x22 < 0)) = true then (some ((⟨q7.1, q7.2⟩ : aF7), 1)) else ((jS7 a0 a1).bind fun x24 => if (decide (x24 ≥ 0)) = true then (some ((⟨q7.1, q7.2⟩ : aF7), 2)) else (if (decide ((a0.heads.length : Int) ≥ 4)) = true then (some ((⟨q7.1, q7.2⟩ : aF7), 2)) else ((idx a0.heads x22).bind fun x26 => if aH7 (q7.2 ++ ([(⟨a1, x26.at_⟩ : Head)] : (List Head))).length = true then some ((⟨q7.1, (q7.2 ++ ([(⟨a1, x26.at_⟩ : Head)] : (List Head)))⟩ : aF7), 0) else none)))))
def Aq7 : Con := ⟨aF7 × Str × Str, (aF7 × Int), 224, fun a => [.agg [.ro (List.map (am7 false) a.1.commits), .ro (List.map aW7 a.1.heads)], .v (.string a.2.1), .v (.string a.2.2)], fun a => q67 a.1 a.2.1 a.2.2, fun a r => ⟨[(true, od7 true r.1), (false, [.v (.int .i64 r.2)])], []⟩, fun a => []⟩
def Lh7 : IFn := ⟨6, [.inl 2],
 (Rs [Io (.mv (.c (.string ⟨#[]⟩))) 2]
 (Rs (sq 3 [Mv 0, Io (.lit 49 [none] [.v (.string ⟨#[]⟩)] 3 [(0, .c (.string ⟨#[109, 97, 105, 110]⟩)), (1, .c (.string ⟨#[97, 110, 110]⟩)), (2, .c (.string ⟨#[98, 111, 98]⟩))]), Io (.call 326 [(true, .t 3), (false, .t 4)])] [Mv 5 2])
 .ret)), lcF []⟩
def Li7 : List (List (Option Nat)) := [[none]]
def q77 (a0 : Rd) : Option (Str × Int) := (gq7 a0 ([(⟨#[109, 97, 105, 110]⟩ : Str), (⟨#[97, 110, 110]⟩ : Str), (⟨#[98, 111, 98]⟩ : Str)] : (List Str))).bind fun x2 => some (x2.1, x2.2)
def Ar7 : Con := ⟨Rd × Option Addr × Nat, (Str × Int), 327, fun a => [.pio 0 290], fun a => q77 a.1, fun a r => ⟨[(false, [.v (.string r.1)])], [some [[.v (.slice a.2.1 (List.map eU8 a.1.b).length a.2.2), .v (.int .i64 r.2)]]]⟩, fun a => [(true, 290, [[.rw a.2.1 a.2.2 (List.map eU8 a.1.b), .v (.int .i64 a.1.p)]])]⟩
def Lj7 : IFn := ⟨29, [.inl 4],
 (Rs [Io (.mv (.c (.slice none 0 0))) 4]
 (Rs [Io (.lit 100 [none, none, some 66, some 82] [.v (.string ⟨#[]⟩), .v (.int .i64 0), .sl true 66 [], .sl true 82 []] 0 []) 7, Mv 7 5]
 (.seq (Rs [Ki 0 6]
 (bU7 0 (.loop (.seq (Rs (sq 8 [Mv 6, Mv 0, Ln 9, Bb .lss 8 10] [])
 (Ct 11 .skip
 (.exit 0)))
 (.seq (.block 1 (Rs (sq 14 [Mv 0, Mv 6, Ia 4 14 15, Fa 0 16, Ld 1 17, Mv 1, Bb .neq 18 19] [])
 (Ct 20 (.reg (sq 21 [Mv 5, Mv 0, Mv 6, Ia 4 22 23, La 4 24, Io (.lit 100 [none, none, some 66, some 82] [.v (.string ⟨#[]⟩), .v (.int .i64 0), .sl true 66 [], .sl true 82 []] 1 [(0, .t 25)]), Io (.app 100 true (.t 21) (.t 26))] [Mv 27 5]))
 .skip)))
 (.reg (sq 12 [Mv 6, Bk .add 12 1] [Mv 13 6])))))))
 (Rs [Mv 5 28, Mv 28 4]
 .ret)))), lcF []⟩
def Lk7 : List (List (Option Nat)) := [[some 100]]
def fJ7 (a1 : Str) : List Feat → Nat → (List Feat) → Option (List Feat)
 | [], k29, v26 => some v26
 | x30 :: l31, k29, v26 => if (!seq x30.id a1) = true then (if aH7 (v26 ++ ([x30] : (List Feat))).length = true then fJ7 a1 l31 (k29 + 1) (v26 ++ ([x30] : (List Feat))) else none) else (fJ7 a1 l31 (k29 + 1) v26)
def q87 (a0 : (List Feat)) (a1 : Str) : Option (List Feat) := if aH7 a0.length = true then ((fJ7 a1 a0 0 []).bind fun q24 => some (q24)) else none
def As7 : Con := ⟨(List Feat) × Str, (List Feat), 364, fun a => [.ro (List.map (aj7 false) a.1), .v (.string a.2)], fun a => q87 a.1 a.2, fun a r => ⟨[(false, [sl true 100 (List.map (aj7 false) r)])], []⟩, fun a => []⟩
def Ll7 : IFn := ⟨67, [.inr (4, 2)],
 (Rs (sq 3 [Io (.box 226 [none, some 66] (.t 1)), Io (.alloc 226 [.v (.int .i64 0), .sl true 66 []])] [])
 (.seq (Rs (sq 8 [Fa 1 3, Ld 1 8, Ln 9, Bk .eql 10 0] [])
 (Ct 11 (Rs [La 2 3 12, Sv [none, some 66] 4 12]
 .ret)
 .skip))
 (Rs (sq 13 [Mv 0, Fa 1 3, Ld 1 14, Ln 15, Io (.call 321 [(true, .t 13), (false, .t 16)])] [Mv 17 5])
 (Rs (sq 18 [Io (.lit 66 [none, none] [.v (.int .i64 0), .v (.int .i64 0)] 0 []), Fa 1 3, Ld 1 19, Mv 5, Io (.sls 2 (.t 20) none (some (.t 21))), Io (.app 66 false (.t 18) (.t 22))] [Mv 23 6])
 (eH7 (Rs (sq 24 [Mv 0, Io (.call 321 [(true, .t 24), (false, .c (.int .i64 3))])] [])
 (.block 0 (Rs [Bk .eql 25 0 38, Mv 38 37]
 (Ct 37 (.drw (sq 39 [Mv 6, Mv 0, Io (.call 387 [(true, .t 40)]), Io (.lit 66 [none, none] [.v (.int .i64 0), .v (.int .i64 0)] 1 [(0, .t 41)]), Io (.app 66 true (.t 39) (.t 42)), Fa 1 3, Ld 1 44, Mv 5, Io (.sls 2 (.t 45) (some (.t 46)) none), Io (.app 66 false (.t 43) (.t 47))] [Mv 48 6]) [(2, 6), (3, 6), (4, 6)])
 (Rs [Bk .eql 25 1 50, Mv 50 49]
 (Ct 49 (.reg (sq 51 [Mv 6, Fa 1 3, Ld 1 52, Mv 5, Bk .add 54 1, Io (.sls 2 (.t 53) (some (.t 55)) none), Io (.app 66 false (.t 51) (.t 56))] [Mv 57 6]))
 (.drw (sq 26 [Mv 6, Mv 0, Io (.call 387 [(true, .t 27)]), Io (.lit 66 [none, none] [.v (.int .i64 0), .v (.int .i64 0)] 1 [(0, .t 28)]), Io (.app 66 true (.t 26) (.t 29)), Fa 1 3, Ld 1 31, Mv 5, Bk .add 33 1, Io (.sls 2 (.t 32) (some (.t 34)) none), Io (.app 66 false (.t 30) (.t 35))] [Mv 36 6]) [(2, 6), (3, 6), (4, 6)])))))))
 (Rs (sq 58 [Fa 0 3, Ld 1 58, Mv 6, Io (.build [.v (.int .i64 0), .nil] [(0, 1, .t 59), (1, 1, .t 60)])] [Io (.alloc 226 [.v (.int .i64 0), .sl true 66 []]) 7, Sv [none, some 66] 7 61])
 (.seq (Rs (sq 62 [La 2 7, Ca 15 [62], Nt 63] [])
 (Ct 64 (Rs [La 2 3 65, Sv [none, some 66] 4 65]
 .ret)
 .skip))
 (Rs [Io (.frz (.load 2 true (.t 7))) 66, Sv [none, some 66] 4 66]
 .ret)))))))), lcF []⟩
def Lm7 : List (List (Option Nat)) := [[none, some 66]]
def ra7 (a0 : Rd) (a1 : aD7) : Option (aD7 × Int) := if ((a1.pts.length : Int) == 0) = true then (some (a1, a0.p)) else ((bv7 a0 (a1.pts.length : Int)).bind fun x3 => (slc a1.pts 0 x3.1).bind fun x6 => if aH7 ([] ++ x6).length = true then (((bv7 (⟨a0.b, x3.2⟩ : Rd) 3).bind fun x41 => if (x41.1 == 0) = true then ((hc7 (⟨a0.b, x41.2⟩ : Rd)).bind fun x43 => if aH7 (([] ++ x6) ++ ([x43.1] : (List Pt))).length = true then (slc a1.pts x3.1 (a1.pts.length : Int)).bind fun x49 => if aH7 ((([] ++ x6) ++ ([x43.1] : (List Pt))) ++ x49).length = true then some (((([] ++ x6) ++ ([x43.1] : (List Pt))) ++ x49), x43.2) else none else none) else (if (x41.1 == 1) = true then ((slc a1.pts (IntKind.i64.wrap (x3.1 + 1)) (a1.pts.length : Int)).bind fun x54 => if aH7 (([] ++ x6) ++ x54).length = true then some ((([] ++ x6) ++ x54), x41.2) else none) else ((hc7 (⟨a0.b, x41.2⟩ : Rd)).bind fun x59 => if aH7 (([] ++ x6) ++ ([x59.1] : (List Pt))).length = true then (slc a1.pts (IntKind.i64.wrap (x3.1 + 1)) (a1.pts.length : Int)).bind fun x65 => if aH7 ((([] ++ x6) ++ ([x59.1] : (List Pt))) ++ x65).length = true then some (((([] ++ x6) ++ ([x59.1] : (List Pt))) ++ x65), x59.2) else none else none)) : Option ((List Pt) × Int))).bind fun q40 => (jQ7 (⟨a1.kind, q40.1⟩ : aD7)).bind fun x79 => if (!x79) = true then (some (a1, q40.2)) else (some ((⟨a1.kind, q40.1⟩ : aD7), q40.2)) else none)
def At7 : Con := ⟨Rd × aD7 × Option Addr × Nat, (aD7 × Int), 367, fun a => [.pio 0 290, .agg [.v (.int .i64 a.2.1.kind), .ro (List.map ePt a.2.1.pts)]], fun a => ra7 a.1 a.2.1, fun a r => ⟨[(true, g67 false r.1)], [some [[.v (.slice a.2.2.1 (List.map eU8 a.1.b).length a.2.2.2), .v (.int .i64 r.2)]]]⟩, fun a => [(true, 290, [[.rw a.2.2.1 a.2.2.2 (List.map eU8 a.1.b), .v (.int .i64 a.1.p)]])]⟩
def Ln7 : IFn := ⟨77, [.inl 4],
 (Rs [Io (.mv (.c (.slice none 0 0))) 4]
 (Rs [Mv 1 11, Mv 11 5]
 (.seq (Rs (sq 12 [Mv 0, Io (.call 321 [(true, .t 12), (false, .c (.int .i64 3))]), Io (.bin .add (.c (.int .i64 1)) (.t 13))] [Mv 14 6])
 (bU7 0 (.loop (.seq (Rs (sq 15 [Mv 6, Bk .gtr 15 0] [])
 (Ct 16 .skip
 (.exit 0)))
 (.seq (.block 1 (Rs (sq 19 [Mv 0, Io (.call 362 [(true, .t 19)])] [Mv 20 7])
 (Rs (sq 21 [Mv 5, Mv 7, Ca 39 [21, 22]] [Mv 23 8])
 (.block 2 (Rs (sq 38 [Mv 8, Bk .lss 38 0] [Mv 39 37])
 (Ct 37 (.reg (sq 40 [Mv 5, Mv 0, Mv 7, Io (.frz (.call 363 [(true, .t 41), (false, .t 42)])), Io (.frz (.call 37 [(false, .t 40), (false, .t 43)]))] [Mv 44 5]))
 (Rs (sq 46 [Mv 0, Io (.call 321 [(true, .t 46), (false, .c (.int .i64 4))]), Bk .eql 47 0] [Mv 48 45])
 (Ct 45 (.reg (sq 49 [Mv 5, Mv 7, Io (.frz (.call 364 [(false, .t 49), (false, .t 50)]))] [Mv 51 5]))
 (Rs (sq 53 [Mv 0, Io (.call 321 [(true, .t 53), (false, .c (.int .i64 2))]), Bk .eql 54 0] [Mv 55 52])
 (Ct 52 (Rs (sq 56 [Mv 5, Mv 8, Ia 4 56 57, La 4 58, Ca 30 [59]] [Io (.alloc 100 [.v (.string ⟨#[]⟩), .v (.int .i64 0), .sl true 66 [], .sl true 82 []]) 9, Sv [none, none, some 66, some 82] 9 60])
 (.seq (.drw (sq 61 [Fa 3 9, Ld 1 61, Mv 0, Io (.call 365 [(true, .t 63)]), Mv 0, Io (.call 366 [(true, .t 65)]), Ca 47 [62, 64, 66], Fa 3 9] [Sv [some 82] 68 67]) [(1, 3), (1, 5)])
 (.reg (sq 69 [Mv 5, Io (.frz (.load 4 true (.t 9))), Io (.frz (.call 37 [(false, .t 69), (false, .t 70)]))] [Mv 71 5]))))
 (eH7 (.reg (sq 24 [Mv 5, Mv 8, Ia 4 24 25, La 4 26, Ca 30 [27]] [Io (.alloc 100 [.v (.string ⟨#[]⟩), .v (.int .i64 0), .sl true 66 [], .sl true 82 []]) 10, Sv [none, none, some 66, some 82] 10 28]))
 (Rs (sq 29 [Mv 0, Fa 1 10, Io (.frz (.load 2 true (.t 30))), Io (.call 367 [(true, .t 29), (false, .t 31)]), Fa 1 10] [Sv [none, some 66] 33 32])
 (.reg (sq 34 [Mv 5, Io (.frz (.load 4 true (.t 10))), Io (.frz (.call 37 [(false, .t 34), (false, .t 35)]))] [Mv 36 5]))))))))))))))
 (.reg (sq 17 [Mv 6, Bk .sub 17 1] [Mv 18 6])))))))
 (.seq (Rs (sq 72 [Mv 5, Ca 26 [72], Nt 73] [])
 (Ct 74 (Rs [Mv 1 75, Mv 75 4]
 .ret)
 .skip))
 (Rs [Mv 5 76, Mv 76 4]
 .ret))))), lcF []⟩
def Lo7 : List (List (Option Nat)) := [[some 100]]
def ct7 (a0 : Rd) : Nat → (List Feat) → Int → Int → Option ((List Feat) × Int)
 | 0, _, _, _ => none
 | n214 + 1, v211, v212, v213 => if (decide (v212 > 0)) = true then ((lH7 (⟨a0.b, v213⟩ : Rd)).bind fun x215 => (jT7 v211 x215.1).bind fun x217 => if (decide (x217 < 0)) = true then ((lI7 (⟨a0.b, x215.2⟩ : Rd) x215.1).bind fun x219 => (fV7 v211 x219.1).bind fun x225 => ct7 a0 n214 x225 (IntKind.i64.wrap (v212 - 1)) x219.2) else ((bv7 (⟨a0.b, x215.2⟩ : Rd) 4).bind fun x229 => if (x229.1 == 0) = true then ((q87 v211 x215.1).bind fun x231 => ct7 a0 n214 x231 (IntKind.i64.wrap (v212 - 1)) x229.2) else ((bv7 (⟨a0.b, x229.2⟩ : Rd) 2).bind fun x235 => if (x235.1 == 0) = true then ((idx v211 x217).bind fun x237 => (g97 x237).bind fun x239 => (nF7 (⟨a0.b, x235.2⟩ : Rd)).bind fun x246 => (nG7 (⟨a0.b, x246.2⟩ : Rd)).bind fun x248 => (ii7 x239.tags x246.1 x248.1).bind fun x250 => (fV7 v211 (⟨x239.id, x239.shape, x250⟩ : Feat)).bind fun x254 => ct7 a0 n214 x254 (IntKind.i64.wrap (v212 - 1)) x248.2) else ((((idx v211 x217).bind fun x259 => (g97 x259).bind fun x261 => some (x261.shape.pts, x261.tags, x261.id, x261.shape.kind) : Option ((List Pt) × (List Tag) × Str × Int))).bind fun q258 => (ra7 (⟨a0.b, x235.2⟩ : Rd) (⟨q258.2.2.2, q258.1⟩ : aD7)).bind fun x277 => (fV7 v211 (⟨q258.2.2.1, x277.1, q258.2.1⟩ : Feat)).bind fun x279 => ct7 a0 n214 x279 (IntKind.i64.wrap (v212 - 1)) x277.2)))) else (some (v211, v213))
def rb7 (a0 : Rd) (a1 : (List Feat)) : Option ((List Feat) × Int) := (bv7 a0 3).bind fun x1 => (ct7 a0 aP7 a1 (IntKind.i64.wrap (1 + x1.1)) x1.2).bind fun q210 => (g87 q210.1).bind fun x285 => if (!x285) = true then (some (a1, q210.2)) else (some (q210.1, q210.2))
def Au7 : Con := ⟨Rd × (List Feat) × Option Addr × Nat, ((List Feat) × Int), 336, fun a => [.pio 0 290, .ro (List.map (aj7 false) a.2.1)], fun a => rb7 a.1 a.2.1, fun a r => ⟨[(false, [sl false 100 (List.map (aj7 false) r.1)])], [some [[.v (.slice a.2.2.1 (List.map eU8 a.1.b).length a.2.2.2), .v (.int .i64 r.2)]]]⟩, fun a => [(true, 290, [[.rw a.2.2.1 a.2.2.2 (List.map eU8 a.1.b), .v (.int .i64 a.1.p)]])]⟩
def Lp7 : IFn := ⟨6, [.inl 2],
 (Rs [Io (.mv (.c (.string ⟨#[]⟩))) 2]
 (Rs (sq 3 [Mv 0, Io (.lit 49 [none] [.v (.string ⟨#[]⟩)] 3 [(0, .c (.string ⟨#[97, 110, 110]⟩)), (1, .c (.string ⟨#[98, 111, 98]⟩)), (2, .c (.string ⟨#[102, 105, 120]⟩))]), Io (.call 326 [(true, .t 3), (false, .t 4)])] [Mv 5 2])
 .ret)), lcF []⟩
def Lq7 : List (List (Option Nat)) := [[none]]
def rc7 (a0 : Rd) : Option (Str × Int) := (gq7 a0 ([(⟨#[97, 110, 110]⟩ : Str), (⟨#[98, 111, 98]⟩ : Str), (⟨#[102, 105, 120]⟩ : Str)] : (List Str))).bind fun x2 => some (x2.1, x2.2)
def Av7 : Con := ⟨Rd × Option Addr × Nat, (Str × Int), 377, fun a => [.pio 0 290], fun a => rc7 a.1, fun a r => ⟨[(false, [.v (.string r.1)])], [some [[.v (.slice a.2.1 (List.map eU8 a.1.b).length a.2.2), .v (.int .i64 r.2)]]]⟩, fun a => [(true, 290, [[.rw a.2.1 a.2.2 (List.map eU8 a.1.b), .v (.int .i64 a.1.p)]])]⟩
def Lr7 : IFn := ⟨92, [.inr (4, 2)],
 (Rs (sq 3 [Io (.box 210 [some 115, some 130] (.t 1)), Io (.alloc 210 [.sl true 115 [], .sl true 130 []])] [])
 (Rs (sq 12 [Mv 0, Io (.call 327 [(true, .t 12)])] [Mv 13 5])
 (Rs (sq 14 [La 2 3, Mv 5, Ca 28 [14, 15]] [Mv 16 6])
 (.seq (Rs (sq 17 [Mv 6, Bk .lss 17 0] [])
 (Ct 18 (.seq (.drw (sq 20 [La 2 3, Mv 5, Fa 1 3, Ld 1 22, Mv 0, Fa 1 3, Ld 1 25, Ln 26, Io (.call 321 [(true, .t 24), (false, .t 27)]), Ia 2 23 28, Fa 0 29, Ld 1 30, Ca 224 [20, 21, 31]] (Mv 32 19 :: (sq 33 [Xt 19 0, Xt 19 1] [Io (.alloc 210 [.sl true 115 [], .sl true 130 []]) 7, Sv [some 115, some 130] 7 33, Mv 34 8]))) [(0, 3), (0, 6), (3, 6), (0, 8), (3, 8), (0, 11), (0, 16), (3, 16), (6, 16), (8, 16), (11, 16), (12, 16)])
 (.seq (Rs (sq 35 [Fa 1 7, Ld 1 35, Ln 36, Bk .gtr 37 0] [])
 (Ct 38 (Rs [La 2 7 39, Sv [some 115, some 130] 4 39]
 .ret)
 .skip))
 (Rs [Io (.ldr 2 (.t 3)) 40, Iz (.store [none, none] (.t 4) (.t 40))]
 .ret)))
 .skip))
 (Rs (sq 41 [Fa 1 3, Ld 1 41, Mv 6, Ia 2 42 43, Fa 1 44, Ld 1 45] [Mv 46 9])
 (eH7 (.reg (sq 47 [Mv 9, Io (.lit 17 [none] [.v (.int .i64 0)] 1 [(0, .t 47)]), Mv 0, Fa 0 3, Ld 1 50, Mv 9, Ia 3 51 52, Fa 1 53, Ld 1 54, Io (.call 336 [(true, .t 49), (false, .t 55)]), Mv 0, Io (.call 377 [(true, .t 57)]), Io (.build [.nil, .nil, .v (.string ⟨#[]⟩)] [(0, 1, .t 48), (1, 1, .t 56), (2, 1, .t 58)])] [Io (.alloc 115 [.sl true 17 [], .sl true 100 [], .v (.string ⟨#[]⟩)]) 10, Sv [some 17, some 100, none] 10 59]))
 (.seq (.drw (sq 60 [Fa 1 3, Ld 1 60, Mv 0, Fa 1 3, Ld 1 63, Ln 64, Io (.call 321 [(true, .t 62), (false, .t 65)]), Ia 2 61 66, Fa 1 67, Ld 1 68] [Mv 69 11]) [(1, 4), (1, 6)])
 (eH7 (Rs (sq 70 [Mv 11, Mv 9, Bb .neq 70 71, Mv 72] (Sg 73 74 [Mv 0, Io (.call 321 [(true, .t 74), (false, .c (.int .i64 4))]), Bk .eql 75 0] [Pf 73 76 77]))
 (Ct 77 (.reg (sq 78 [Mv 9, Mv 11, Io (.lit 17 [none] [.v (.int .i64 0)] 2 [(0, .t 78), (1, .t 79)]), Fa 0 10] [Sv [some 17] 81 80]))
 .skip))
 (.seq (Rs (sq 82 [Fa 0 3, Ld 1 82, Ln 83, Bk .geq 84 12] [])
 (Ct 85 (Rs [Io (.ldr 2 (.t 3)) 86, Iz (.store [none, none] (.t 4) (.t 86))]
 .ret)
 .skip))
 (.seq (.drw (sq 87 [La 2 3, Ca 61 [87], Mv 6, La 3 10, Io (.call 60 [(true, .t 88), (false, .t 89), (false, .t 90)])] [Sv [some 115, some 130] 4 91]) [(0, 3), (1, 3)])
 .ret)))))))))), lcF []⟩
def Ls7 : List (List (Option Nat)) := [[some 115, some 130]]
def rd7 (a0 : Rd) (a1 : aF7) : Option ((Option aF7) × Int) := (q77 a0).bind fun x3 => (jS7 a1 x3.1).bind fun x5 => if (decide (x5 < 0)) = true then ((bv7 (⟨a0.b, x3.2⟩ : Rd) (a1.heads.length : Int)).bind fun x7 => (idx a1.heads x7.1).bind fun x9 => (q67 a1 x3.1 x9.name).bind fun x11 => if (decide ((x11.1.heads.length : Int) > 0)) = true then (some ((some x11.1), x7.2)) else (some ((none : Option aF7), x7.2))) else ((idx a1.heads x5).bind fun x18 => (((idx a1.commits x18.at_).bind fun x22 => (rb7 (⟨a0.b, x3.2⟩ : Rd) x22.sheet).bind fun x24 => (rc7 (⟨a0.b, x24.2⟩ : Rd)).bind fun x26 => some (x26.2, x24.1, x26.1) : Option (Int × (List Feat) × Str))).bind fun q20 => (bv7 (⟨a0.b, q20.1⟩ : Rd) (a1.heads.length : Int)).bind fun x41 => (idx a1.heads x41.1).bind fun x43 => ((if (x43.at_ != x18.at_) = true then ((bv7 (⟨a0.b, x41.2⟩ : Rd) 4).bind fun x49 => if (x49.1 == 0) = true then (some ([x18.at_, x43.at_], x49.2)) else (some ([x18.at_], x49.2))) else (some ([x18.at_], x41.2)) : Option ((List Int) × Int))).bind fun q48 => if (decide ((a1.commits.length : Int) ≥ 12)) = true then (some ((none : Option aF7), q48.2)) else ((nx7 a1).bind fun x63 => (qC7 x63 x5 (⟨q48.1, q20.2.1, q20.2.2⟩ : Commit)).bind fun x69 => some ((some x69), q48.2)))
def xY7 : Con := ⟨Rd × aF7 × Option Addr × Nat × Option Addr × Nat × Option Addr × Nat, ((Option aF7) × Int), 357, fun a => [.pio 0 290, .agg [.raw a.2.2.2.2.1 a.2.2.2.2.2.1 (List.map (am7 false) a.2.1.commits), .raw a.2.2.2.2.2.2.1 a.2.2.2.2.2.2.2 (List.map aW7 a.2.1.heads)]], fun a => rd7 a.1 a.2.1, fun a r => ⟨[(true, match r.1 with | some q => od7 true q | none => [.v (.slice a.2.2.2.2.1 (List.map (am7 false) a.2.1.commits).length a.2.2.2.2.2.1), .v (.slice a.2.2.2.2.2.2.1 (List.map aW7 a.2.1.heads).length a.2.2.2.2.2.2.2)])], [some [[.v (.slice a.2.2.1 (List.map eU8 a.1.b).length a.2.2.2.1), .v (.int .i64 r.2)]]]⟩, fun a => [(true, 290, [[.rw a.2.2.1 a.2.2.2.1 (List.map eU8 a.1.b), .v (.int .i64 a.1.p)]])]⟩
def Lt7 : IFn := ⟨44, [.inr (2, 2)],
 (Rs [Io (.alloc 210 [.sl true 115 [], .sl true 130 []]) 2]
 (Rs (Io (.call 227 [(false, .c (.string ⟨#[109, 97, 105, 110]⟩))]) 7 :: (Mv 7 6 :: (sq 8 [Io (.pfz 1 (.ext (.t 6) 0)), Xt 6 1] [Io (.alloc 210 [.sl true 115 [], .sl true 130 []]) 3, Sv [some 115, some 130] 3 8, Mv 9 4])))
 (.seq (.drw (sq 10 [Fa 0 3, Ld 1 10, Mv 0, Io (.frz (.call 361 [(true, .t 12)])), Ik 3 11 0, Fa 1 14] [Sv [some 100] 15 13]) [(1, 3)])
 (.seq (Rs (sq 16 [Mv 0, Io (.call 321 [(true, .t 16), (false, .c (.int .i64 7))]), Io (.bin .add (.c (.int .i64 2)) (.t 17))] [Mv 18 5])
 (bU7 0 (.loop (.seq (Rs (sq 19 [Mv 5, Bk .gtr 19 0] [])
 (Ct 20 .skip
 (.exit 0)))
 (.seq (.block 1 (.reg (sq 23 [Mv 0, Io (.rawl (.load 2 true (.t 3))), Io (.pfz 1 (.unr [1000384, 1000385] (.call 357 [(true, .t 23), (false, .t 24)])))] [Sv [some 115, some 130] 3 25])))
 (.reg (sq 21 [Mv 5, Bk .sub 21 1] [Mv 22 5])))))))
 (.seq (Rs (sq 26 [Mv 0, Io (.call 321 [(true, .t 26), (false, .c (.int .i64 4))]), Bk .eql 27 0, Mv 28] (Sg 29 30 [Fa 1 3, Ld 1 30, Ln 31, Bk .gtr 32 1] [Pf 29 33 34]))
 (Ct 34 (.reg (sq 35 [Fa 1 3, Ld 1 35, Fa 1 3, Ld 1 37, Ln 38, Bk .sub 39 1, Io (.trn (.sls 2 (.t 36) none (some (.t 40)))), Fa 1 3] [Sv [some 130] 42 41]))
 .skip))
 (Rs [La 2 3 43, Sv [some 115, some 130] 2 43]
 .ret)))))), lcF []⟩
def Lu7 : List (List (Option Nat)) := [[some 115, some 130]]
def dG7 (a0 : Rd) : Nat → Int → Int → (List Commit) → (List Head) → Option (Int × (List Commit) × (List Head))
 | 0, _, _, _, _ => none
 | n71 + 1, v57, v58, v64, v67 => if (decide (v57 > 0)) = true then ((rd7 (⟨a0.b, v58⟩ : Rd) (⟨v64, v67⟩ : aF7)).bind fun x72 => match x72 with | (none, p75) => (dG7 a0 n71 (IntKind.i64.wrap (v57 - 1)) p75 v64 v67) | (some y74, p75) => (dG7 a0 n71 (IntKind.i64.wrap (v57 - 1)) p75 y74.commits y74.heads)) else (some (v58, v64, v67))
def re7 (a0 : Rd) : Option (aF7 × Int) := (q57 (⟨#[109, 97, 105, 110]⟩ : Str)).bind fun x2 => (nJ7 a0).bind fun x9 => (idx x2.1.commits 0).bind fun x13 => (bv7 (⟨a0.b, x9.2⟩ : Rd) 7).bind fun x15 => (dG7 a0 aP7 (IntKind.i64.wrap (2 + x15.1)) x15.2 (List.set x2.1.commits (0 : Int).toNat (⟨x13.up, x9.1, x13.note⟩ : Commit)) x2.1.heads).bind fun q56 => (bv7 (⟨a0.b, q56.1⟩ : Rd) 4).bind fun x90 => if (x90.1 == 0) = true then (if (decide ((q56.2.2.length : Int) > 1)) = true then ((slc q56.2.2 0 (IntKind.i64.wrap ((q56.2.2.length : Int) - 1))).bind fun x92 => some ((⟨q56.2.1, x92⟩ : aF7), x90.2)) else (some ((⟨q56.2.1, q56.2.2⟩ : aF7), x90.2))) else (some ((⟨q56.2.1, q56.2.2⟩ : aF7), x90.2))
def Aw7 : Con := ⟨Rd × Option Addr × Nat, (aF7 × Int), 355, fun a => [.pio 0 290], fun a => re7 a.1, fun a r => ⟨[(true, tt7 r.1)], [some [[.v (.slice a.2.1 (List.map eU8 a.1.b).length a.2.2), .v (.int .i64 r.2)]]]⟩, fun a => [(true, 290, [[.rw a.2.1 a.2.2 (List.map eU8 a.1.b), .v (.int .i64 a.1.p)]])]⟩
def Lv7 : IFn := ⟨77, [.inr (2, 2)],
 (Rs [Io (.alloc 210 [.sl true 115 [], .sl true 130 []]) 2]
 (Rs (sq 5 [Mv 0, Io (.call 355 [(true, .t 5)])] [Io (.alloc 210 [.sl true 115 [], .sl true 130 []]) 3, Sv [some 115, some 130] 3 6])
 (Rs (sq 7 [Mv 0, Fa 0 3, Ld 1 8, Ln 9, Io (.call 321 [(true, .t 7), (false, .t 10)])] [Mv 11 4])
 (.seq (Rs (sq 12 [Mv 0, Io (.call 321 [(true, .t 12), (false, .c (.int .i64 48))])] [])
 (.block 0 (eH7 (.reg [Bk .eql 13 0 15, Mv 15 14])
 (Ct 14 (.drw (sq 16 [Fa 1 3, Ld 1 16, Mv 0, Fa 0 3, Ld 1 19, Ln 20, Io (.lit 17 [none] [.v (.int .i64 0)] 2 [(0, .c (.int .i64 (-1))), (1, .t 21)]), Io (.call 356 [(true, .t 18), (false, .t 22)]), Ik 2 17 0, Fa 1 24] [Sv [none] 25 23]) [(1, 4), (1, 6), (1, 7)])
 (Rs [Bk .eql 13 1 27, Mv 27 26]
 (Ct 26 (.drw (sq 28 [Fa 0 3, Ld 1 28, Mv 4, Fa 0 3, Ld 1 31, Mv 4, Ia 3 32 33, Fa 0 34, Ld 1 35, Mv 4, Io (.lit 17 [none] [.v (.int .i64 0)] 1 [(0, .t 37)]), Io (.app 17 true (.t 36) (.t 38)), Ia 3 29 30, Fa 0 40] [Sv [some 17] 41 39]) [(1, 4), (1, 8), (1, 10), (4, 10), (8, 10), (1, 11)])
 (Rs [Bk .eql 13 2 43, Mv 43 42]
 (Ct 42 (.drw (sq 44 [Fa 0 3, Ld 1 44, Mv 4, Mv 0, Io (.frz (.call 335 [(true, .t 47)])), Ia 3 45 46, Fa 1 49] [Sv [some 100] 50 48]) [(1, 4)])
 (Rs [Bk .eql 13 3 52, Mv 52 51]
 (Ct 51 (.reg (sq 53 [Fa 0 3, Ld 1 53, Mv 4, Ia 3 54 55, Fa 2 56] [Iz (.store [none] (.t 57) (.c (.string ⟨#[]⟩)))]))
 (Rs [Bk .eql 13 4 59, Mv 59 58]
 (Ct 58 (.drw (sq 60 [Fa 1 3, Ld 1 60, Fa 1 3, Ld 1 62, Ik 2 63 0, La 2 64, Io (.lit 130 [none, none] [.v (.string ⟨#[]⟩), .v (.int .i64 0)] 1 [(0, .t 65)]), Io (.app 130 true (.t 61) (.t 66)), Fa 1 3] [Sv [some 130] 68 67]) [(1, 3), (1, 5), (1, 6)])
 (Rs [Bk .eql 13 5 70, Mv 70 69]
 (Ct 69 (.reg (sq 71 [Fa 0 3, Ld 1 71, Mv 4, Ia 3 72 73, Fa 0 74] [Iz (.store [some 17] (.t 75) (.c (.slice none 0 0)))]))
 .skip))))))))))))))
 (Rs [La 2 3 76, Sv [some 115, some 130] 2 76]
 .ret))))), lcF []⟩
def Lw7 : List (List (Option Nat)) := [[some 115, some 130]]
def rf7 (a0 : Rd) : Option (aF7 × Int) := (re7 a0).bind fun x2 => (bv7 (⟨a0.b, x2.2⟩ : Rd) (x2.1.commits.length : Int)).bind fun x9 => (bv7 (⟨a0.b, x9.2⟩ : Rd) 48).bind fun x11 => ((some () : Option Unit)).bind fun q13 => if (x11.1 == 0) = true then ((in7 (⟨a0.b, x11.2⟩ : Rd) ([(-1), (x2.1.commits.length : Int)] : (List Int))).bind fun x25 => (idx x2.1.heads 0).bind fun x27 => some ((⟨x2.1.commits, (List.set x2.1.heads (0 : Int).toNat (⟨x27.name, x25.1⟩ : Head))⟩ : aF7), x25.2)) else (if (x11.1 == 1) = true then ((idx x2.1.commits x9.1).bind fun x29 => if aH7 (x29.up ++ ([x9.1] : (List Int))).length = true then some ((⟨(List.set x2.1.commits x9.1.toNat (⟨(x29.up ++ ([x9.1] : (List Int))), x29.sheet, x29.note⟩ : Commit)), x2.1.heads⟩ : aF7), x11.2) else none) else (if (x11.1 == 2) = true then ((q37 (⟨a0.b, x11.2⟩ : Rd)).bind fun x37 => (idx x2.1.commits x9.1).bind fun x41 => some ((⟨(List.set x2.1.commits x9.1.toNat (⟨x41.up, x37.1, x41.note⟩ : Commit)), x2.1.heads⟩ : aF7), x37.2)) else (if (x11.1 == 3) = true then ((idx x2.1.commits x9.1).bind fun x43 => some ((⟨(List.set x2.1.commits x9.1.toNat (⟨x43.up, x43.sheet, (⟨#[]⟩ : Str)⟩ : Commit)), x2.1.heads⟩ : aF7), x11.2)) else (if (x11.1 == 4) = true then ((idx x2.1.heads 0).bind fun x45 => if aH7 (x2.1.heads ++ ([x45] : (List Head))).length = true then some ((⟨x2.1.commits, (x2.1.heads ++ ([x45] : (List Head)))⟩ : aF7), x11.2) else none) else (if (x11.1 == 5) = true then ((idx x2.1.commits x9.1).bind fun x51 => some ((⟨(List.set x2.1.commits x9.1.toNat (⟨[], x51.sheet, x51.note⟩ : Commit)), x2.1.heads⟩ : aF7), x11.2)) else (some (x2.1, x11.2)))))))
def EN7 : Con := ⟨Rd × Option Addr × Nat, (aF7 × Int), 317, fun a => [.pio 0 290], fun a => rf7 a.1, fun a r => ⟨[(true, tt7 r.1)], [some [[.v (.slice a.2.1 (List.map eU8 a.1.b).length a.2.2), .v (.int .i64 r.2)]]]⟩, fun a => [(true, 290, [[.rw a.2.1 a.2.2 (List.map eU8 a.1.b), .v (.int .i64 a.1.p)]])]⟩
def Lx7 : IFn := ⟨31, [.inr (2, 2), .inl 3, .inl 4],
 (Rs (sq 2 [Io (.alloc 210 [.sl true 115 [], .sl true 130 []]), Ki 0, Ki 0] [])
 (Rs (sq 8 [Mv 0, Ca 316 [8]] [Mv 9 5])
 (Rs (sq 10 [Mv 5, Io (.call 317 [(true, .t 10)])] [Io (.alloc 210 [.sl true 115 [], .sl true 130 []]) 6, Sv [some 115, some 130] 6 11])
 (Rs (sq 12 [Fa 0 6, Ld 1 12, Ln 13, Bk .add 14 1] [Mv 15 7])
 (.seq (.drw (sq 16 [La 2 6, Mv 5, Mv 7, Io (.call 321 [(true, .t 17), (false, .w 18)]), Mv 5, Io (.call 321 [(true, .t 20), (false, .c (.int .i64 9))]), Bk .quo 21 8, Bb .sub 19 22, Mv 5, Mv 7, Io (.call 321 [(true, .t 24), (false, .w 25)]), Mv 5, Io (.call 321 [(true, .t 27), (false, .c (.int .i64 9))]), Bk .quo 28 8, Bb .sub 26 29] (Sv [some 115, some 130] 2 16 :: (sq 3 [Mv 23, Mv 30] []))) [(0, 3), (0, 5), (0, 10), (0, 12)])
 .ret))))), lcF []⟩
def Ly7 : List (List (Option Nat)) := [[some 115, some 130], [none], [none]]
def rg7 (a0 : (List UInt8)) : Option (aF7 × Int × Int) := (qY7 a0).bind fun x2 => (rf7 x2).bind fun x5 => (bv7 (⟨x2.b, x5.2⟩ : Rd) (IntKind.i64.wrap ((x5.1.commits.length : Int) + 1))).bind fun x12 => (bv7 (⟨x2.b, x12.2⟩ : Rd) 9).bind fun x14 => (bv7 (⟨x2.b, x14.2⟩ : Rd) (IntKind.i64.wrap ((x5.1.commits.length : Int) + 1))).bind fun x16 => (bv7 (⟨x2.b, x16.2⟩ : Rd) 9).bind fun x18 => some (x5.1, (IntKind.i64.wrap (x12.1 - (IntKind.i64.wrap (Int.tdiv x14.1 8)))), (IntKind.i64.wrap (x16.1 - (IntKind.i64.wrap (Int.tdiv x18.1 8)))))
def EO7 : Con := ⟨(List UInt8) × Option Addr × Nat, (aF7 × Int × Int), 334, fun a => [.raw a.2.1 a.2.2 (List.map eU8 a.1)], fun a => rg7 a.1, fun a r => ⟨[(true, tt7 r.1), (false, [.v (.int .i64 r.2.1)]), (false, [.v (.int .i64 r.2.2)])], []⟩, fun a => []⟩
def Lz7 : IFn := ⟨27, [.inl 6],
 (Rs [Io (.box 210 [some 115, some 130] (.t 0)) 3, Kb false 6]
 (Rs (sq 7 [La 2 3, Ca 96 [7], Mv 8] (Sg 9 10 [La 2 3, Mv 1, Ca 90 [10, 11]] (sq 13 [Pf 9 12, Mv 13] (Sg 14 15 [La 2 3, Mv 2, Ca 90 [15, 16]] (sq 18 [Pf 14 17, Mv 18] (Sg 19 20 [La 2 3, Mv 2, Ca 97 [20, 21], Mv 1, Ia 1 22 23, Ld 1 24] [Pf 19 25 26, Mv 26 6]))))))
 .ret)), lcF []⟩
def LA7 : List (List (Option Nat)) := [[none]]
def lJ7 (a0 : aF7) (a1 : Int) (a2 : Int) : Option Bool := (nz7 a0).bind fun x2 => if x2 = true then ((il7 a0 a1).bind fun x4 => if x4 = true then ((il7 a0 a2).bind fun x6 => if x6 = true then ((jV7 a0 a2).bind fun x8 => (idx x8 a1).bind fun x12 => some (x12)) else (some (false))) else (some (false))) else (some (false))
def vC7 : Con := ⟨aF7 × Int × Int, Bool, 238, fun a => [.agg [.ro (List.map (am7 false) a.1.commits), .ro (List.map aW7 a.1.heads)], .v (.int .i64 a.2.1), .v (.int .i64 a.2.2)], fun a => lJ7 a.1 a.2.1 a.2.2, fun a r => ⟨[(false, [.v (.bool r)])], []⟩, fun a => []⟩
def LB7 : IFn := ⟨10, [.inr (2, 2), .inl 3, .inl 4],
 (Rs (sq 2 [Io (.alloc 210 [.sl true 115 [], .sl true 130 []]), Ki 0, Ki 0] [])
 (Rs (sq 5 [Mv 0, Ca 334 [5], Xt 6 0, Xt 6 1, Xt 6 2] (Sv [some 115, some 130] 2 7 :: (sq 3 [Mv 8, Mv 9] [])))
 .ret)), lcF []⟩
def LC7 : List (List (Option Nat)) := [[some 115, some 130], [none], [none]]
def rh7 (a0 : (List UInt8)) : Option (aF7 × Int × Int) := (rg7 a0).bind fun x2 => some (x2.1, x2.2.1, x2.2.2)
def Ax7 : Con := ⟨(List UInt8) × Option Addr × Nat, (aF7 × Int × Int), 300, fun a => [.raw a.2.1 a.2.2 (List.map eU8 a.1)], fun a => rh7 a.1, fun a r => ⟨[(true, tt7 r.1), (false, [.v (.int .i64 r.2.1)]), (false, [.v (.int .i64 r.2.2)])], []⟩, fun a => []⟩
def LD7 : IFn := ⟨26, [.inl 4],
 (Rs [Kb false 4]
 (.seq (Rs (sq 6 [Mv 0, Ln 6, Mv 1, Ln 8, Bb .neq 7 9] [])
 (Ct 10 (Rs [Kb false 4]
 .ret)
 .skip))
 (.seq (Rs (sq 11 [Mv 0, Ln 11, Ki 0] [])
 (bU7 0 (.loop (Rs [Bb .lss 13 12 14]
 (.seq (Ct 14 .skip
 (.exit 0))
 (.seq (.block 1 (Rs [Mv 13 15, Mv 15 5]
 (.seq (.drw (sq 16 [Mv 0, Mv 5, Ia 2 16 17, La 2 18, Mv 1, Mv 5, Ia 2 20 21, La 2 22, Io (.eqs true true [2, 2] (.t 19) (.t 23))] []) [(3, 7)])
 (Ct 24 (Rs [Kb false 4]
 .ret)
 .skip))))
 (.reg [Bk .add 13 1 25, Mv 25 13])))))))
 (Rs [Kb true 4]
 .ret)))), lcF []⟩
def LE7 : List (List (Option Nat)) := [[none]]
def fK7 (a1 : (List aL7)) : List aL7 → Nat → Option (Bool ⊕ Unit)
 | [], k16 => some (.inr ())
 | x17 :: l18, k16 => (idx a1 (k16 : Int)).bind fun x25 => if (!((x17.id == x25.id) && ((x17.what == x25.what) && true))) = true then (some (.inl (false))) else (fK7 a1 l18 (k16 + 1) )
def ua7 (a0 : (List aL7)) (a1 : (List aL7)) : Option Bool := if ((a0.length : Int) != (a1.length : Int)) = true then (some (false)) else (if aH7 a0.length = true then ((fK7 a1 a0 0 ).bind fun q => match q with | .inl r => some r | .inr q14 => some (true)) else none)
def EP7 : Con := ⟨(List aL7) × (List aL7), Bool, 351, fun a => [.ro (List.map bh7 a.1), .ro (List.map bh7 a.2)], fun a => ua7 a.1 a.2, fun a r => ⟨[(false, [.v (.bool r)])], []⟩, fun a => []⟩
def LF7 : IFn := ⟨8, [.inl 4],
 (Rs [Kb false 4]
 (Rs (sq 5 [Mv 0, Mv 1, Ca 351 [5, 6]] [Mv 7 4])
 .ret)), lcF []⟩
def LG7 : List (List (Option Nat)) := [[none]]
def ri7 (a0 : (List aL7)) (a1 : (List aL7)) : Option Bool := (ua7 a0 a1).bind fun x1 => some (x1)
def Ay7 : Con := ⟨(List aL7) × (List aL7), Bool, 301, fun a => [.ro (List.map bh7 a.1), .ro (List.map bh7 a.2)], fun a => ri7 a.1 a.2, fun a r => ⟨[(false, [.v (.bool r)])], []⟩, fun a => []⟩
def LH7 : IFn := ⟨143, [.inl 2],
 (Rs [Kb false 2]
 (.seq (Rs (sq 16 [Mv 0, Ln 16, Bk .gtr 17 1048576] [])
 (Ct 18 (Rs [Kb true 2]
 .ret)
 .skip))
 (Rs (sq 20 [Mv 0, Io (.frz (.call 300 [(false, .t 20)]))] (Mv 21 19 :: (sq 22 [Xt 19 0, Xt 19 1, Xt 19 2] (Io (.alloc 210 [.sl true 115 [], .sl true 130 []]) 3 :: (Sv [some 115, some 130] 3 22 :: (sq 4 [Mv 23, Mv 24] []))))))
 (Rs (sq 26 [La 2 3, Mv 4, Mv 5, Cw 151 [26, 27, 28]] (Mv 29 25 :: (sq 30 [Xt 25 0, Xt 25 1, Xt 25 2] (sq 6 [Mv 30, Mv 31, Mv 32] []))))
 (Rs (sq 34 [La 2 3, Mv 4, Mv 5, Cw 59 [34, 35, 36]] (Mv 37 33 :: (sq 38 [Xt 33 0, Xt 33 1, Xt 33 2] (sq 9 [Mv 38, Mv 39, Mv 40] []))))
 (.seq (.seq (.drw (sq 41 [Mv 8, Mv 11, Io (.eqs true false [1] (.t 41) (.t 42)), Mv 43] (Sf 44 45 [Mv 6, Mv 9, Cw 220 [45, 46], Nt 47] (sq 49 [Pk 44 48, Mv 49] (Sf 50 51 [Mv 7, Mv 10, Cw 301 [51, 52], Nt 53] (sq 55 [Pk 50 54, Mv 55] (Sf 56 57 [La 2 3, Mv 4, Mv 5, Cw 148 [57, 58, 59], La 2 3, Mv 4, Mv 5, Cw 57 [61, 62, 63], Bb .neq 60 64] [Pk 56 65 66])))))) [(16, 20), (19, 20)])
 (Ct 66 (Rs [Kb false 2]
 .ret)
 .skip))
 (.seq (Rs (sq 67 [Mv 8, Nt 67] [])
 (Ct 68 (Rs (sq 69 [Mv 6, Ln 69, Bk .eql 70 0, Mv 71] (Sg 72 73 [Mv 7, Ln 73, Bk .eql 74 0] [Pf 72 75 76, Mv 76 2]))
 .ret)
 .skip))
 (eH7 (.reg (sq 78 [La 2 3, Mv 5, Mv 4, Cw 151 [78, 79, 80]] (Mv 81 77 :: (sq 82 [Xt 77 0, Xt 77 1, Xt 77 2] (sq 12 [Mv 82, Mv 83, Mv 84] [])))))
 (eH7 (Rs (sq 85 [Mv 14, Nt 85, Mv 86] (Sf 87 88 [Mv 13, Ln 88, Mv 7, Ln 90, Bb .neq 89 91] (sq 93 [Pk 87 92, Mv 93] (Sf 94 95 [Mv 7, Ln 95, Bk .eql 96 0, Mv 97] (Sg 98 99 [Mv 12, Mv 6, Cw 220 [99, 100], Nt 101] [Gf 94 (Pf 98 102 103), Pk 94 103 104])))))
 (Ct 104 (Rs [Kb false 2]
 .ret)
 .skip))
 (eH7 (Rs (sq 105 [La 2 3, Mv 4, Mv 5, Cw 238 [105, 106, 107], Mv 108] (Sg 109 110 [Mv 7, Ln 110, Bk .gtr 111 0, Mv 112] (Sf 113 114 [Mv 6, Fa 0 3, Ld 1 115, Mv 5, Io (.iaddr 3 (.w 116) (.t 117)), Fa 1 118, Ld 1 119, Cw 220 [114, 120], Nt 121] [Gt 109 (Pk 113 122 123), Pf 109 123 124])))
 (Ct 124 (Rs [Kb false 2]
 .ret)
 .skip))
 (Rs (sq 125 [La 2 3, Mv 4, Mv 5, Cw 148 [125, 126, 127]] [Mv 128 15])
 (Rs (sq 129 [Mv 15, Bk .geq 129 0, Mv 130] (Sg 131 132 [La 2 3, Mv 15, Mv 4, Cw 238 [132, 133, 134]] (sq 136 [Pf 131 135, Mv 136] (Sg 137 138 [La 2 3, Mv 15, Mv 5, Cw 238 [138, 139, 140]] [Pf 137 141 142, Mv 142 2]))))
 .ret)))))))))))), lcF []⟩
def LI7 : List (List (Option Nat)) := [[none]]
def ub7 (a0 : (List UInt8)) : Option Bool := if (decide ((a0.length : Int) > 1048576)) = true then (some (true)) else ((rh7 a0).bind fun x1 => (nE7 x1.1 x1.2.1 x1.2.2).bind fun x8 => (qB7 x1.1 x1.2.1 x1.2.2).bind fun x14 => if (!(x8.2.2 == x14.2.2)) = true then (some (false)) else ((hb7 x8.1 x14.1).bind fun x20 => if (!x20) = true then (some (false)) else ((ri7 x8.2.1 x14.2.1).bind fun x22 => if (!x22) = true then (some (false)) else ((lG7 x1.1 x1.2.1 x1.2.2).bind fun x24 => (nw7 x1.1 x1.2.1 x1.2.2).bind fun x26 => if (x24 != x26) = true then (some (false)) else (if (!x8.2.2) = true then (if ((x8.1.length : Int) == 0) = true then (some (((x8.2.1.length : Int) == 0))) else (some (false))) else ((((nE7 x1.1 x1.2.2 x1.2.1).bind fun x29 => some (x29.2.2, x29.1, x29.2.1) : Option (Bool × (List Feat) × (List aL7)))).bind fun q28 => ((if (!q28.1) = true then (some (.inl (false))) else (if ((q28.2.2.length : Int) != (x8.2.1.length : Int)) = true then (some (.inl (false))) else (if ((x8.2.1.length : Int) == 0) = true then ((hb7 q28.2.1 x8.1).bind fun x50 => if (!x50) = true then (some (.inl (false))) else (some (.inr ()))) else (some (.inr ())))) : Option (Bool ⊕ Unit))).bind fun q => match q with | .inl r => some r | .inr q49 => (((lJ7 x1.1 x1.2.1 x1.2.2).bind fun x64 => if x64 = true then (if (decide ((x8.2.1.length : Int) > 0)) = true then (some (.inl (false))) else ((idx x1.1.commits x1.2.2).bind fun x66 => (hb7 x8.1 x66.sheet).bind fun x68 => if (!x68) = true then (some (.inl (false))) else (some (.inr ())))) else (some (.inr ())) : Option (Bool ⊕ Unit))).bind fun q => match q with | .inl r => some r | .inr q63 => (lG7 x1.1 x1.2.1 x1.2.2).bind fun x71 => if (decide (x71 ≥ 0)) = true then ((lJ7 x1.1 x71 x1.2.1).bind fun x73 => if x73 = true then ((lJ7 x1.1 x71 x1.2.2).bind fun x75 => some (x75)) else (some (false))) else (some (false))))))))
def LJ7 : Con := ⟨(List UInt8) × Option Addr × Nat, Bool, 299, fun a => [.raw a.2.1 a.2.2 (List.map eU8 a.1)], fun a => ub7 a.1, fun a r => ⟨[(false, [.v (.bool r)])], []⟩, fun a => []⟩
end Go.Proofs.AM
