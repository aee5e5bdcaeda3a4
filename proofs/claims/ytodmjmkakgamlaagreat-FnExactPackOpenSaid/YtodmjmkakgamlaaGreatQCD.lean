/- Lemmas of the proof (QCD), on an abstract machine. Conditions: none. -/
import Derived.Test.YtodmjmkakgamlaaGreatSF
set_option linter.unusedVariables false
set_option maxRecDepth 100000
set_option maxHeartbeats 4000000
namespace Go.Proofs.AM
attribute [local irreducible] vwp vstps vstpLs vstp vdo vret kseq kblk kloop kend kcut kloop2 frzV renV shutK pfzV trnV unrV
/-! laws.szPtS -/
def if_cw9 : IFn := ⟨12, [.inl 4],
 (Rs [Ki 0 4]
 (Rs (sq 5 [Mv 1, Mv 0, Ln 6, Bb .sub 5 7] [Mv 8 1])
 (.seq (Rs (sq 9 [Mv 1, Bk .lss 9 0] [])
 (Ct 10 (Rs [Ki (-1) 4]
 .ret)
 .skip))
 (Rs [Mv 1 11, Mv 11 4]
 .ret)))), lcF []⟩
def ks_cw9 : List (List (Option Nat)) := [[none]]
def gf_cw9 (a0 : (List Pt)) (a1 : Int) : Option Int := if (decide ((IntKind.i64.wrap (a1 - (a0.length : Int))) < 0)) = true then (some ((-1))) else (some ((IntKind.i64.wrap (a1 - (a0.length : Int)))))
def c_cw9 : Con := ⟨(List Pt) × Int, Int, 1, fun a => [.ro (List.map ePt a.1), .v (.int .i64 a.2)], fun a => gf_cw9 a.1 a.2, fun a r => ⟨[(false, [.v (.int .i64 r)])], []⟩, fun a => []⟩
/-! laws.szTag -/
def if_cy9 : IFn := ⟨20, [.inl 4],
 (Rs [Io (.box 354 [none, none] (.t 0)) 2, Ki 0 4]
 (Rs (sq 5 [Mv 1, Fa 0 2, Ld 1 6, Ls 7, Bb .sub 5 8] [Mv 9 1])
 (.seq (Rs (sq 10 [Mv 1, Bk .lss 10 0] [])
 (Ct 11 (Rs [Ki (-1) 4]
 .ret)
 .skip))
 (Rs (sq 12 [Mv 1, Fa 1 2, Ld 1 13, Ls 14, Bb .sub 12 15] [Mv 16 1])
 (.seq (Rs (sq 17 [Mv 1, Bk .lss 17 0] [])
 (Ct 18 (Rs [Ki (-1) 4]
 .ret)
 .skip))
 (Rs [Mv 1 19, Mv 19 4]
 .ret)))))), lcF []⟩
def ks_cy9 : List (List (Option Nat)) := [[none]]
def gf_cy9 (a0 : Tag) (a1 : Int) : Option Int := if (decide ((IntKind.i64.wrap (a1 - (a0.key.size : Int))) < 0)) = true then (some ((-1))) else (if (decide ((IntKind.i64.wrap ((IntKind.i64.wrap (a1 - (a0.key.size : Int))) - (a0.val.size : Int))) < 0)) = true then (some ((-1))) else (some ((IntKind.i64.wrap ((IntKind.i64.wrap (a1 - (a0.key.size : Int))) - (a0.val.size : Int))))))
def c_cy9 : Con := ⟨Tag × Int, Int, 2, fun a => [.agg [.v (.string a.1.key), .v (.string a.1.val)], .v (.int .i64 a.2)], fun a => gf_cy9 a.1 a.2, fun a r => ⟨[(false, [.v (.int .i64 r)])], []⟩, fun a => []⟩
/-! laws.szShape -/
def if_cx9 : IFn := ⟨12, [.inl 4],
 (Rs [Io (.box 482 [none, some 338] (.t 0)) 2, Ki 0 4]
 (Rs (sq 5 [Fa 1 2, Ld 1 5, Mv 1, Ca 1 [6, 7]] [Mv 8 1])
 (.seq (Rs (sq 9 [Mv 1, Bk .lss 9 0] [])
 (Ct 10 (Rs [Ki (-1) 4]
 .ret)
 .skip))
 (Rs [Mv 1 11, Mv 11 4]
 .ret)))), lcF []⟩
def ks_cx9 : List (List (Option Nat)) := [[none]]
def gf_cx9 (a0 : Shape) (a1 : Int) : Option Int := (gf_cw9 a0.pts a1).bind fun x2 => if (decide (x2 < 0)) = true then (some ((-1))) else (some (x2))
def c_cx9 : Con := ⟨Shape × Int, Int, 3, fun a => [.agg [.v (.int .i64 a.1.kind), .ro (List.map ePt a.1.pts)], .v (.int .i64 a.2)], fun a => gf_cx9 a.1 a.2, fun a r => ⟨[(false, [.v (.int .i64 r)])], []⟩, fun a => []⟩
/-! laws.szTagS -/
def if_cz9 : IFn := ⟨27, [.inl 4],
 (Rs [Ki 0 4]
 (Rs (sq 6 [Mv 1, Mv 0, Ln 7, Bb .sub 6 8] [Mv 9 1])
 (.seq (Rs (sq 10 [Mv 1, Bk .lss 10 0] [])
 (Ct 11 (Rs [Ki (-1) 4]
 .ret)
 .skip))
 (.seq (Rs [Ki 0 5]
 (blkC 0 (.loop (.seq (Rs (sq 12 [Mv 5, Mv 0, Ln 13, Bb .lss 12 14] [])
 (Ct 15 .skip
 (.exit 0)))
 (.seq (.block 1 (Rs (sq 18 [Mv 0, Mv 5, Ia 2 18 19, La 2 20, Mv 1, Ca 2 [21, 22]] [Mv 23 1])
 (Rs (sq 24 [Mv 1, Bk .lss 24 0] [])
 (Ct 25 (Rs [Ki (-1) 4]
 .ret)
 .skip))))
 (.reg (sq 16 [Mv 5, Bk .add 16 1] [Mv 17 5])))))))
 (Rs [Mv 1 26, Mv 26 4]
 .ret))))), lcF []⟩
def ks_cz9 : List (List (Option Nat)) := [[none]]
def gl_cz9_1 : List Tag → Nat → Int → Option (Int ⊕ Int)
 | [], k18, v16 => some (.inr v16)
 | x19 :: l20, k18, v16 => (gf_cy9 x19 v16).bind fun x27 => if (decide (x27 < 0)) = true then (some (.inl ((-1)))) else (gl_cz9_1 l20 (k18 + 1) x27)
def gf_cz9 (a0 : (List Tag)) (a1 : Int) : Option Int := if (decide ((IntKind.i64.wrap (a1 - (a0.length : Int))) < 0)) = true then (some ((-1))) else (if fits a0.length = true then ((gl_cz9_1 a0 0 (IntKind.i64.wrap (a1 - (a0.length : Int)))).bind fun q => match q with | .inl r => some r | .inr q15 => some (q15)) else none)
def c_cz9 : Con := ⟨(List Tag) × Int, Int, 4, fun a => [.ro (List.map eTag a.1), .v (.int .i64 a.2)], fun a => gf_cz9 a.1 a.2, fun a r => ⟨[(false, [.v (.int .i64 r)])], []⟩, fun a => []⟩
/-! laws.szFeat -/
def if_cs9 : IFn := ⟨25, [.inl 4],
 (Rs [Io (.box 372 [none, none, some 338, some 354] (.t 0)) 2, Ki 0 4]
 (Rs (sq 5 [Mv 1, Fa 0 2, Ld 1 6, Ls 7, Bb .sub 5 8] [Mv 9 1])
 (.seq (Rs (sq 10 [Mv 1, Bk .lss 10 0] [])
 (Ct 11 (Rs [Ki (-1) 4]
 .ret)
 .skip))
 (Rs (sq 12 [Fa 1 2, La 2 12, Mv 1, Ca 3 [13, 14]] [Mv 15 1])
 (.seq (Rs (sq 16 [Mv 1, Bk .lss 16 0] [])
 (Ct 17 (Rs [Ki (-1) 4]
 .ret)
 .skip))
 (Rs (sq 18 [Fa 3 2, Ld 1 18, Mv 1, Ca 4 [19, 20]] [Mv 21 1])
 (.seq (Rs (sq 22 [Mv 1, Bk .lss 22 0] [])
 (Ct 23 (Rs [Ki (-1) 4]
 .ret)
 .skip))
 (Rs [Mv 1 24, Mv 24 4]
 .ret)))))))), lcF []⟩
def ks_cs9 : List (List (Option Nat)) := [[none]]
def gf_cs9 (a0 : Feat) (a1 : Int) : Option Int := if (decide ((IntKind.i64.wrap (a1 - (a0.id.size : Int))) < 0)) = true then (some ((-1))) else ((gf_cx9 a0.shape (IntKind.i64.wrap (a1 - (a0.id.size : Int)))).bind fun x2 => if (decide (x2 < 0)) = true then (some ((-1))) else ((gf_cz9 a0.tags x2).bind fun x4 => if (decide (x4 < 0)) = true then (some ((-1))) else (some (x4))))
def c_cs9 : Con := ⟨Feat × Int, Int, 5, fun a => [.agg [.v (.string a.1.id), .v (.int .i64 a.1.shape.kind), .ro (List.map ePt a.1.shape.pts), .ro (List.map eTag a.1.tags)], .v (.int .i64 a.2)], fun a => gf_cs9 a.1 a.2, fun a r => ⟨[(false, [.v (.int .i64 r)])], []⟩, fun a => []⟩
/-! laws.szIntS -/
def if_cv9 : IFn := ⟨12, [.inl 4],
 (Rs [Ki 0 4]
 (Rs (sq 5 [Mv 1, Mv 0, Ln 6, Bb .sub 5 7] [Mv 8 1])
 (.seq (Rs (sq 9 [Mv 1, Bk .lss 9 0] [])
 (Ct 10 (Rs [Ki (-1) 4]
 .ret)
 .skip))
 (Rs [Mv 1 11, Mv 11 4]
 .ret)))), lcF []⟩
def ks_cv9 : List (List (Option Nat)) := [[none]]
def gf_cv9 (a0 : (List Int)) (a1 : Int) : Option Int := if (decide ((IntKind.i64.wrap (a1 - (a0.length : Int))) < 0)) = true then (some ((-1))) else (some ((IntKind.i64.wrap (a1 - (a0.length : Int)))))
def c_cv9 : Con := ⟨(List Int) × Int, Int, 6, fun a => [.ro (List.map eInt a.1), .v (.int .i64 a.2)], fun a => gf_cv9 a.1 a.2, fun a r => ⟨[(false, [.v (.int .i64 r)])], []⟩, fun a => []⟩
/-! laws.szHead -/
def if_ct9 : IFn := ⟨13, [.inl 4],
 (Rs [Io (.box 402 [none, none] (.t 0)) 2, Ki 0 4]
 (Rs (sq 5 [Mv 1, Fa 0 2, Ld 1 6, Ls 7, Bb .sub 5 8] [Mv 9 1])
 (.seq (Rs (sq 10 [Mv 1, Bk .lss 10 0] [])
 (Ct 11 (Rs [Ki (-1) 4]
 .ret)
 .skip))
 (Rs [Mv 1 12, Mv 12 4]
 .ret)))), lcF []⟩
def ks_ct9 : List (List (Option Nat)) := [[none]]
def gf_ct9 (a0 : Head) (a1 : Int) : Option Int := if (decide ((IntKind.i64.wrap (a1 - (a0.name.size : Int))) < 0)) = true then (some ((-1))) else (some ((IntKind.i64.wrap (a1 - (a0.name.size : Int)))))
def c_ct9 : Con := ⟨Head × Int, Int, 9, fun a => [.agg [.v (.string a.1.name), .v (.int .i64 a.1.at_)], .v (.int .i64 a.2)], fun a => gf_ct9 a.1 a.2, fun a r => ⟨[(false, [.v (.int .i64 r)])], []⟩, fun a => []⟩
/-! laws.szHeadS -/
def if_cu9 : IFn := ⟨27, [.inl 4],
 (Rs [Ki 0 4]
 (Rs (sq 6 [Mv 1, Mv 0, Ln 7, Bb .sub 6 8] [Mv 9 1])
 (.seq (Rs (sq 10 [Mv 1, Bk .lss 10 0] [])
 (Ct 11 (Rs [Ki (-1) 4]
 .ret)
 .skip))
 (.seq (Rs [Ki 0 5]
 (blkC 0 (.loop (.seq (Rs (sq 12 [Mv 5, Mv 0, Ln 13, Bb .lss 12 14] [])
 (Ct 15 .skip
 (.exit 0)))
 (.seq (.block 1 (Rs (sq 18 [Mv 0, Mv 5, Ia 2 18 19, La 2 20, Mv 1, Ca 9 [21, 22]] [Mv 23 1])
 (Rs (sq 24 [Mv 1, Bk .lss 24 0] [])
 (Ct 25 (Rs [Ki (-1) 4]
 .ret)
 .skip))))
 (.reg (sq 16 [Mv 5, Bk .add 16 1] [Mv 17 5])))))))
 (Rs [Mv 1 26, Mv 26 4]
 .ret))))), lcF []⟩
def ks_cu9 : List (List (Option Nat)) := [[none]]
def gl_cu9_1 : List Head → Nat → Int → Option (Int ⊕ Int)
 | [], k18, v16 => some (.inr v16)
 | x19 :: l20, k18, v16 => (gf_ct9 x19 v16).bind fun x27 => if (decide (x27 < 0)) = true then (some (.inl ((-1)))) else (gl_cu9_1 l20 (k18 + 1) x27)
def gf_cu9 (a0 : (List Head)) (a1 : Int) : Option Int := if (decide ((IntKind.i64.wrap (a1 - (a0.length : Int))) < 0)) = true then (some ((-1))) else (if fits a0.length = true then ((gl_cu9_1 a0 0 (IntKind.i64.wrap (a1 - (a0.length : Int)))).bind fun q => match q with | .inl r => some r | .inr q15 => some (q15)) else none)
def c_cu9 : Con := ⟨(List Head) × Int, Int, 11, fun a => [.ro (List.map eHead a.1), .v (.int .i64 a.2)], fun a => gf_cu9 a.1 a.2, fun a r => ⟨[(false, [.v (.int .i64 r)])], []⟩, fun a => []⟩
/-! spec.l1Num -/
def if_ep9 : IFn := ⟨9, [.inl 2],
 (Rs [Kb false 2]
 (Rs (sq 3 [Mv 0, Bk .geq 3 (-1000), Mv 4] (Sg 5 6 [Mv 0, Bk .leq 6 1000] [Pf 5 7 8, Mv 8 2]))
 .ret)), lcF []⟩
def ks_ep9 : List (List (Option Nat)) := [[none]]
def gf_ep9 (a0 : Int) : Option Bool := if (decide (a0 ≥ (-1000))) = true then (some ((decide (a0 ≤ 1000)))) else (some (false))
def c_ep9 : Con := ⟨Int, Bool, 12, fun a => [.v (.int .i64 a)], fun a => gf_ep9 a, fun a r => ⟨[(false, [.v (.bool r)])], []⟩, fun a => []⟩
/-! spec.l1Pts -/
def if_eq9 : IFn := ⟨45, [.inl 2],
 (Rs [Kb false 2]
 (.seq (Rs [Ki 0 3]
 (blkC 0 (.loop (.seq (Rs (sq 4 [Mv 3, Mv 0, Ln 5, Bb .lss 4 6] [])
 (Ct 7 .skip
 (.exit 0)))
 (.seq (.block 1 (.seq (.drw (sq 10 [Mv 0, Mv 3, Ia 2 10 11, Fa 0 12, Ld 1 13, Ca 12 [14], Nt 15, Mv 16] (Sf 17 18 [Mv 0, Mv 3, Ia 2 18 19, Fa 1 20, Ld 1 21, Ca 12 [22], Nt 23] (sq 25 [Pk 17 24, Mv 25] (Sf 26 27 [Mv 3, Bk .gtr 27 0, Mv 28] (Sg 29 30 [Mv 0, Mv 3, Ia 2 30 31, La 2 32, Mv 0, Mv 3, Bk .sub 35 1, Ia 2 34 36, La 2 37, Io (.eqs false true [0, 0] (.t 33) (.t 38))] [Gf 26 (Pf 29 39 40), Pk 26 40 41]))))) [(23, 28)])
 (Ct 41 (Rs [Kb false 2]
 .ret)
 .skip)))
 (.reg (sq 8 [Mv 3, Bk .add 8 1] [Mv 9 3])))))))
 (Rs (sq 42 [Mv 0, Ln 42, Bk .leq 43 6] [Mv 44 2])
 .ret))), lcF []⟩
def ks_eq9 : List (List (Option Nat)) := [[none]]
def gl_eq9_1 (a0 : (List Pt)) : List Pt → Nat → Option (Bool ⊕ Unit)
 | [], k26 => some (.inr ())
 | x27 :: l28, k26 => (gf_ep9 x27.x).bind fun x35 => if (!x35) = true then (some (.inl (false))) else ((gf_ep9 x27.y).bind fun x37 => if (!x37) = true then (some (.inl (false))) else (if (decide ((k26 : Int) > 0)) = true then ((idx a0 (IntKind.i64.wrap ((k26 : Int) - 1))).bind fun x39 => if ((x27.x == x39.x) && ((x27.y == x39.y) && true)) = true then (some (.inl (false))) else (gl_eq9_1 a0 l28 (k26 + 1) )) else (gl_eq9_1 a0 l28 (k26 + 1) )))
def gf_eq9 (a0 : (List Pt)) : Option Bool := if fits a0.length = true then ((gl_eq9_1 a0 a0 0 ).bind fun q => match q with | .inl r => some r | .inr q24 => some ((decide ((a0.length : Int) ≤ 6)))) else none
def c_eq9 : Con := ⟨(List Pt), Bool, 13, fun a => [.ro (List.map ePt a)], fun a => gf_eq9 a, fun a r => ⟨[(false, [.v (.bool r)])], []⟩, fun a => []⟩
/-! spec.WordOk -/
def if_en9 : IFn := ⟨28, [.inl 2],
 (Rs [Kb false 2]
 (.seq (Rs [Ki 0 3]
 (blkC 0 (.loop (.seq (Rs (sq 4 [Mv 3, Mv 0, Ls 5, Bb .lss 4 6] [])
 (Ct 7 .skip
 (.exit 0)))
 (.seq (.block 1 (Rs (sq 10 [Mv 0, Mv 3, Si 10 11, Io (.bin .lss (.t 12) (.c (.int .u8 97))), Mv 13] (Sf 14 15 [Mv 0, Mv 3, Si 15 16, Io (.bin .gtr (.t 17) (.c (.int .u8 122)))] [Pk 14 18 19]))
 (Ct 19 (Rs [Kb false 2]
 .ret)
 .skip)))
 (.reg (sq 8 [Mv 3, Bk .add 8 1] [Mv 9 3])))))))
 (Rs (sq 20 [Mv 0, Ls 20, Bk .geq 21 1, Mv 22] (Sg 23 24 [Mv 0, Ls 24, Bk .leq 25 6] [Pf 23 26 27, Mv 27 2]))
 .ret))), lcF []⟩
def ks_en9 : List (List (Option Nat)) := [[none]]
def gl_en9_1 : List UInt8 → Nat → Option (Bool ⊕ Unit)
 | [], k10 => some (.inr ())
 | x11 :: l12, k10 => if (decide ((x11.toNat : Int) < 97)) = true then (some (.inl (false))) else (if (decide ((x11.toNat : Int) > 122)) = true then (some (.inl (false))) else (gl_en9_1 l12 (k10 + 1) ))
def gf_en9 (a0 : Str) : Option Bool := if fits a0.size = true then ((gl_en9_1 a0.data.toList 0 ).bind fun q => match q with | .inl r => some r | .inr q8 => if (decide ((a0.size : Int) ≥ 1)) = true then (some ((decide ((a0.size : Int) ≤ 6)))) else (some (false))) else none
def c_en9 : Con := ⟨Str, Bool, 14, fun a => [.v (.string a)], fun a => gf_en9 a, fun a r => ⟨[(false, [.v (.bool r)])], []⟩, fun a => []⟩
/-! spec.ShapeOk -/
def if_ej9 : IFn := ⟨38, [.inl 2],
 (Rs (sq 1 [Io (.box 226 [none, some 66] (.t 0)), Kb false] [])
 (Rs (sq 4 [Fa 1 1, Ld 1 4, Ln 5] [Mv 6 3])
 (.seq (Rs (sq 7 [Fa 1 1, Ld 1 7, Ca 13 [8], Nt 9] [])
 (Ct 10 (Rs [Kb false 2]
 .ret)
 .skip))
 (.seq (Rs (sq 11 [Fa 0 1, Ld 1 11] [])
 (.block 0 (Rs [Bk .eql 12 1 14, Mv 14 13]
 (Ct 13 (Rs (sq 15 [Mv 3, Bk .eql 15 1] [Mv 16 2])
 .ret)
 (Rs [Bk .eql 12 2 18, Mv 18 17]
 (Ct 17 (Rs (sq 19 [Mv 3, Bk .geq 19 2] [Mv 20 2])
 .ret)
 (Rs [Bk .eql 12 3 22, Mv 22 21]
 (Ct 21 (.seq (.drw (sq 23 [Mv 3, Bk .geq 23 3, Mv 24] (Sg 25 26 [Fa 1 1, Ld 1 26, Ik 2 27 0, La 2 28, Fa 1 1, Ld 1 30, Mv 3, Bk .sub 32 1, Ia 2 31 33, La 2 34, Io (.eqs true true [0, 0] (.t 29) (.t 35))] [Pf 25 36 37, Mv 37 2])) [(4, 8), (6, 8), (4, 12), (6, 12)])
 .ret)
 .skip))))))))
 (Rs [Kb false 2]
 .ret))))), lcF []⟩
def ks_ej9 : List (List (Option Nat)) := [[none]]
def gf_ej9 (a0 : Shape) : Option Bool := (gf_eq9 a0.pts).bind fun x2 => if (!x2) = true then (some (false)) else (if (a0.kind == 1) = true then (some (((a0.pts.length : Int) == 1))) else (if (a0.kind == 2) = true then (some ((decide ((a0.pts.length : Int) ≥ 2)))) else (if (a0.kind == 3) = true then (if (decide ((a0.pts.length : Int) ≥ 3)) = true then ((idx a0.pts 0).bind fun x4 => (idx a0.pts (IntKind.i64.wrap ((a0.pts.length : Int) - 1))).bind fun x6 => some ((!((x4.x == x6.x) && ((x4.y == x6.y) && true))))) else (some (false))) else (some (false)))))
def c_ej9 : Con := ⟨Shape, Bool, 15, fun a => [.agg [.v (.int .i64 a.kind), .ro (List.map ePt a.pts)]], fun a => gf_ej9 a, fun a r => ⟨[(false, [.v (.bool r)])], []⟩, fun a => []⟩
/-! spec.l2Tags -/
def if_eu9 : IFn := ⟨47, [.inl 2],
 (Rs [Kb false 2]
 (.seq (Rs [Ki 0 3]
 (blkC 0 (.loop (.seq (Rs (sq 4 [Mv 3, Mv 0, Ln 5, Bb .lss 4 6] [])
 (Ct 7 .skip
 (.exit 0)))
 (.seq (.block 1 (.seq (.drw (sq 10 [Mv 0, Mv 3, Ia 2 10 11, Fa 0 12, Ld 1 13, Ca 14 [14], Nt 15, Mv 16] (Sf 17 18 [Mv 0, Mv 3, Ia 2 18 19, Fa 1 20, Ld 1 21, Ca 14 [22], Nt 23] (sq 25 [Pk 17 24, Mv 25] (Sf 26 27 [Mv 3, Bk .gtr 27 0, Mv 28] (Sg 29 30 [Mv 0, Mv 3, Ia 2 30 31, Fa 0 32, Ld 1 33, Mv 0, Mv 3, Bk .sub 36 1, Ia 2 35 37, Fa 0 38, Ld 1 39, Bb .leq 34 40] [Gf 26 (Pf 29 41 42), Pk 26 42 43]))))) [(24, 30)])
 (Ct 43 (Rs [Kb false 2]
 .ret)
 .skip)))
 (.reg (sq 8 [Mv 3, Bk .add 8 1] [Mv 9 3])))))))
 (Rs (sq 44 [Mv 0, Ln 44, Bk .leq 45 4] [Mv 46 2])
 .ret))), lcF []⟩
def ks_eu9 : List (List (Option Nat)) := [[none]]
def gl_eu9_1 (a0 : (List Tag)) : List Tag → Nat → Option (Bool ⊕ Unit)
 | [], k26 => some (.inr ())
 | x27 :: l28, k26 => (gf_en9 x27.key).bind fun x35 => if (!x35) = true then (some (.inl (false))) else ((gf_en9 x27.val).bind fun x37 => if (!x37) = true then (some (.inl (false))) else (if (decide ((k26 : Int) > 0)) = true then ((idx a0 (IntKind.i64.wrap ((k26 : Int) - 1))).bind fun x39 => if (slt x27.key x39.key || seq x27.key x39.key) = true then (some (.inl (false))) else (gl_eu9_1 a0 l28 (k26 + 1) )) else (gl_eu9_1 a0 l28 (k26 + 1) )))
def gf_eu9 (a0 : (List Tag)) : Option Bool := if fits a0.length = true then ((gl_eu9_1 a0 a0 0 ).bind fun q => match q with | .inl r => some r | .inr q24 => some ((decide ((a0.length : Int) ≤ 4)))) else none
def c_eu9 : Con := ⟨(List Tag), Bool, 16, fun a => [.ro (List.map eTag a)], fun a => gf_eu9 a, fun a r => ⟨[(false, [.v (.bool r)])], []⟩, fun a => []⟩
/-! spec.FeatOk -/
def if_ef9 : IFn := ⟨16, [.inl 2],
 (Rs (sq 1 [Io (.box 100 [none, none, some 66, some 82] (.t 0)), Kb false] [])
 (Rs (sq 3 [Fa 0 1, Ld 1 3, Ca 14 [4], Mv 5] (Sg 6 7 [Fa 1 1, La 2 7, Ca 15 [8]] (sq 10 [Pf 6 9, Mv 10] (Sg 11 12 [Fa 3 1, Ld 1 12, Ca 16 [13]] [Pf 11 14 15, Mv 15 2]))))
 .ret)), lcF []⟩
def ks_ef9 : List (List (Option Nat)) := [[none]]
def gf_ef9 (a0 : Feat) : Option Bool := (gf_en9 a0.id).bind fun x2 => if x2 = true then ((gf_ej9 a0.shape).bind fun x4 => if x4 = true then ((gf_eu9 a0.tags).bind fun x6 => some (x6)) else (some (false))) else (some (false))
def c_ef9 : Con := ⟨Feat, Bool, 17, fun a => [.agg [.v (.string a.id), .v (.int .i64 a.shape.kind), .ro (List.map ePt a.shape.pts), .ro (List.map eTag a.tags)]], fun a => gf_ef9 a, fun a r => ⟨[(false, [.v (.bool r)])], []⟩, fun a => []⟩
/-! spec.l1Same -/
def if_er9 : IFn := ⟨26, [.inl 4],
 (Rs [Kb false 4]
 (.seq (Rs (sq 6 [Mv 0, Ln 6, Mv 1, Ln 8, Bb .neq 7 9] [])
 (Ct 10 (Rs [Kb false 4]
 .ret)
 .skip))
 (.seq (Rs [Ki 0 5]
 (blkC 0 (.loop (.seq (Rs (sq 11 [Mv 5, Mv 0, Ln 12, Bb .lss 11 13] [])
 (Ct 14 .skip
 (.exit 0)))
 (.seq (.block 1 (.seq (.drw (sq 17 [Mv 0, Mv 5, Ia 2 17 18, La 2 19, Mv 1, Mv 5, Ia 2 21 22, La 2 23, Io (.eqs true true [0, 0] (.t 20) (.t 24))] []) [(3, 7)])
 (Ct 25 (Rs [Kb false 4]
 .ret)
 .skip)))
 (.reg (sq 15 [Mv 5, Bk .add 15 1] [Mv 16 5])))))))
 (Rs [Kb true 4]
 .ret)))), lcF []⟩
def ks_er9 : List (List (Option Nat)) := [[none]]
def gl_er9_1 (a1 : (List Pt)) : List Pt → Nat → Option (Bool ⊕ Unit)
 | [], k16 => some (.inr ())
 | x17 :: l18, k16 => (idx a1 (k16 : Int)).bind fun x25 => if (!((x17.x == x25.x) && ((x17.y == x25.y) && true))) = true then (some (.inl (false))) else (gl_er9_1 a1 l18 (k16 + 1) )
def gf_er9 (a0 : (List Pt)) (a1 : (List Pt)) : Option Bool := if ((a0.length : Int) != (a1.length : Int)) = true then (some (false)) else (if fits a0.length = true then ((gl_er9_1 a1 a0 0 ).bind fun q => match q with | .inl r => some r | .inr q14 => some (true)) else none)
def c_er9 : Con := ⟨(List Pt) × (List Pt), Bool, 18, fun a => [.ro (List.map ePt a.1), .ro (List.map ePt a.2)], fun a => gf_er9 a.1 a.2, fun a r => ⟨[(false, [.v (.bool r)])], []⟩, fun a => []⟩
/-! spec.ShapeSame -/
def if_ek9 : IFn := ⟨17, [.inl 4],
 (Rs (sq 2 [Io (.box 226 [none, some 66] (.t 0)), Io (.box 226 [none, some 66] (.t 1)), Kb false] [])
 (Rs (sq 5 [Fa 0 2, Ld 1 5, Fa 0 3, Ld 1 7, Bb .eql 6 8, Mv 9] (Sg 10 11 [Fa 1 2, Ld 1 11, Fa 1 3, Ld 1 13, Ca 18 [12, 14]] [Pf 10 15 16, Mv 16 4]))
 .ret)), lcF []⟩
def ks_ek9 : List (List (Option Nat)) := [[none]]
def gf_ek9 (a0 : Shape) (a1 : Shape) : Option Bool := if (a0.kind == a1.kind) = true then ((gf_er9 a0.pts a1.pts).bind fun x3 => some (x3)) else (some (false))
def c_ek9 : Con := ⟨Shape × Shape, Bool, 19, fun a => [.agg [.v (.int .i64 a.1.kind), .ro (List.map ePt a.1.pts)], .agg [.v (.int .i64 a.2.kind), .ro (List.map ePt a.2.pts)]], fun a => gf_ek9 a.1 a.2, fun a r => ⟨[(false, [.v (.bool r)])], []⟩, fun a => []⟩
/-! spec.l2Same -/
def if_et9 : IFn := ⟨26, [.inl 4],
 (Rs [Kb false 4]
 (.seq (Rs (sq 6 [Mv 0, Ln 6, Mv 1, Ln 8, Bb .neq 7 9] [])
 (Ct 10 (Rs [Kb false 4]
 .ret)
 .skip))
 (.seq (Rs [Ki 0 5]
 (blkC 0 (.loop (.seq (Rs (sq 11 [Mv 5, Mv 0, Ln 12, Bb .lss 11 13] [])
 (Ct 14 .skip
 (.exit 0)))
 (.seq (.block 1 (.seq (.drw (sq 17 [Mv 0, Mv 5, Ia 2 17 18, La 2 19, Mv 1, Mv 5, Ia 2 21 22, La 2 23, Io (.eqs true true [2, 2] (.t 20) (.t 24))] []) [(3, 7)])
 (Ct 25 (Rs [Kb false 4]
 .ret)
 .skip)))
 (.reg (sq 15 [Mv 5, Bk .add 15 1] [Mv 16 5])))))))
 (Rs [Kb true 4]
 .ret)))), lcF []⟩
def ks_et9 : List (List (Option Nat)) := [[none]]
def gl_et9_1 (a1 : (List Tag)) : List Tag → Nat → Option (Bool ⊕ Unit)
 | [], k16 => some (.inr ())
 | x17 :: l18, k16 => (idx a1 (k16 : Int)).bind fun x25 => if (!((x17.key == x25.key) && ((x17.val == x25.val) && true))) = true then (some (.inl (false))) else (gl_et9_1 a1 l18 (k16 + 1) )
def gf_et9 (a0 : (List Tag)) (a1 : (List Tag)) : Option Bool := if ((a0.length : Int) != (a1.length : Int)) = true then (some (false)) else (if fits a0.length = true then ((gl_et9_1 a1 a0 0 ).bind fun q => match q with | .inl r => some r | .inr q14 => some (true)) else none)
def c_et9 : Con := ⟨(List Tag) × (List Tag), Bool, 20, fun a => [.ro (List.map eTag a.1), .ro (List.map eTag a.2)], fun a => gf_et9 a.1 a.2, fun a r => ⟨[(false, [.v (.bool r)])], []⟩, fun a => []⟩
/-! spec.FeatSame -/
def if_eg9 : IFn := ⟨24, [.inl 4],
 (Rs (sq 2 [Io (.box 100 [none, none, some 66, some 82] (.t 0)), Io (.box 100 [none, none, some 66, some 82] (.t 1)), Kb false] [])
 (Rs (sq 5 [Fa 0 2, Ld 1 5, Fa 0 3, Ld 1 7, Bb .eql 6 8, Mv 9] (Sg 10 11 [Fa 1 2, La 2 11, Fa 1 3, La 2 13, Ca 19 [12, 14]] (sq 16 [Pf 10 15, Mv 16] (Sg 17 18 [Fa 3 2, Ld 1 18, Fa 3 3, Ld 1 20, Ca 20 [19, 21]] [Pf 17 22 23, Mv 23 4]))))
 .ret)), lcF []⟩
def ks_eg9 : List (List (Option Nat)) := [[none]]
def gf_eg9 (a0 : Feat) (a1 : Feat) : Option Bool := if (seq a0.id a1.id) = true then ((gf_ek9 a0.shape a1.shape).bind fun x3 => if x3 = true then ((gf_et9 a0.tags a1.tags).bind fun x5 => some (x5)) else (some (false))) else (some (false))
def c_eg9 : Con := ⟨Feat × Feat, Bool, 21, fun a => [.agg [.v (.string a.1.id), .v (.int .i64 a.1.shape.kind), .ro (List.map ePt a.1.shape.pts), .ro (List.map eTag a.1.tags)], .agg [.v (.string a.2.id), .v (.int .i64 a.2.shape.kind), .ro (List.map ePt a.2.shape.pts), .ro (List.map eTag a.2.tags)]], fun a => gf_eg9 a.1 a.2, fun a r => ⟨[(false, [.v (.bool r)])], []⟩, fun a => []⟩
/-! spec.l7Ints -/
def if_fe9 : IFn := ⟨26, [.inl 4],
 (Rs [Kb false 4]
 (.seq (Rs (sq 6 [Mv 0, Ln 6, Mv 1, Ln 8, Bb .neq 7 9] [])
 (Ct 10 (Rs [Kb false 4]
 .ret)
 .skip))
 (.seq (Rs [Ki 0 5]
 (blkC 0 (.loop (.seq (Rs (sq 11 [Mv 5, Mv 0, Ln 12, Bb .lss 11 13] [])
 (Ct 14 .skip
 (.exit 0)))
 (.seq (.block 1 (.seq (.drw (sq 17 [Mv 0, Mv 5, Ia 1 17 18, Ld 1 19, Mv 1, Mv 5, Ia 1 21 22, Ld 1 23, Bb .neq 20 24] []) [(3, 7)])
 (Ct 25 (Rs [Kb false 4]
 .ret)
 .skip)))
 (.reg (sq 15 [Mv 5, Bk .add 15 1] [Mv 16 5])))))))
 (Rs [Kb true 4]
 .ret)))), lcF []⟩
def ks_fe9 : List (List (Option Nat)) := [[none]]
def gl_fe9_1 (a1 : (List Int)) : List Int → Nat → Option (Bool ⊕ Unit)
 | [], k16 => some (.inr ())
 | x17 :: l18, k16 => (idx a1 (k16 : Int)).bind fun x25 => if (x17 != x25) = true then (some (.inl (false))) else (gl_fe9_1 a1 l18 (k16 + 1) )
def gf_fe9 (a0 : (List Int)) (a1 : (List Int)) : Option Bool := if ((a0.length : Int) != (a1.length : Int)) = true then (some (false)) else (if fits a0.length = true then ((gl_fe9_1 a1 a0 0 ).bind fun q => match q with | .inl r => some r | .inr q14 => some (true)) else none)
def c_fe9 : Con := ⟨(List Int) × (List Int), Bool, 22, fun a => [.ro (List.map eInt a.1), .ro (List.map eInt a.2)], fun a => gf_fe9 a.1 a.2, fun a r => ⟨[(false, [.v (.bool r)])], []⟩, fun a => []⟩
/-! spec.SheetSame -/
def if_em9 : IFn := ⟨27, [.inl 4],
 (Rs [Kb false 4]
 (.seq (Rs (sq 6 [Mv 0, Ln 6, Mv 1, Ln 8, Bb .neq 7 9] [])
 (Ct 10 (Rs [Kb false 4]
 .ret)
 .skip))
 (.seq (Rs [Ki 0 5]
 (blkC 0 (.loop (.seq (Rs (sq 11 [Mv 5, Mv 0, Ln 12, Bb .lss 11 13] [])
 (Ct 14 .skip
 (.exit 0)))
 (.seq (.block 1 (.seq (.drw (sq 17 [Mv 0, Mv 5, Ia 4 17 18, La 4 19, Mv 1, Mv 5, Ia 4 21 22, La 4 23, Ca 21 [20, 24], Nt 25] []) [(3, 7)])
 (Ct 26 (Rs [Kb false 4]
 .ret)
 .skip)))
 (.reg (sq 15 [Mv 5, Bk .add 15 1] [Mv 16 5])))))))
 (Rs [Kb true 4]
 .ret)))), lcF []⟩
def ks_em9 : List (List (Option Nat)) := [[none]]
def gl_em9_1 (a1 : (List Feat)) : List Feat → Nat → Option (Bool ⊕ Unit)
 | [], k22 => some (.inr ())
 | x23 :: l24, k22 => (idx a1 (k22 : Int)).bind fun x31 => (gf_eg9 x23 x31).bind fun x33 => if (!x33) = true then (some (.inl (false))) else (gl_em9_1 a1 l24 (k22 + 1) )
def gf_em9 (a0 : (List Feat)) (a1 : (List Feat)) : Option Bool := if ((a0.length : Int) != (a1.length : Int)) = true then (some (false)) else (if fits a0.length = true then ((gl_em9_1 a1 a0 0 ).bind fun q => match q with | .inl r => some r | .inr q20 => some (true)) else none)
def c_em9 : Con := ⟨(List Feat) × (List Feat), Bool, 23, fun a => [.ro (List.map (eFeat false) a.1), .ro (List.map (eFeat false) a.2)], fun a => gf_em9 a.1 a.2, fun a r => ⟨[(false, [.v (.bool r)])], []⟩, fun a => []⟩
/-! spec.l7Same -/
def if_ff9 : IFn := ⟨24, [.inl 4],
 (Rs (sq 2 [Io (.box 115 [some 17, some 100, none] (.t 0)), Io (.box 115 [some 17, some 100, none] (.t 1)), Kb false] [])
 (Rs (sq 5 [Fa 0 2, Ld 1 5, Fa 0 3, Ld 1 7, Ca 22 [6, 8], Mv 9] (Sg 10 11 [Fa 1 2, Ld 1 11, Fa 1 3, Ld 1 13, Ca 23 [12, 14]] (sq 16 [Pf 10 15, Mv 16] (Sg 17 18 [Fa 2 2, Ld 1 18, Fa 2 3, Ld 1 20, Bb .eql 19 21] [Pf 17 22 23, Mv 23 4]))))
 .ret)), lcF []⟩
def ks_ff9 : List (List (Option Nat)) := [[none]]
def gf_ff9 (a0 : Commit) (a1 : Commit) : Option Bool := (gf_fe9 a0.up a1.up).bind fun x3 => if x3 = true then ((gf_em9 a0.sheet a1.sheet).bind fun x5 => if x5 = true then (some ((seq a0.note a1.note))) else (some (false))) else (some (false))
def c_ff9 : Con := ⟨Commit × Commit, Bool, 24, fun a => [.agg [.ro (List.map eInt a.1.up), .ro (List.map (eFeat false) a.1.sheet), .v (.string a.1.note)], .agg [.ro (List.map eInt a.2.up), .ro (List.map (eFeat false) a.2.sheet), .v (.string a.2.note)]], fun a => gf_ff9 a.1 a.2, fun a r => ⟨[(false, [.v (.bool r)])], []⟩, fun a => []⟩
/-! spec.l7Up -/
def if_fg9 : IFn := ⟨50, [.inl 4],
 (Rs [Kb false 4]
 (.seq (Rs [Ki 0 5]
 (blkC 0 (.loop (.seq (Rs (sq 6 [Mv 5, Mv 0, Ln 7, Bb .lss 6 8] [])
 (Ct 9 .skip
 (.exit 0)))
 (.seq (.block 1 (Rs (sq 12 [Mv 0, Mv 5, Ia 1 12 13, Ld 1 14, Bk .lss 15 0, Mv 16] (Sf 17 18 [Mv 0, Mv 5, Ia 1 18 19, Ld 1 20, Mv 1, Bb .geq 21 22] [Pk 17 23 24]))
 (Ct 24 (Rs [Kb false 4]
 .ret)
 .skip)))
 (.reg (sq 10 [Mv 5, Bk .add 10 1] [Mv 11 5])))))))
 (.seq (.drw (sq 25 [Mv 0, Ln 25, Bk .leq 26 2, Mv 27] (Sg 28 29 [Mv 0, Ln 29, Bk .gtr 30 0, Mv 1, Bk .gtr 32 0, Io (.eqs false false [1] (.t 31) (.t 33))] (sq 35 [Pf 28 34, Mv 35] (Sg 36 37 [Mv 0, Ln 37, Bk .lss 38 2, Mv 39] (Sf 40 41 [Mv 0, Ik 1 41 0, Ld 1 42, Mv 0, Ik 1 44 1, Ld 1 45, Bb .neq 43 46] [Gt 36 (Pk 40 47 48), Pf 36 48 49, Mv 49 4]))))) [(18, 21)])
 .ret))), lcF []⟩
def ks_fg9 : List (List (Option Nat)) := [[none]]
def gl_fg9_1 (a1 : Int) : List Int → Nat → Option (Bool ⊕ Unit)
 | [], k10 => some (.inr ())
 | x11 :: l12, k10 => if (decide (x11 < 0)) = true then (some (.inl (false))) else (if (decide (x11 ≥ a1)) = true then (some (.inl (false))) else (gl_fg9_1 a1 l12 (k10 + 1) ))
def gf_fg9 (a0 : (List Int)) (a1 : Int) : Option Bool := if fits a0.length = true then ((gl_fg9_1 a1 a0 0 ).bind fun q => match q with | .inl r => some r | .inr q8 => if (decide ((a0.length : Int) ≤ 2)) = true then (if ((decide ((a0.length : Int) > 0)) == (decide (a1 > 0))) = true then (if (decide ((a0.length : Int) < 2)) = true then (some (true)) else ((idx a0 0).bind fun x19 => (idx a0 1).bind fun x21 => some ((x19 != x21)))) else (some (false))) else (some (false))) else none
def c_fg9 : Con := ⟨(List Int) × Int, Bool, 25, fun a => [.ro (List.map eInt a.1), .v (.int .i64 a.2)], fun a => gf_fg9 a.1 a.2, fun a r => ⟨[(false, [.v (.bool r)])], []⟩, fun a => []⟩
/-! spec.SheetOk -/
def if_el9 : IFn := ⟨37, [.inl 2],
 (Rs [Kb false 2]
 (.seq (Rs [Ki 0 3]
 (blkC 0 (.loop (.seq (Rs (sq 4 [Mv 3, Mv 0, Ln 5, Bb .lss 4 6] [])
 (Ct 7 .skip
 (.exit 0)))
 (.seq (.block 1 (.seq (.drw (sq 10 [Mv 0, Mv 3, Ia 4 10 11, La 4 12, Ca 17 [13], Nt 14, Mv 15] (Sf 16 17 [Mv 3, Bk .gtr 17 0, Mv 18] (Sg 19 20 [Mv 0, Mv 3, Ia 4 20 21, Fa 0 22, Ld 1 23, Mv 0, Mv 3, Bk .sub 26 1, Ia 4 25 27, Fa 0 28, Ld 1 29, Bb .leq 24 30] [Gf 16 (Pf 19 31 32), Pk 16 32 33]))) [(14, 20)])
 (Ct 33 (Rs [Kb false 2]
 .ret)
 .skip)))
 (.reg (sq 8 [Mv 3, Bk .add 8 1] [Mv 9 3])))))))
 (Rs (sq 34 [Mv 0, Ln 34, Bk .leq 35 8] [Mv 36 2])
 .ret))), lcF []⟩
def ks_el9 : List (List (Option Nat)) := [[none]]
def gl_el9_1 (a0 : (List Feat)) : List Feat → Nat → Option (Bool ⊕ Unit)
 | [], k20 => some (.inr ())
 | x21 :: l22, k20 => (gf_ef9 x21).bind fun x29 => if (!x29) = true then (some (.inl (false))) else (if (decide ((k20 : Int) > 0)) = true then ((idx a0 (IntKind.i64.wrap ((k20 : Int) - 1))).bind fun x31 => if (slt x21.id x31.id || seq x21.id x31.id) = true then (some (.inl (false))) else (gl_el9_1 a0 l22 (k20 + 1) )) else (gl_el9_1 a0 l22 (k20 + 1) ))
def gf_el9 (a0 : (List Feat)) : Option Bool := if fits a0.length = true then ((gl_el9_1 a0 a0 0 ).bind fun q => match q with | .inl r => some r | .inr q18 => some ((decide ((a0.length : Int) ≤ 8)))) else none
def c_el9 : Con := ⟨(List Feat), Bool, 26, fun a => [.ro (List.map (eFeat false) a)], fun a => gf_el9 a, fun a r => ⟨[(false, [.v (.bool r)])], []⟩, fun a => []⟩
/-! spec.l7Find -/
def if_fc9 : IFn := ⟨21, [.inl 4],
 (Rs (sq 2 [Io (.box 210 [some 115, some 130] (.t 0)), Io (.box 115 [some 17, some 100, none] (.t 1)), Ki 0] [])
 (.seq (Rs [Ki 0 5]
 (blkC 0 (.loop (.seq (Rs (sq 6 [Mv 5, Fa 0 2, Ld 1 7, Ln 8, Bb .lss 6 9] [])
 (Ct 10 .skip
 (.exit 0)))
 (.seq (.block 1 (.seq (.drw (sq 13 [Fa 0 2, Ld 1 13, Mv 5, Ia 3 14 15, La 3 16, La 3 3, Ca 24 [17, 18]] []) [(1, 5), (4, 5)])
 (Ct 19 (Rs [Mv 5 20, Mv 20 4]
 .ret)
 .skip)))
 (.reg (sq 11 [Mv 5, Bk .add 11 1] [Mv 12 5])))))))
 (Rs [Ki (-1) 4]
 .ret))), lcF []⟩
def ks_fc9 : List (List (Option Nat)) := [[none]]
def gl_fc9_1 (a1 : Commit) : List Commit → Nat → Option (Int ⊕ Unit)
 | [], k18 => some (.inr ())
 | x19 :: l20, k18 => (gf_ff9 x19 a1).bind fun x27 => if x27 = true then (some (.inl ((k18 : Int)))) else (gl_fc9_1 a1 l20 (k18 + 1) )
def gf_fc9 (a0 : Repo) (a1 : Commit) : Option Int := if fits a0.commits.length = true then ((gl_fc9_1 a1 a0.commits 0 ).bind fun q => match q with | .inl r => some r | .inr q16 => some ((-1))) else none
def c_fc9 : Con := ⟨Repo × Commit, Int, 27, fun a => [.agg [.ro (List.map (eCommit false) a.1.commits), .ro (List.map eHead a.1.heads)], .agg [.ro (List.map eInt a.2.up), .ro (List.map (eFeat false) a.2.sheet), .v (.string a.2.note)]], fun a => gf_fc9 a.1 a.2, fun a r => ⟨[(false, [.v (.int .i64 r)])], []⟩, fun a => []⟩
/-! spec.l7Head -/
def if_fd9 : IFn := ⟨22, [.inl 4],
 (Rs [Io (.box 210 [some 115, some 130] (.t 0)) 2, Ki 0 4]
 (.seq (Rs [Ki 0 5]
 (blkC 0 (.loop (.seq (Rs (sq 6 [Mv 5, Fa 1 2, Ld 1 7, Ln 8, Bb .lss 6 9] [])
 (Ct 10 .skip
 (.exit 0)))
 (.seq (.block 1 (Rs (sq 13 [Fa 1 2, Ld 1 13, Mv 5, Ia 2 14 15, Fa 0 16, Ld 1 17, Mv 1, Bb .eql 18 19] [])
 (Ct 20 (Rs [Mv 5 21, Mv 21 4]
 .ret)
 .skip)))
 (.reg (sq 11 [Mv 5, Bk .add 11 1] [Mv 12 5])))))))
 (Rs [Ki (-1) 4]
 .ret))), lcF []⟩
def ks_fd9 : List (List (Option Nat)) := [[none]]
def gl_fd9_1 (a1 : Str) : List Head → Nat → Option (Int ⊕ Unit)
 | [], k11 => some (.inr ())
 | x12 :: l13, k11 => if (seq x12.name a1) = true then (some (.inl ((k11 : Int)))) else (gl_fd9_1 a1 l13 (k11 + 1) )
def gf_fd9 (a0 : Repo) (a1 : Str) : Option Int := if fits a0.heads.length = true then ((gl_fd9_1 a1 a0.heads 0 ).bind fun q => match q with | .inl r => some r | .inr q9 => some ((-1))) else none
def c_fd9 : Con := ⟨Repo × Str, Int, 28, fun a => [.agg [.ro (List.map (eCommit false) a.1.commits), .ro (List.map eHead a.1.heads)], .v (.string a.2)], fun a => gf_fd9 a.1 a.2, fun a r => ⟨[(false, [.v (.int .i64 r)])], []⟩, fun a => []⟩
/-! spec.l1Copy -/
def if_eo9 : IFn := ⟨10, [.inr (2, 2)],
 (Rs (sq 1 [Io (.box 226 [none, some 66] (.t 0)), Io (.alloc 226 [.v (.int .i64 0), .sl true 66 []])] [])
 (.seq (.drw (sq 3 [Fa 0 1, Ld 1 3, Io (.lit 66 [none, none] [.v (.int .i64 0), .v (.int .i64 0)] 0 []), Fa 1 1, Ld 1 6, Io (.app 66 false (.t 5) (.t 7)), Io (.build [.v (.int .i64 0), .nil] [(0, 1, .t 4), (1, 1, .t 8)])] [Sv [none, some 66] 2 9]) [(1, 2), (1, 4), (2, 4), (1, 5)])
 .ret)), lcF []⟩
def ks_eo9 : List (List (Option Nat)) := [[none, some 66]]
def gf_eo9 (a0 : Shape) : Option Shape := if fits ([] ++ a0.pts).length = true then some ((⟨a0.kind, ([] ++ a0.pts)⟩ : Shape)) else none
def c_eo9 : Con := ⟨Shape, Shape, 29, fun a => [.agg [.v (.int .i64 a.kind), .ro (List.map ePt a.pts)]], fun a => gf_eo9 a, fun a r => ⟨[(true, eShape true r)], []⟩, fun a => []⟩
/-! spec.l2Copy -/
def if_es9 : IFn := ⟨13, [.inr (2, 4)],
 (Rs (sq 1 [Io (.box 100 [none, none, some 66, some 82] (.t 0)), Io (.alloc 100 [.v (.string ⟨#[]⟩), .v (.int .i64 0), .sl true 66 [], .sl true 82 []])] [])
 (.seq (.drw (sq 3 [Fa 0 1, Ld 1 3, Fa 1 1, La 2 5, Ca 29 [6], Io (.lit 82 [none, none] [.v (.string ⟨#[]⟩), .v (.string ⟨#[]⟩)] 0 []), Fa 3 1, Ld 1 9, Io (.app 82 false (.t 8) (.t 10)), Io (.build [.v (.string ⟨#[]⟩), .v (.int .i64 0), .nil, .nil] [(0, 1, .t 4), (1, 2, .t 7), (3, 1, .t 11)])] [Sv [none, none, some 66, some 82] 2 12]) [(1, 3), (1, 4), (1, 5), (3, 5), (4, 5), (1, 7), (3, 7), (4, 7), (5, 7), (1, 8)])
 .ret)), lcF []⟩
def ks_es9 : List (List (Option Nat)) := [[none, none, some 66, some 82]]
def gf_es9 (a0 : Feat) : Option Feat := (gf_eo9 a0.shape).bind fun x3 => if fits ([] ++ a0.tags).length = true then some ((⟨a0.id, x3, ([] ++ a0.tags)⟩ : Feat)) else none
def c_es9 : Con := ⟨Feat, Feat, 30, fun a => [.agg [.v (.string a.id), .v (.int .i64 a.shape.kind), .ro (List.map ePt a.shape.pts), .ro (List.map eTag a.tags)]], fun a => gf_es9 a, fun a r => ⟨[(true, eFeat true r)], []⟩, fun a => []⟩
/-! spec.l3Copy -/
def if_ev9 : IFn := ⟨21, [.inl 2],
 (Rs [Io (.mv (.c (.slice none 0 0))) 2]
 (Rs [Io (.lit 100 [none, none, some 66, some 82] [.v (.string ⟨#[]⟩), .v (.int .i64 0), .sl true 66 [], .sl true 82 []] 0 []) 5, Mv 5 3]
 (.seq (Rs [Ki 0 4]
 (blkC 0 (.loop (.seq (Rs (sq 6 [Mv 4, Mv 0, Ln 7, Bb .lss 6 8] [])
 (Ct 9 .skip
 (.exit 0)))
 (.seq (.block 1 (.reg (sq 12 [Mv 3, Mv 0, Mv 4, Ia 4 13 14, La 4 15, Ca 30 [16], Io (.lit 100 [none, none, some 66, some 82] [.v (.string ⟨#[]⟩), .v (.int .i64 0), .sl true 66 [], .sl true 82 []] 1 [(0, .t 17)]), Io (.app 100 true (.t 12) (.t 18))] [Mv 19 3])))
 (.reg (sq 10 [Mv 4, Bk .add 10 1] [Mv 11 4])))))))
 (Rs [Mv 3 20, Mv 20 2]
 .ret)))), lcF []⟩
def ks_ev9 : List (List (Option Nat)) := [[some 100]]
def gl_ev9_1 : List Feat → Nat → (List Feat) → Option (List Feat)
 | [], k47, v44 => some v44
 | x48 :: l49, k47, v44 => (gf_es9 x48).bind fun x56 => if fits (v44 ++ ([x56] : (List Feat))).length = true then gl_ev9_1 l49 (k47 + 1) (v44 ++ ([x56] : (List Feat))) else none
def gf_ev9 (a0 : (List Feat)) : Option (List Feat) := if fits a0.length = true then ((gl_ev9_1 a0 0 []).bind fun q42 => some (q42)) else none
def c_ev9 : Con := ⟨(List Feat), (List Feat), 31, fun a => [.ro (List.map (eFeat false) a)], fun a => gf_ev9 a, fun a r => ⟨[(false, [sl true 100 (List.map (eFeat true) r)])], []⟩, fun a => []⟩
/-! spec.RepoOk -/
def if_ei9 : IFn := ⟨102, [.inl 2],
 (Rs (sq 1 [Io (.box 210 [some 115, some 130] (.t 0)), Kb false] [])
 (.seq (Rs (sq 7 [Fa 0 1, Ld 1 7, Ln 8, Bk .lss 9 1, Mv 10] (Sf 11 12 [Fa 0 1, Ld 1 12, Ln 13, Bk .gtr 14 14] (sq 16 [Pk 11 15, Mv 16] (Sf 17 18 [Fa 1 1, Ld 1 18, Ln 19, Bk .lss 20 1] (sq 22 [Pk 17 21, Mv 22] (Sf 23 24 [Fa 1 1, Ld 1 24, Ln 25, Bk .gtr 26 4] [Pk 23 27 28]))))))
 (Ct 28 (Rs [Kb false 2]
 .ret)
 .skip))
 (.seq (Rs [Ki 0 3]
 (blkC 0 (.loop (.seq (Rs (sq 29 [Mv 3, Fa 0 1, Ld 1 30, Ln 31, Bb .lss 29 32] [])
 (Ct 33 .skip
 (.exit 0)))
 (.seq (.block 1 (Rs (sq 36 [Fa 0 1, Ld 1 36, Mv 3, Ia 3 37 38, La 3 39] [Io (.alloc 115 [.sl true 17 [], .sl true 100 [], .v (.string ⟨#[]⟩)]) 4, Sv [some 17, some 100, none] 4 40])
 (Rs (sq 41 [Fa 0 4, Ld 1 41, Mv 3, Ca 25 [42, 43], Nt 44, Mv 45] (Sf 46 47 [Fa 1 4, Ld 1 47, Ca 26 [48], Nt 49] (sq 51 [Pk 46 50, Mv 51] (Sf 52 53 [Fa 2 4, Ld 1 53, Ca 14 [54], Nt 55] (sq 57 [Pk 52 56, Mv 57] (Sf 58 59 [La 2 1, La 3 4, Ca 27 [59, 60], Mv 3, Bb .neq 61 62] [Pk 58 63 64]))))))
 (Ct 64 (Rs [Kb false 2]
 .ret)
 .skip))))
 (.reg (sq 34 [Mv 3, Bk .add 34 1] [Mv 35 3])))))))
 (.seq (Rs [Ki 0 5]
 (blkC 2 (.loop (.seq (Rs (sq 65 [Mv 5, Fa 1 1, Ld 1 66, Ln 67, Bb .lss 65 68] [])
 (Ct 69 .skip
 (.exit 2)))
 (.seq (.block 3 (Rs (sq 72 [Fa 1 1, Ld 1 72, Mv 5, Ia 2 73 74, La 2 75] [Io (.alloc 130 [.v (.string ⟨#[]⟩), .v (.int .i64 0)]) 6, Sv [none, none] 6 76])
 (Rs (sq 77 [Fa 0 6, Ld 1 77, Ca 14 [78], Nt 79, Mv 80] (Sf 81 82 [La 2 1, Fa 0 6, Ld 1 83, Ca 28 [82, 84], Mv 5, Bb .neq 85 86] (sq 88 [Pk 81 87, Mv 88] (Sf 89 90 [Fa 1 6, Ld 1 90, Bk .lss 91 0] (sq 93 [Pk 89 92, Mv 93] (Sf 94 95 [Fa 1 6, Ld 1 95, Fa 0 1, Ld 1 97, Ln 98, Bb .geq 96 99] [Pk 94 100 101]))))))
 (Ct 101 (Rs [Kb false 2]
 .ret)
 .skip))))
 (.reg (sq 70 [Mv 5, Bk .add 70 1] [Mv 71 5])))))))
 (Rs [Kb true 2]
 .ret))))), lcF []⟩
def ks_ei9 : List (List (Option Nat)) := [[none]]
def gl_ei9_1 (a0 : Repo) : List Commit → Nat → Option (Bool ⊕ Unit)
 | [], k38 => some (.inr ())
 | x39 :: l40, k38 => (gf_fg9 x39.up (k38 : Int)).bind fun x48 => if (!x48) = true then (some (.inl (false))) else ((gf_el9 x39.sheet).bind fun x50 => if (!x50) = true then (some (.inl (false))) else ((gf_en9 x39.note).bind fun x52 => if (!x52) = true then (some (.inl (false))) else ((gf_fc9 a0 x39).bind fun x54 => if (x54 != (k38 : Int)) = true then (some (.inl (false))) else (gl_ei9_1 a0 l40 (k38 + 1) ))))
def gl_ei9_2 (a0 : Repo) : List Head → Nat → Option (Bool ⊕ Unit)
 | [], k80 => some (.inr ())
 | x81 :: l82, k80 => (gf_en9 x81.name).bind fun x90 => if (!x90) = true then (some (.inl (false))) else ((gf_fd9 a0 x81.name).bind fun x92 => if (x92 != (k80 : Int)) = true then (some (.inl (false))) else (if (decide (x81.at_ < 0)) = true then (some (.inl (false))) else (if (decide (x81.at_ ≥ (a0.commits.length : Int))) = true then (some (.inl (false))) else (gl_ei9_2 a0 l82 (k80 + 1) ))))
def gf_ei9 (a0 : Repo) : Option Bool := if (decide ((a0.commits.length : Int) < 1)) = true then (some (false)) else (if (decide ((a0.commits.length : Int) > 14)) = true then (some (false)) else (if (decide ((a0.heads.length : Int) < 1)) = true then (some (false)) else (if (decide ((a0.heads.length : Int) > 4)) = true then (some (false)) else (if fits a0.commits.length = true then ((gl_ei9_1 a0 a0.commits 0 ).bind fun q => match q with | .inl r => some r | .inr q36 => if fits a0.heads.length = true then ((gl_ei9_2 a0 a0.heads 0 ).bind fun q => match q with | .inl r => some r | .inr q78 => some (true)) else none) else none))))
def c_ei9 : Con := ⟨Repo, Bool, 33, fun a => [.agg [.ro (List.map (eCommit false) a.commits), .ro (List.map eHead a.heads)]], fun a => gf_ei9 a, fun a r => ⟨[(false, [.v (.bool r)])], []⟩, fun a => []⟩
/-! spec.l3Put -/
def if_ey9 : IFn := ⟨53, [.inl 4],
 (Rs (sq 3 [Io (.box 100 [none, none, some 66, some 82] (.t 1)), Io (.mv (.c (.slice none 0 0)))] [])
 (Rs [Io (.lit 100 [none, none, some 66, some 82] [.v (.string ⟨#[]⟩), .v (.int .i64 0), .sl true 66 [], .sl true 82 []] 0 []) 8, Mv 8 5]
 (Rs [Kb false 6]
 (.seq (Rs [Ki 0 7]
 (blkC 0 (.loop (.seq (Rs (sq 9 [Mv 7, Mv 0, Ln 10, Bb .lss 9 11] [])
 (Ct 12 .skip
 (.exit 0)))
 (.seq (.block 1 (seqC (.seq (.drw (sq 15 [Mv 6, Nt 15, Mv 16] (Sg 17 18 [Mv 0, Mv 7, Ia 4 18 19, Fa 0 20, Ld 1 21, Fa 0 3, Ld 1 23, Bb .geq 22 24] [Pf 17 25 26])) [(7, 9)])
 (Ct 26 (Rs (sq 27 [Mv 5, La 4 3, Io (.lit 100 [none, none, some 66, some 82] [.v (.string ⟨#[]⟩), .v (.int .i64 0), .sl true 66 [], .sl true 82 []] 1 [(0, .t 28)]), Io (.app 100 true (.t 27) (.t 29))] [Mv 30 5])
 (.reg [Kb true 6]))
 .skip))
 (.seq (.drw (sq 31 [Mv 0, Mv 7, Ia 4 31 32, Fa 0 33, Ld 1 34, Fa 0 3, Ld 1 36, Bb .neq 35 37] []) [(4, 6)])
 (Ct 38 (.reg (sq 39 [Mv 5, Mv 0, Mv 7, Ia 4 40 41, La 4 42, Io (.lit 100 [none, none, some 66, some 82] [.v (.string ⟨#[]⟩), .v (.int .i64 0), .sl true 66 [], .sl true 82 []] 1 [(0, .t 43)]), Io (.app 100 true (.t 39) (.t 44))] [Mv 45 5]))
 .skip))))
 (.reg (sq 13 [Mv 7, Bk .add 13 1] [Mv 14 7])))))))
 (.seq (Rs (sq 46 [Mv 6, Nt 46] [])
 (Ct 47 (.reg (sq 48 [Mv 5, La 4 3, Io (.lit 100 [none, none, some 66, some 82] [.v (.string ⟨#[]⟩), .v (.int .i64 0), .sl true 66 [], .sl true 82 []] 1 [(0, .t 49)]), Io (.app 100 true (.t 48) (.t 50))] [Mv 51 5]))
 .skip))
 (Rs [Mv 5 52, Mv 52 4]
 .ret)))))), lcF []⟩
def ks_ey9 : List (List (Option Nat)) := [[some 100]]
def gl_ey9_1 (a1 : Feat) : List Feat → Nat → Bool → (List Feat) → Option (Bool × (List Feat))
 | [], k87, v82, v84 => some (v82, v84)
 | x88 :: l89, k87, v82, v84 => ((if (!v82) = true then (if (!slt x88.id a1.id) = true then (if fits (v84 ++ ([a1] : (List Feat))).length = true then some (true, (v84 ++ ([a1] : (List Feat)))) else none) else (some (v82, v84))) else (some (v82, v84)) : Option (Bool × (List Feat)))).bind fun q100 => if (!seq x88.id a1.id) = true then (if fits (q100.2 ++ ([x88] : (List Feat))).length = true then gl_ey9_1 a1 l89 (k87 + 1) q100.1 (q100.2 ++ ([x88] : (List Feat))) else none) else (gl_ey9_1 a1 l89 (k87 + 1) q100.1 q100.2)
def gf_ey9 (a0 : (List Feat)) (a1 : Feat) : Option (List Feat) := if fits a0.length = true then ((gl_ey9_1 a1 a0 0 false []).bind fun q81 => if (!q81.1) = true then (if fits (q81.2 ++ ([a1] : (List Feat))).length = true then some ((q81.2 ++ ([a1] : (List Feat)))) else none) else (some (q81.2))) else none
def c_ey9 : Con := ⟨(List Feat) × Feat, (List Feat), 37, fun a => [.ro (List.map (eFeat false) a.1), .agg [.v (.string a.2.id), .v (.int .i64 a.2.shape.kind), .ro (List.map ePt a.2.shape.pts), .ro (List.map eTag a.2.tags)]], fun a => gf_ey9 a.1 a.2, fun a r => ⟨[(false, [sl true 100 (List.map (eFeat false) r)])], []⟩, fun a => []⟩
/-! spec.l3Find -/
def if_ex9 : IFn := ⟨20, [.inl 4],
 (Rs [Ki 0 4]
 (.seq (Rs [Ki 0 5]
 (blkC 0 (.loop (.seq (Rs (sq 6 [Mv 5, Mv 0, Ln 7, Bb .lss 6 8] [])
 (Ct 9 .skip
 (.exit 0)))
 (.seq (.block 1 (Rs (sq 12 [Mv 0, Mv 5, Ia 4 12 13, Fa 0 14, Ld 1 15, Mv 1, Bb .eql 16 17] [])
 (Ct 18 (Rs [Mv 5 19, Mv 19 4]
 .ret)
 .skip)))
 (.reg (sq 10 [Mv 5, Bk .add 10 1] [Mv 11 5])))))))
 (Rs [Ki (-1) 4]
 .ret))), lcF []⟩
def ks_ex9 : List (List (Option Nat)) := [[none]]
def gl_ex9_1 (a1 : Str) : List Feat → Nat → Option (Int ⊕ Unit)
 | [], k10 => some (.inr ())
 | x11 :: l12, k10 => if (seq x11.id a1) = true then (some (.inl ((k10 : Int)))) else (gl_ex9_1 a1 l12 (k10 + 1) )
def gf_ex9 (a0 : (List Feat)) (a1 : Str) : Option Int := if fits a0.length = true then ((gl_ex9_1 a1 a0 0 ).bind fun q => match q with | .inl r => some r | .inr q8 => some ((-1))) else none
def c_ex9 : Con := ⟨(List Feat) × Str, Int, 39, fun a => [.ro (List.map (eFeat false) a.1), .v (.string a.2)], fun a => gf_ex9 a.1 a.2, fun a r => ⟨[(false, [.v (.int .i64 r)])], []⟩, fun a => []⟩
/-! spec.l4Side -/
def if_fb9 : IFn := ⟨18, [.inr (4, 4), .inl 5],
 (Rs (sq 4 [Io (.alloc 100 [.v (.string ⟨#[]⟩), .v (.int .i64 0), .sl true 66 [], .sl true 82 []]), Kb false] [])
 (Rs (sq 7 [Mv 0, Mv 1, Ca 39 [7, 8]] [Mv 9 6])
 (.seq (Rs (sq 10 [Mv 6, Bk .lss 10 0] [])
 (Ct 11 (Rs [Io (.build [.v (.string ⟨#[]⟩), .v (.int .i64 0), .nil, .nil] []) 12, Sv [none, none, some 66, some 82] 4 12, Kb false 5]
 .ret)
 .skip))
 (Rs (sq 13 [Mv 0, Mv 6, Ia 4 13 14, La 4 15, Ca 30 [16]] [Sv [none, none, some 66, some 82] 4 17, Kb true 5])
 .ret)))), lcF []⟩
def ks_fb9 : List (List (Option Nat)) := [[none, none, some 66, some 82], [none]]
def gf_fb9 (a0 : (List Feat)) (a1 : Str) : Option (Feat × Bool) := (gf_ex9 a0 a1).bind fun x2 => if (decide (x2 < 0)) = true then (some ((⟨(⟨#[]⟩ : Str), ⟨0, []⟩, []⟩ : Feat), false)) else ((idx a0 x2).bind fun x4 => (gf_es9 x4).bind fun x6 => some (x6, true))
def c_fb9 : Con := ⟨(List Feat) × Str, (Feat × Bool), 52, fun a => [.ro (List.map (eFeat false) a.1), .v (.string a.2)], fun a => gf_fb9 a.1 a.2, fun a r => ⟨[(true, eFeat true r.1), (false, [.v (.bool r.2)])], []⟩, fun a => []⟩
/-! laws.toPt -/
def if_di9 : IFn := ⟨11, [.inr (2, 2)],
 (Rs (sq 1 [Io (.box 338 [none, none] (.t 0)), Io (.alloc 66 [.v (.int .i64 0), .v (.int .i64 0)])] [])
 (Rs [Io (.alloc 66 [.v (.int .i64 0), .v (.int .i64 0)]) 3]
 (Rs (sq 4 [Fa 0 1, Ld 1 4, Fa 0 3] [Sv [none] 6 5])
 (Rs (sq 7 [Fa 1 1, Ld 1 7, Fa 1 3] [Sv [none] 9 8])
 (Rs [La 2 3 10, Sv [none, none] 2 10]
 .ret))))), lcF []⟩
def ks_di9 : List (List (Option Nat)) := [[none, none]]
def gf_di9 (a0 : Pt) : Option Pt := some (a0)
def c_di9 : Con := ⟨Pt, Pt, 64, fun a => [.agg [.v (.int .i64 a.x), .v (.int .i64 a.y)]], fun a => gf_di9 a, fun a r => ⟨[(true, ePt r)], []⟩, fun a => []⟩
/-! laws.toPtS -/
def if_dj9 : IFn := ⟨23, [.inl 2],
 (Rs [Io (.mv (.c (.slice none 0 0))) 2]
 (Rs (sq 5 [Mv 0, Ln 5, Io (.mks 66 [.v (.int .i64 0), .v (.int .i64 0)] (.t 6) (.t 6))] [Mv 7 3])
 (.seq (Rs [Ki 0 4]
 (blkC 0 (.loop (.seq (Rs (sq 8 [Mv 4, Mv 0, Ln 9, Bb .lss 8 10] [])
 (Ct 11 .skip
 (.exit 0)))
 (.seq (.block 1 (.reg (sq 14 [Mv 3, Mv 4, Mv 0, Mv 4, Ia 2 16 17, La 2 18, Ca 64 [19], Ia 2 14 15] [Sv [none, none] 21 20])))
 (.reg (sq 12 [Mv 4, Bk .add 12 1] [Mv 13 4])))))))
 (Rs [Mv 3 22, Mv 22 2]
 .ret)))), lcF []⟩
def ks_dj9 : List (List (Option Nat)) := [[some 66]]
def gl_dj9_1 : List Pt → Nat → (List Pt) → Option (List Pt)
 | [], k31, v28 => some v28
 | x32 :: l33, k31, v28 => (gf_di9 x32).bind fun x40 => (idx v28 (k31 : Int)).bind fun x42 => gl_dj9_1 l33 (k31 + 1) (List.set v28 (k31 : Int).toNat x40)
def gf_dj9 (a0 : (List Pt)) : Option (List Pt) := if (decide (0 ≤ (a0.length : Int)) && fits ((a0.length : Int)).toNat) = true then if fits a0.length = true then ((gl_dj9_1 a0 0 (List.replicate ((a0.length : Int)).toNat (⟨0, 0⟩ : Pt))).bind fun q26 => some (q26)) else none else none
def c_dj9 : Con := ⟨(List Pt), (List Pt), 65, fun a => [.ro (List.map ePt a)], fun a => gf_dj9 a, fun a r => ⟨[(false, [sl true 66 (List.map ePt r)])], []⟩, fun a => []⟩
/-! laws.toTag -/
def if_dl9 : IFn := ⟨11, [.inr (2, 2)],
 (Rs (sq 1 [Io (.box 354 [none, none] (.t 0)), Io (.alloc 82 [.v (.string ⟨#[]⟩), .v (.string ⟨#[]⟩)])] [])
 (Rs [Io (.alloc 82 [.v (.string ⟨#[]⟩), .v (.string ⟨#[]⟩)]) 3]
 (Rs (sq 4 [Fa 0 1, Ld 1 4, Fa 0 3] [Sv [none] 6 5])
 (Rs (sq 7 [Fa 1 1, Ld 1 7, Fa 1 3] [Sv [none] 9 8])
 (Rs [La 2 3 10, Sv [none, none] 2 10]
 .ret))))), lcF []⟩
def ks_dl9 : List (List (Option Nat)) := [[none, none]]
def gf_dl9 (a0 : Tag) : Option Tag := some (a0)
def c_dl9 : Con := ⟨Tag, Tag, 66, fun a => [.agg [.v (.string a.key), .v (.string a.val)]], fun a => gf_dl9 a, fun a r => ⟨[(true, eTag r)], []⟩, fun a => []⟩
/-! laws.toShape -/
def if_dk9 : IFn := ⟨12, [.inr (2, 2)],
 (Rs (sq 1 [Io (.box 482 [none, some 338] (.t 0)), Io (.alloc 226 [.v (.int .i64 0), .sl true 66 []])] [])
 (Rs [Io (.alloc 226 [.v (.int .i64 0), .sl true 66 []]) 3]
 (Rs (sq 4 [Fa 0 1, Ld 1 4, Fa 0 3] [Sv [none] 6 5])
 (Rs (sq 7 [Fa 1 1, Ld 1 7, Ca 65 [8], Fa 1 3] [Sv [some 66] 10 9])
 (Rs [La 2 3 11, Sv [none, some 66] 2 11]
 .ret))))), lcF []⟩
def ks_dk9 : List (List (Option Nat)) := [[none, some 66]]
def gf_dk9 (a0 : Shape) : Option Shape := (gf_dj9 a0.pts).bind fun x4 => some ((⟨a0.kind, x4⟩ : Shape))
def c_dk9 : Con := ⟨Shape, Shape, 67, fun a => [.agg [.v (.int .i64 a.kind), .ro (List.map ePt a.pts)]], fun a => gf_dk9 a, fun a r => ⟨[(true, eShape true r)], []⟩, fun a => []⟩
/-! laws.toTagS -/
def if_dm9 : IFn := ⟨23, [.inl 2],
 (Rs [Io (.mv (.c (.slice none 0 0))) 2]
 (Rs (sq 5 [Mv 0, Ln 5, Io (.mks 82 [.v (.string ⟨#[]⟩), .v (.string ⟨#[]⟩)] (.t 6) (.t 6))] [Mv 7 3])
 (.seq (Rs [Ki 0 4]
 (blkC 0 (.loop (.seq (Rs (sq 8 [Mv 4, Mv 0, Ln 9, Bb .lss 8 10] [])
 (Ct 11 .skip
 (.exit 0)))
 (.seq (.block 1 (.reg (sq 14 [Mv 3, Mv 4, Mv 0, Mv 4, Ia 2 16 17, La 2 18, Ca 66 [19], Ia 2 14 15] [Sv [none, none] 21 20])))
 (.reg (sq 12 [Mv 4, Bk .add 12 1] [Mv 13 4])))))))
 (Rs [Mv 3 22, Mv 22 2]
 .ret)))), lcF []⟩
def ks_dm9 : List (List (Option Nat)) := [[some 82]]
def gl_dm9_1 : List Tag → Nat → (List Tag) → Option (List Tag)
 | [], k31, v28 => some v28
 | x32 :: l33, k31, v28 => (gf_dl9 x32).bind fun x40 => (idx v28 (k31 : Int)).bind fun x42 => gl_dm9_1 l33 (k31 + 1) (List.set v28 (k31 : Int).toNat x40)
def gf_dm9 (a0 : (List Tag)) : Option (List Tag) := if (decide (0 ≤ (a0.length : Int)) && fits ((a0.length : Int)).toNat) = true then if fits a0.length = true then ((gl_dm9_1 a0 0 (List.replicate ((a0.length : Int)).toNat (⟨(⟨#[]⟩ : Str), (⟨#[]⟩ : Str)⟩ : Tag))).bind fun q26 => some (q26)) else none else none
def c_dm9 : Con := ⟨(List Tag), (List Tag), 68, fun a => [.ro (List.map eTag a)], fun a => gf_dm9 a, fun a r => ⟨[(false, [sl true 82 (List.map eTag r)])], []⟩, fun a => []⟩
/-! laws.toFeat -/
def if_de9 : IFn := ⟨16, [.inr (2, 4)],
 (Rs (sq 1 [Io (.box 372 [none, none, some 338, some 354] (.t 0)), Io (.alloc 100 [.v (.string ⟨#[]⟩), .v (.int .i64 0), .sl true 66 [], .sl true 82 []])] [])
 (Rs [Io (.alloc 100 [.v (.string ⟨#[]⟩), .v (.int .i64 0), .sl true 66 [], .sl true 82 []]) 3]
 (Rs (sq 4 [Fa 0 1, Ld 1 4, Fa 0 3] [Sv [none] 6 5])
 (seqC (.reg (sq 7 [Fa 1 1, La 2 7, Ca 67 [8], Fa 1 3] [Sv [none, some 66] 10 9]))
 (Rs (sq 11 [Fa 3 1, Ld 1 11, Ca 68 [12], Fa 3 3] [Sv [some 82] 14 13])
 (Rs [La 4 3 15, Sv [none, none, some 66, some 82] 2 15]
 .ret)))))), lcF []⟩
def ks_de9 : List (List (Option Nat)) := [[none, none, some 66, some 82]]
def gf_de9 (a0 : Feat) : Option Feat := (((gf_dk9 a0.shape).bind fun x5 => some (x5.pts, x5.kind) : Option ((List Pt) × Int))).bind fun q4 => (gf_dm9 a0.tags).bind fun x14 => some ((⟨a0.id, ⟨q4.2, q4.1⟩, x14⟩ : Feat))
def c_de9 : Con := ⟨Feat, Feat, 69, fun a => [.agg [.v (.string a.id), .v (.int .i64 a.shape.kind), .ro (List.map ePt a.shape.pts), .ro (List.map eTag a.tags)]], fun a => gf_de9 a, fun a r => ⟨[(true, eFeat true r)], []⟩, fun a => []⟩
/-! laws.toIntS -/
def if_dh9 : IFn := ⟨22, [.inl 2],
 (Rs [Io (.mv (.c (.slice none 0 0))) 2]
 (Rs (sq 5 [Mv 0, Ln 5, Io (.mks 17 [.v (.int .i64 0)] (.t 6) (.t 6))] [Mv 7 3])
 (.seq (Rs [Ki 0 4]
 (blkC 0 (.loop (.seq (Rs (sq 8 [Mv 4, Mv 0, Ln 9, Bb .lss 8 10] [])
 (Ct 11 .skip
 (.exit 0)))
 (.seq (.block 1 (.reg (sq 14 [Mv 3, Mv 4, Mv 0, Mv 4, Ia 1 16 17, Ld 1 18, Ia 1 14 15] [Sv [none] 20 19])))
 (.reg (sq 12 [Mv 4, Bk .add 12 1] [Mv 13 4])))))))
 (Rs [Mv 3 21, Mv 21 2]
 .ret)))), lcF []⟩
def ks_dh9 : List (List (Option Nat)) := [[some 17]]
def gl_dh9_1 : List Int → Nat → (List Int) → Option (List Int)
 | [], k25, v22 => some v22
 | x26 :: l27, k25, v22 => (idx v22 (k25 : Int)).bind fun x34 => gl_dh9_1 l27 (k25 + 1) (List.set v22 (k25 : Int).toNat x26)
def gf_dh9 (a0 : (List Int)) : Option (List Int) := if (decide (0 ≤ (a0.length : Int)) && fits ((a0.length : Int)).toNat) = true then if fits a0.length = true then ((gl_dh9_1 a0 0 (List.replicate ((a0.length : Int)).toNat 0)).bind fun q20 => some (q20)) else none else none
def c_dh9 : Con := ⟨(List Int), (List Int), 70, fun a => [.ro (List.map eInt a)], fun a => gf_dh9 a, fun a r => ⟨[(false, [sl true 17 (List.map eInt r)])], []⟩, fun a => []⟩
/-! laws.toHead -/
def if_df9 : IFn := ⟨11, [.inr (2, 2)],
 (Rs (sq 1 [Io (.box 402 [none, none] (.t 0)), Io (.alloc 130 [.v (.string ⟨#[]⟩), .v (.int .i64 0)])] [])
 (Rs [Io (.alloc 130 [.v (.string ⟨#[]⟩), .v (.int .i64 0)]) 3]
 (Rs (sq 4 [Fa 0 1, Ld 1 4, Fa 0 3] [Sv [none] 6 5])
 (Rs (sq 7 [Fa 1 1, Ld 1 7, Fa 1 3] [Sv [none] 9 8])
 (Rs [La 2 3 10, Sv [none, none] 2 10]
 .ret))))), lcF []⟩
def ks_df9 : List (List (Option Nat)) := [[none, none]]
def gf_df9 (a0 : Head) : Option Head := some (a0)
def c_df9 : Con := ⟨Head, Head, 73, fun a => [.agg [.v (.string a.name), .v (.int .i64 a.at_)]], fun a => gf_df9 a, fun a r => ⟨[(true, eHead r)], []⟩, fun a => []⟩
/-! laws.toHeadS -/
def if_dg9 : IFn := ⟨23, [.inl 2],
 (Rs [Io (.mv (.c (.slice none 0 0))) 2]
 (Rs (sq 5 [Mv 0, Ln 5, Io (.mks 130 [.v (.string ⟨#[]⟩), .v (.int .i64 0)] (.t 6) (.t 6))] [Mv 7 3])
 (.seq (Rs [Ki 0 4]
 (blkC 0 (.loop (.seq (Rs (sq 8 [Mv 4, Mv 0, Ln 9, Bb .lss 8 10] [])
 (Ct 11 .skip
 (.exit 0)))
 (.seq (.block 1 (.reg (sq 14 [Mv 3, Mv 4, Mv 0, Mv 4, Ia 2 16 17, La 2 18, Ca 73 [19], Ia 2 14 15] [Sv [none, none] 21 20])))
 (.reg (sq 12 [Mv 4, Bk .add 12 1] [Mv 13 4])))))))
 (Rs [Mv 3 22, Mv 22 2]
 .ret)))), lcF []⟩
def ks_dg9 : List (List (Option Nat)) := [[some 130]]
def gl_dg9_1 : List Head → Nat → (List Head) → Option (List Head)
 | [], k31, v28 => some v28
 | x32 :: l33, k31, v28 => (gf_df9 x32).bind fun x40 => (idx v28 (k31 : Int)).bind fun x42 => gl_dg9_1 l33 (k31 + 1) (List.set v28 (k31 : Int).toNat x40)
def gf_dg9 (a0 : (List Head)) : Option (List Head) := if (decide (0 ≤ (a0.length : Int)) && fits ((a0.length : Int)).toNat) = true then if fits a0.length = true then ((gl_dg9_1 a0 0 (List.replicate ((a0.length : Int)).toNat (⟨(⟨#[]⟩ : Str), 0⟩ : Head))).bind fun q26 => some (q26)) else none else none
def c_dg9 : Con := ⟨(List Head), (List Head), 75, fun a => [.ro (List.map eHead a)], fun a => gf_dg9 a, fun a r => ⟨[(false, [sl true 130 (List.map eHead r)])], []⟩, fun a => []⟩
/-! impl.within -/
def if_be9 : IFn := ⟨15, [.inl 6],
 (Rs [Kb false 6]
 (Rs (sq 7 [Mv 0, Mv 1, Bb .geq 7 8, Mv 9] (Sg 10 11 [Mv 0, Mv 2, Bb .leq 11 12] [Pf 10 13 14, Mv 14 6]))
 .ret)), lcF []⟩
def ks_be9 : List (List (Option Nat)) := [[none]]
def gf_be9 (a0 : Int) (a1 : Int) (a2 : Int) : Option Bool := if (decide (a0 ≥ a1)) = true then (some ((decide (a0 ≤ a2)))) else (some (false))
def c_be9 : Con := ⟨Int × Int × Int, Bool, 76, fun a => [.v (.int .i64 a.1), .v (.int .i64 a.2.1), .v (.int .i64 a.2.2)], fun a => gf_be9 a.1 a.2.1 a.2.2, fun a r => ⟨[(false, [.v (.bool r)])], []⟩, fun a => []⟩
/-! impl.ptOk -/
def if_ba9 : IFn := ⟨11, [.inl 2],
 (Rs (sq 1 [Io (.box 66 [none, none] (.t 0)), Kb false] [])
 (Rs (sq 3 [Fa 0 1, Ld 1 3, Io (.call 76 [(false, .t 4), (false, .c (.int .i64 (-1000))), (false, .c (.int .i64 1000))]), Mv 5] (Sg 6 7 [Fa 1 1, Ld 1 7, Io (.call 76 [(false, .t 8), (false, .c (.int .i64 (-1000))), (false, .c (.int .i64 1000))])] [Pf 6 9 10, Mv 10 2]))
 .ret)), lcF []⟩
def ks_ba9 : List (List (Option Nat)) := [[none]]
def gf_ba9 (a0 : Pt) : Option Bool := (gf_be9 a0.x (-1000) 1000).bind fun x2 => if x2 = true then ((gf_be9 a0.y (-1000) 1000).bind fun x4 => some (x4)) else (some (false))
def c_ba9 : Con := ⟨Pt, Bool, 79, fun a => [.agg [.v (.int .i64 a.x), .v (.int .i64 a.y)]], fun a => gf_ba9 a, fun a r => ⟨[(false, [.v (.bool r)])], []⟩, fun a => []⟩
/-! impl.WordOk -/
def if_ar9 : IFn := ⟨23, [.inl 2],
 (Rs [Kb false 2]
 (.seq (Rs (sq 4 [Mv 0, Ls 4, Ki 0] [])
 (blkC 0 (.loop (Rs [Bb .lss 6 5 7]
 (.seq (Ct 7 .skip
 (.exit 0))
 (.seq (.block 1 (Rs [Mv 6 8, Mv 8 3]
 (Rs (sq 9 [Mv 0, Mv 3, Si 9 10, Io (.bin .lss (.t 11) (.c (.int .u8 97))), Mv 12] (Sf 13 14 [Mv 0, Mv 3, Si 14 15, Io (.bin .gtr (.t 16) (.c (.int .u8 122)))] [Pk 13 17 18]))
 (Ct 18 (Rs [Kb false 2]
 .ret)
 .skip))))
 (.reg [Bk .add 6 1 19, Mv 19 6])))))))
 (Rs (sq 20 [Mv 0, Ls 20, Io (.call 76 [(false, .t 21), (false, .c (.int .i64 1)), (false, .c (.int .i64 6))])] [Mv 22 2])
 .ret))), lcF []⟩
def ks_ar9 : List (List (Option Nat)) := [[none]]
def gl_ar9_1 : List UInt8 → Nat → Option (Bool ⊕ Unit)
 | [], k10 => some (.inr ())
 | x11 :: l12, k10 => if (decide ((x11.toNat : Int) < 97)) = true then (some (.inl (false))) else (if (decide ((x11.toNat : Int) > 122)) = true then (some (.inl (false))) else (gl_ar9_1 l12 (k10 + 1) ))
def gf_ar9 (a0 : Str) : Option Bool := if fits a0.size = true then ((gl_ar9_1 a0.data.toList 0 ).bind fun q => match q with | .inl r => some r | .inr q8 => (gf_be9 (a0.size : Int) 1 6).bind fun x19 => some (x19)) else none
def c_ar9 : Con := ⟨Str, Bool, 80, fun a => [.v (.string a)], fun a => gf_ar9 a, fun a r => ⟨[(false, [.v (.bool r)])], []⟩, fun a => []⟩
/-! impl.ShapeOk -/
def if_an9 : IFn := ⟨62, [.inl 2],
 (Rs (sq 1 [Io (.box 226 [none, some 66] (.t 0)), Kb false] [])
 (.seq (Rs (sq 6 [Fa 1 1, Ld 1 6, Ln 7, Ki 0] [])
 (blkC 0 (.loop (Rs [Bb .lss 9 8 10]
 (.seq (Ct 10 .skip
 (.exit 0))
 (.seq (.block 1 (Rs (sq 11 [Mv 9, Ia 2 7 9, La 2 12] [Io (.alloc 66 [.v (.int .i64 0), .v (.int .i64 0)]) 4, Mv 11 3, Sv [none, none] 4 13])
 (.seq (.drw (sq 14 [La 2 4, Ca 79 [14], Nt 15, Mv 16] (Sf 17 18 [Mv 3, Bk .gtr 18 0, Mv 19] (Sg 20 21 [Fa 1 1, Ld 1 21, Mv 3, Bk .sub 23 1, Ia 2 22 24, La 2 25, La 2 4, Io (.eqs false true [0, 0] (.t 26) (.t 27))] [Gf 17 (Pf 20 28 29), Pk 17 29 30]))) [(8, 13), (12, 13)])
 (Ct 30 (Rs [Kb false 2]
 .ret)
 .skip))))
 (.reg [Bk .add 9 1 31, Mv 31 9])))))))
 (Rs (sq 32 [Fa 1 1, Ld 1 32, Ln 33] [Mv 34 5])
 (.seq (Rs (sq 35 [Fa 0 1, Ld 1 35] [])
 (.block 2 (Rs [Bk .eql 36 1 38, Mv 38 37]
 (Ct 37 (Rs (sq 39 [Mv 5, Bk .eql 39 1] [Mv 40 2])
 .ret)
 (Rs [Bk .eql 36 2 42, Mv 42 41]
 (Ct 41 (Rs (sq 43 [Mv 5, Io (.call 76 [(false, .t 43), (false, .c (.int .i64 2)), (false, .c (.int .i64 6))])] [Mv 44 2])
 .ret)
 (Rs [Bk .eql 36 3 46, Mv 46 45]
 (Ct 45 (.seq (.drw (sq 47 [Mv 5, Io (.call 76 [(false, .t 47), (false, .c (.int .i64 3)), (false, .c (.int .i64 6))]), Mv 48] (Sg 49 50 [Fa 1 1, Ld 1 50, Ik 2 51 0, La 2 52, Fa 1 1, Ld 1 54, Mv 5, Bk .sub 56 1, Ia 2 55 57, La 2 58, Io (.eqs true true [0, 0] (.t 53) (.t 59))] [Pf 49 60 61, Mv 61 2])) [(4, 8), (6, 8), (4, 12), (6, 12)])
 .ret)
 .skip))))))))
 (Rs [Kb false 2]
 .ret))))), lcF []⟩
def ks_an9 : List (List (Option Nat)) := [[none]]
def gl_an9_1 (a0 : Shape) : List Pt → Nat → Option (Bool ⊕ Unit)
 | [], k24 => some (.inr ())
 | x25 :: l26, k24 => (gf_ba9 x25).bind fun x34 => if (!x34) = true then (some (.inl (false))) else (if (decide ((k24 : Int) > 0)) = true then ((idx a0.pts (IntKind.i64.wrap ((k24 : Int) - 1))).bind fun x36 => if ((x36.x == x25.x) && ((x36.y == x25.y) && true)) = true then (some (.inl (false))) else (gl_an9_1 a0 l26 (k24 + 1) )) else (gl_an9_1 a0 l26 (k24 + 1) ))
def gf_an9 (a0 : Shape) : Option Bool := if fits a0.pts.length = true then ((gl_an9_1 a0 a0.pts 0 ).bind fun q => match q with | .inl r => some r | .inr q22 => if (a0.kind == 1) = true then (some (((a0.pts.length : Int) == 1))) else (if (a0.kind == 2) = true then ((gf_be9 (a0.pts.length : Int) 2 6).bind fun x38 => some (x38)) else (if (a0.kind == 3) = true then ((gf_be9 (a0.pts.length : Int) 3 6).bind fun x40 => if x40 = true then ((idx a0.pts 0).bind fun x42 => (idx a0.pts (IntKind.i64.wrap ((a0.pts.length : Int) - 1))).bind fun x44 => some ((!((x42.x == x44.x) && ((x42.y == x44.y) && true))))) else (some (false))) else (some (false))))) else none
def c_an9 : Con := ⟨Shape, Bool, 81, fun a => [.agg [.v (.int .i64 a.kind), .ro (List.map ePt a.pts)]], fun a => gf_an9 a, fun a r => ⟨[(false, [.v (.bool r)])], []⟩, fun a => []⟩
/-! impl.FeatOk -/
def if_ae9 : IFn := ⟨54, [.inl 2],
 (Rs (sq 1 [Io (.box 100 [none, none, some 66, some 82] (.t 0)), Kb false] [])
 (.seq (Rs (sq 5 [Fa 3 1, Ld 1 5, Ln 6, Ki 0] [])
 (blkC 0 (.loop (Rs [Bb .lss 8 7 9]
 (.seq (Ct 9 .skip
 (.exit 0))
 (.seq (.block 1 (Rs (sq 10 [Mv 8, Ia 2 6 8, La 2 11] [Io (.alloc 82 [.v (.string ⟨#[]⟩), .v (.string ⟨#[]⟩)]) 4, Mv 10 3, Sv [none, none] 4 12])
 (.seq (.drw (sq 13 [Fa 0 4, Ld 1 13, Ca 80 [14], Nt 15, Mv 16] (Sf 17 18 [Fa 1 4, Ld 1 18, Ca 80 [19], Nt 20] (sq 22 [Pk 17 21, Mv 22] (Sf 23 24 [Mv 3, Bk .gtr 24 0, Mv 25] (Sg 26 27 [Fa 3 1, Ld 1 27, Mv 3, Bk .sub 29 1, Ia 2 28 30, Fa 0 31, Ld 1 32, Fa 0 4, Ld 1 34, Bb .geq 33 35] [Gf 23 (Pf 26 36 37), Pk 23 37 38]))))) [(15, 22), (20, 22)])
 (Ct 38 (Rs [Kb false 2]
 .ret)
 .skip))))
 (.reg [Bk .add 8 1 39, Mv 39 8])))))))
 (Rs (sq 40 [Fa 0 1, Ld 1 40, Ca 80 [41], Mv 42] (Sg 43 44 [Fa 1 1, La 2 44, Ca 81 [45]] (sq 47 [Pf 43 46, Mv 47] (Sg 48 49 [Fa 3 1, Ld 1 49, Ln 50, Bk .leq 51 4] [Pf 48 52 53, Mv 53 2]))))
 .ret))), lcF []⟩
def ks_ae9 : List (List (Option Nat)) := [[none]]
def gl_ae9_1 (a0 : Feat) : List Tag → Nat → Option (Bool ⊕ Unit)
 | [], k30 => some (.inr ())
 | x31 :: l32, k30 => (gf_ar9 x31.key).bind fun x40 => if (!x40) = true then (some (.inl (false))) else ((gf_ar9 x31.val).bind fun x42 => if (!x42) = true then (some (.inl (false))) else (if (decide ((k30 : Int) > 0)) = true then ((idx a0.tags (IntKind.i64.wrap ((k30 : Int) - 1))).bind fun x44 => if (!slt x44.key x31.key) = true then (some (.inl (false))) else (gl_ae9_1 a0 l32 (k30 + 1) )) else (gl_ae9_1 a0 l32 (k30 + 1) )))
def gf_ae9 (a0 : Feat) : Option Bool := if fits a0.tags.length = true then ((gl_ae9_1 a0 a0.tags 0 ).bind fun q => match q with | .inl r => some r | .inr q28 => (gf_ar9 a0.id).bind fun x46 => if x46 = true then ((gf_an9 a0.shape).bind fun x48 => if x48 = true then (some ((decide ((a0.tags.length : Int) ≤ 4)))) else (some (false))) else (some (false))) else none
def c_ae9 : Con := ⟨Feat, Bool, 82, fun a => [.agg [.v (.string a.id), .v (.int .i64 a.shape.kind), .ro (List.map ePt a.shape.pts), .ro (List.map eTag a.tags)]], fun a => gf_ae9 a, fun a r => ⟨[(false, [.v (.bool r)])], []⟩, fun a => []⟩
/-! slices.Equal[[]impl.Pt,impl.Pt] -/
def if_dr9 : IFn := ⟨26, [.inl 4],
 (Rs [Kb false 4]
 (.seq (Rs (sq 6 [Mv 0, Ln 6, Mv 1, Ln 8, Bb .neq 7 9] [])
 (Ct 10 (Rs [Kb false 4]
 .ret)
 .skip))
 (.seq (Rs (sq 11 [Mv 0, Ln 11, Ki 0] [])
 (blkC 0 (.loop (Rs [Bb .lss 13 12 14]
 (.seq (Ct 14 .skip
 (.exit 0))
 (.seq (.block 1 (Rs [Mv 13 15, Mv 15 5]
 (.seq (.drw (sq 16 [Mv 0, Mv 5, Ia 2 16 17, La 2 18, Mv 1, Mv 5, Ia 2 20 21, La 2 22, Io (.eqs true true [0, 0] (.t 19) (.t 23))] []) [(3, 7)])
 (Ct 24 (Rs [Kb false 4]
 .ret)
 .skip))))
 (.reg [Bk .add 13 1 25, Mv 25 13])))))))
 (Rs [Kb true 4]
 .ret)))), lcF []⟩
def ks_dr9 : List (List (Option Nat)) := [[none]]
def gl_dr9_1 (a1 : (List Pt)) : List Pt → Nat → Option (Bool ⊕ Unit)
 | [], k16 => some (.inr ())
 | x17 :: l18, k16 => (idx a1 (k16 : Int)).bind fun x25 => if (!((x17.x == x25.x) && ((x17.y == x25.y) && true))) = true then (some (.inl (false))) else (gl_dr9_1 a1 l18 (k16 + 1) )
def gf_dr9 (a0 : (List Pt)) (a1 : (List Pt)) : Option Bool := if ((a0.length : Int) != (a1.length : Int)) = true then (some (false)) else (if fits a0.length = true then ((gl_dr9_1 a1 a0 0 ).bind fun q => match q with | .inl r => some r | .inr q14 => some (true)) else none)
def c_dr9 : Con := ⟨(List Pt) × (List Pt), Bool, 127, fun a => [.ro (List.map ePt a.1), .ro (List.map ePt a.2)], fun a => gf_dr9 a.1 a.2, fun a r => ⟨[(false, [.v (.bool r)])], []⟩, fun a => []⟩
/-! impl.ShapeSame -/
def if_ao9 : IFn := ⟨17, [.inl 4],
 (Rs (sq 2 [Io (.box 226 [none, some 66] (.t 0)), Io (.box 226 [none, some 66] (.t 1)), Kb false] [])
 (Rs (sq 5 [Fa 0 2, Ld 1 5, Fa 0 3, Ld 1 7, Bb .eql 6 8, Mv 9] (Sg 10 11 [Fa 1 2, Ld 1 11, Fa 1 3, Ld 1 13, Ca 127 [12, 14]] [Pf 10 15 16, Mv 16 4]))
 .ret)), lcF []⟩
def ks_ao9 : List (List (Option Nat)) := [[none]]
def gf_ao9 (a0 : Shape) (a1 : Shape) : Option Bool := if (a0.kind == a1.kind) = true then ((gf_dr9 a0.pts a1.pts).bind fun x3 => some (x3)) else (some (false))
def c_ao9 : Con := ⟨Shape × Shape, Bool, 128, fun a => [.agg [.v (.int .i64 a.1.kind), .ro (List.map ePt a.1.pts)], .agg [.v (.int .i64 a.2.kind), .ro (List.map ePt a.2.pts)]], fun a => gf_ao9 a.1 a.2, fun a r => ⟨[(false, [.v (.bool r)])], []⟩, fun a => []⟩
/-! slices.Equal[[]impl.Tag,impl.Tag] -/
def if_ds9 : IFn := ⟨26, [.inl 4],
 (Rs [Kb false 4]
 (.seq (Rs (sq 6 [Mv 0, Ln 6, Mv 1, Ln 8, Bb .neq 7 9] [])
 (Ct 10 (Rs [Kb false 4]
 .ret)
 .skip))
 (.seq (Rs (sq 11 [Mv 0, Ln 11, Ki 0] [])
 (blkC 0 (.loop (Rs [Bb .lss 13 12 14]
 (.seq (Ct 14 .skip
 (.exit 0))
 (.seq (.block 1 (Rs [Mv 13 15, Mv 15 5]
 (.seq (.drw (sq 16 [Mv 0, Mv 5, Ia 2 16 17, La 2 18, Mv 1, Mv 5, Ia 2 20 21, La 2 22, Io (.eqs true true [2, 2] (.t 19) (.t 23))] []) [(3, 7)])
 (Ct 24 (Rs [Kb false 4]
 .ret)
 .skip))))
 (.reg [Bk .add 13 1 25, Mv 25 13])))))))
 (Rs [Kb true 4]
 .ret)))), lcF []⟩
def ks_ds9 : List (List (Option Nat)) := [[none]]
def gl_ds9_1 (a1 : (List Tag)) : List Tag → Nat → Option (Bool ⊕ Unit)
 | [], k16 => some (.inr ())
 | x17 :: l18, k16 => (idx a1 (k16 : Int)).bind fun x25 => if (!((x17.key == x25.key) && ((x17.val == x25.val) && true))) = true then (some (.inl (false))) else (gl_ds9_1 a1 l18 (k16 + 1) )
def gf_ds9 (a0 : (List Tag)) (a1 : (List Tag)) : Option Bool := if ((a0.length : Int) != (a1.length : Int)) = true then (some (false)) else (if fits a0.length = true then ((gl_ds9_1 a1 a0 0 ).bind fun q => match q with | .inl r => some r | .inr q14 => some (true)) else none)
def c_ds9 : Con := ⟨(List Tag) × (List Tag), Bool, 129, fun a => [.ro (List.map eTag a.1), .ro (List.map eTag a.2)], fun a => gf_ds9 a.1 a.2, fun a r => ⟨[(false, [.v (.bool r)])], []⟩, fun a => []⟩
/-! impl.FeatSame -/
def if_af9 : IFn := ⟨24, [.inl 4],
 (Rs (sq 2 [Io (.box 100 [none, none, some 66, some 82] (.t 0)), Io (.box 100 [none, none, some 66, some 82] (.t 1)), Kb false] [])
 (Rs (sq 5 [Fa 0 2, Ld 1 5, Fa 0 3, Ld 1 7, Bb .eql 6 8, Mv 9] (Sg 10 11 [Fa 1 2, La 2 11, Fa 1 3, La 2 13, Ca 128 [12, 14]] (sq 16 [Pf 10 15, Mv 16] (Sg 17 18 [Fa 3 2, Ld 1 18, Fa 3 3, Ld 1 20, Ca 129 [19, 21]] [Pf 17 22 23, Mv 23 4]))))
 .ret)), lcF []⟩
def ks_af9 : List (List (Option Nat)) := [[none]]
def gf_af9 (a0 : Feat) (a1 : Feat) : Option Bool := if (seq a0.id a1.id) = true then ((gf_ao9 a0.shape a1.shape).bind fun x3 => if x3 = true then ((gf_ds9 a0.tags a1.tags).bind fun x5 => some (x5)) else (some (false))) else (some (false))
def c_af9 : Con := ⟨Feat × Feat, Bool, 130, fun a => [.agg [.v (.string a.1.id), .v (.int .i64 a.1.shape.kind), .ro (List.map ePt a.1.shape.pts), .ro (List.map eTag a.1.tags)], .agg [.v (.string a.2.id), .v (.int .i64 a.2.shape.kind), .ro (List.map ePt a.2.shape.pts), .ro (List.map eTag a.2.tags)]], fun a => gf_af9 a.1 a.2, fun a r => ⟨[(false, [.v (.bool r)])], []⟩, fun a => []⟩
/-! slices.EqualFunc[[]impl.Feat,[]impl.Feat,impl.Feat,impl.Feat] -/
def if_dp9 : IFn := ⟨32, [.inl 6],
 (Rs [Kb false 6]
 (.seq (Rs (sq 10 [Mv 0, Ln 10, Mv 1, Ln 12, Bb .neq 11 13] [])
 (Ct 14 (Rs [Kb false 6]
 .ret)
 .skip))
 (.seq (Rs (sq 15 [Mv 0, Ln 15, Ki 0] [])
 (blkC 0 (.loop (Rs [Bb .lss 17 16 18]
 (.seq (Ct 18 .skip
 (.exit 0))
 (.seq (.block 1 (Rs (sq 19 [Mv 17, Ia 4 15 17, La 4 20] [Io (.alloc 100 [.v (.string ⟨#[]⟩), .v (.int .i64 0), .sl true 66 [], .sl true 82 []]) 8, Mv 19 7, Sv [none, none, some 66, some 82] 8 21])
 (Rs (sq 22 [Mv 1, Mv 7, Ia 4 22 23, La 4 24] [Io (.alloc 100 [.v (.string ⟨#[]⟩), .v (.int .i64 0), .sl true 66 [], .sl true 82 []]) 9, Sv [none, none, some 66, some 82] 9 25])
 (Rs (sq 26 [Mv 2, La 4 8, La 4 9, Io (.calld (.t 26) [(false, .t 27), (false, .t 28)]), Nt 29] [])
 (Ct 30 (Rs [Kb false 6]
 .ret)
 .skip)))))
 (.reg [Bk .add 17 1 31, Mv 31 17])))))))
 (Rs [Kb true 6]
 .ret)))), lcF []⟩
def ks_dp9 : List (List (Option Nat)) := [[none]]
def gl_dq9_1 (a1 : (List Feat)) : List Feat → Nat → Option (Bool ⊕ Unit)
 | [], k28 => some (.inr ())
 | x29 :: l30, k28 => (idx a1 (k28 : Int)).bind fun x38 => (gf_af9 x29 x38).bind fun x41 => if (!x41) = true then (some (.inl (false))) else (gl_dq9_1 a1 l30 (k28 + 1) )
def gf_dq9 (a0 : (List Feat)) (a1 : (List Feat)) : Option Bool := if ((a0.length : Int) != (a1.length : Int)) = true then (some (false)) else (if fits a0.length = true then ((gl_dq9_1 a1 a0 0 ).bind fun q => match q with | .inl r => some r | .inr q26 => some (true)) else none)
def c_dq9 : Con := ⟨(List Feat) × (List Feat), Bool, 325, fun a => [.ro (List.map (eFeat false) a.1), .ro (List.map (eFeat false) a.2), .fn 130 []], fun a => gf_dq9 a.1 a.2, fun a r => ⟨[(false, [.v (.bool r)])], []⟩, fun a => []⟩
/-! impl.SheetSame -/
def if_aq9 : IFn := ⟨8, [.inl 4],
 (Rs [Kb false 4]
 (Rs (sq 5 [Mv 0, Mv 1, Io (.call 325 [(false, .t 5), (false, .t 6), (false, .f 130)])] [Mv 7 4])
 .ret)), lcF []⟩
def ks_aq9 : List (List (Option Nat)) := [[none]]
def gf_aq9 (a0 : (List Feat)) (a1 : (List Feat)) : Option Bool := (gf_dq9 a0 a1).bind fun x1 => some (x1)
def c_aq9 : Con := ⟨(List Feat) × (List Feat), Bool, 220, fun a => [.ro (List.map (eFeat false) a.1), .ro (List.map (eFeat false) a.2)], fun a => gf_aq9 a.1 a.2, fun a r => ⟨[(false, [.v (.bool r)])], []⟩, fun a => []⟩
/-! slices.Equal[[]int,int] -/
def if_dt9 : IFn := ⟨26, [.inl 4],
 (Rs [Kb false 4]
 (.seq (Rs (sq 6 [Mv 0, Ln 6, Mv 1, Ln 8, Bb .neq 7 9] [])
 (Ct 10 (Rs [Kb false 4]
 .ret)
 .skip))
 (.seq (Rs (sq 11 [Mv 0, Ln 11, Ki 0] [])
 (blkC 0 (.loop (Rs [Bb .lss 13 12 14]
 (.seq (Ct 14 .skip
 (.exit 0))
 (.seq (.block 1 (Rs [Mv 13 15, Mv 15 5]
 (.seq (.drw (sq 16 [Mv 0, Mv 5, Ia 1 16 17, Ld 1 18, Mv 1, Mv 5, Ia 1 20 21, Ld 1 22, Bb .neq 19 23] []) [(3, 7)])
 (Ct 24 (Rs [Kb false 4]
 .ret)
 .skip))))
 (.reg [Bk .add 13 1 25, Mv 25 13])))))))
 (Rs [Kb true 4]
 .ret)))), lcF []⟩
def ks_dt9 : List (List (Option Nat)) := [[none]]
def gl_dt9_1 (a1 : (List Int)) : List Int → Nat → Option (Bool ⊕ Unit)
 | [], k16 => some (.inr ())
 | x17 :: l18, k16 => (idx a1 (k16 : Int)).bind fun x25 => if (x17 != x25) = true then (some (.inl (false))) else (gl_dt9_1 a1 l18 (k16 + 1) )
def gf_dt9 (a0 : (List Int)) (a1 : (List Int)) : Option Bool := if ((a0.length : Int) != (a1.length : Int)) = true then (some (false)) else (if fits a0.length = true then ((gl_dt9_1 a1 a0 0 ).bind fun q => match q with | .inl r => some r | .inr q14 => some (true)) else none)
def c_dt9 : Con := ⟨(List Int) × (List Int), Bool, 358, fun a => [.ro (List.map eInt a.1), .ro (List.map eInt a.2)], fun a => gf_dt9 a.1 a.2, fun a r => ⟨[(false, [.v (.bool r)])], []⟩, fun a => []⟩
/-! impl.sameCommit -/
def if_bb9 : IFn := ⟨24, [.inl 4],
 (Rs (sq 2 [Io (.box 115 [some 17, some 100, none] (.t 0)), Io (.box 115 [some 17, some 100, none] (.t 1)), Kb false] [])
 (Rs (sq 5 [Fa 0 2, Ld 1 5, Fa 0 3, Ld 1 7, Ca 358 [6, 8], Mv 9] (Sg 10 11 [Fa 1 2, Ld 1 11, Fa 1 3, Ld 1 13, Ca 220 [12, 14]] (sq 16 [Pf 10 15, Mv 16] (Sg 17 18 [Fa 2 2, Ld 1 18, Fa 2 3, Ld 1 20, Bb .eql 19 21] [Pf 17 22 23, Mv 23 4]))))
 .ret)), lcF []⟩
def ks_bb9 : List (List (Option Nat)) := [[none]]
def gf_bb9 (a0 : Commit) (a1 : Commit) : Option Bool := (gf_dt9 a0.up a1.up).bind fun x3 => if x3 = true then ((gf_aq9 a0.sheet a1.sheet).bind fun x5 => if x5 = true then (some ((seq a0.note a1.note))) else (some (false))) else (some (false))
def c_bb9 : Con := ⟨Commit × Commit, Bool, 330, fun a => [.agg [.ro (List.map eInt a.1.up), .ro (List.map (eFeat false) a.1.sheet), .v (.string a.1.note)], .agg [.ro (List.map eInt a.2.up), .ro (List.map (eFeat false) a.2.sheet), .v (.string a.2.note)]], fun a => gf_bb9 a.1 a.2, fun a r => ⟨[(false, [.v (.bool r)])], []⟩, fun a => []⟩
/-! slices.Index[[]int,int] -/
def if_ea9 : IFn := ⟨19, [.inl 4],
 (Rs [Ki 0 4]
 (.seq (Rs (sq 6 [Mv 0, Ln 6, Ki 0] [])
 (blkC 0 (.loop (Rs [Bb .lss 8 7 9]
 (.seq (Ct 9 .skip
 (.exit 0))
 (.seq (.block 1 (Rs [Mv 8 10, Mv 10 5]
 (Rs (sq 11 [Mv 1, Mv 0, Mv 5, Ia 1 12 13, Ld 1 14, Bb .eql 11 15] [])
 (Ct 16 (Rs [Mv 5 17, Mv 17 4]
 .ret)
 .skip))))
 (.reg [Bk .add 8 1 18, Mv 18 8])))))))
 (Rs [Ki (-1) 4]
 .ret))), lcF []⟩
def ks_ea9 : List (List (Option Nat)) := [[none]]
def gl_ea9_1 (a1 : Int) : List Int → Nat → Option (Int ⊕ Unit)
 | [], k10 => some (.inr ())
 | x11 :: l12, k10 => if (a1 == x11) = true then (some (.inl ((k10 : Int)))) else (gl_ea9_1 a1 l12 (k10 + 1) )
def gf_ea9 (a0 : (List Int)) (a1 : Int) : Option Int := if fits a0.length = true then ((gl_ea9_1 a1 a0 0 ).bind fun q => match q with | .inl r => some r | .inr q8 => some ((-1))) else none
def c_ea9 : Con := ⟨(List Int) × Int, Int, 85, fun a => [.ro (List.map eInt a.1), .v (.int .i64 a.2)], fun a => gf_ea9 a.1 a.2, fun a r => ⟨[(false, [.v (.int .i64 r)])], []⟩, fun a => []⟩
/-! impl.SheetOk -/
def if_ap9 : IFn := ⟨34, [.inl 2],
 (Rs [Kb false 2]
 (.seq (Rs (sq 5 [Mv 0, Ln 5, Ki 0] [])
 (blkC 0 (.loop (Rs [Bb .lss 7 6 8]
 (.seq (Ct 8 .skip
 (.exit 0))
 (.seq (.block 1 (Rs (sq 9 [Mv 7, Ia 4 5 7, La 4 10] [Io (.alloc 100 [.v (.string ⟨#[]⟩), .v (.int .i64 0), .sl true 66 [], .sl true 82 []]) 4, Mv 9 3, Sv [none, none, some 66, some 82] 4 11])
 (.seq (.drw (sq 12 [La 4 4, Ca 82 [12], Nt 13, Mv 14] (Sf 15 16 [Mv 3, Bk .gtr 16 0, Mv 17] (Sg 18 19 [Mv 0, Mv 3, Bk .sub 20 1, Ia 4 19 21, Fa 0 22, Ld 1 23, Fa 0 4, Ld 1 25, Bb .geq 24 26] [Gf 15 (Pf 18 27 28), Pk 15 28 29]))) [(12, 14)])
 (Ct 29 (Rs [Kb false 2]
 .ret)
 .skip))))
 (.reg [Bk .add 7 1 30, Mv 30 7])))))))
 (Rs (sq 31 [Mv 0, Ln 31, Bk .leq 32 8] [Mv 33 2])
 .ret))), lcF []⟩
def ks_ap9 : List (List (Option Nat)) := [[none]]
def gl_ap9_1 (a0 : (List Feat)) : List Feat → Nat → Option (Bool ⊕ Unit)
 | [], k23 => some (.inr ())
 | x24 :: l25, k23 => (gf_ae9 x24).bind fun x33 => if (!x33) = true then (some (.inl (false))) else (if (decide ((k23 : Int) > 0)) = true then ((idx a0 (IntKind.i64.wrap ((k23 : Int) - 1))).bind fun x35 => if (!slt x35.id x24.id) = true then (some (.inl (false))) else (gl_ap9_1 a0 l25 (k23 + 1) )) else (gl_ap9_1 a0 l25 (k23 + 1) ))
def gf_ap9 (a0 : (List Feat)) : Option Bool := if fits a0.length = true then ((gl_ap9_1 a0 a0 0 ).bind fun q => match q with | .inl r => some r | .inr q21 => some ((decide ((a0.length : Int) ≤ 8)))) else none
def c_ap9 : Con := ⟨(List Feat), Bool, 86, fun a => [.ro (List.map (eFeat false) a)], fun a => gf_ap9 a, fun a r => ⟨[(false, [.v (.bool r)])], []⟩, fun a => []⟩
/-! (impl.Repo).commit$1 -/
def if_aj9 : IFn := ⟨7, [.inl 3],
 (Rs (sq 2 [Io (.box 115 [some 17, some 100, none] (.t 0)), Kb false] [])
 (Rs (sq 4 [La 3 2, La 3 1, Ca 330 [4, 5]] [Mv 6 3])
 .ret)), lcF []⟩
def ks_aj9 : List (List (Option Nat)) := [[none]]
def gf_aj9 (a0 : Commit) (a1 : Commit) : Option Bool := (gf_bb9 a0 a1).bind fun x2 => some (x2)
def c_aj9 : Con := ⟨Commit × Commit, Bool, 83, fun a => [.agg [.ro (List.map eInt a.1.up), .ro (List.map (eFeat false) a.1.sheet), .v (.string a.1.note)], .rptr [.sl false 1 (List.map eInt a.2.up), .sl false 4 (List.map (eFeat false) a.2.sheet), .v (.string a.2.note)]], fun a => gf_aj9 a.1 a.2, fun a r => ⟨[(false, [.v (.bool r)])], []⟩, fun a => []⟩
/-! slices.IndexFunc[[]impl.Commit,impl.Commit] -/
def if_du9 : IFn := ⟨19, [.inl 4],
 (Rs [Ki 0 4]
 (.seq (Rs (sq 6 [Mv 0, Ln 6, Ki 0] [])
 (blkC 0 (.loop (Rs [Bb .lss 8 7 9]
 (.seq (Ct 9 .skip
 (.exit 0))
 (.seq (.block 1 (Rs [Mv 8 10, Mv 10 5]
 (Rs (sq 11 [Mv 1, Mv 0, Mv 5, Ia 3 12 13, La 3 14, Io (.calld (.t 11) [(false, .t 15)])] [])
 (Ct 16 (Rs [Mv 5 17, Mv 17 4]
 .ret)
 .skip))))
 (.reg [Bk .add 8 1 18, Mv 18 8])))))))
 (Rs [Ki (-1) 4]
 .ret))), lcF []⟩
def ks_du9 : List (List (Option Nat)) := [[none]]
def gl_dv9_1 (a1 : Commit) : List Commit → Nat → Option (Int ⊕ Unit)
 | [], k16 => some (.inr ())
 | x17 :: l18, k16 => (gf_aj9 x17 a1).bind fun x25 => if x25 = true then (some (.inl ((k16 : Int)))) else (gl_dv9_1 a1 l18 (k16 + 1) )
def gf_dv9 (a0 : (List Commit)) (a1 : Commit) : Option Int := if fits a0.length = true then ((gl_dv9_1 a1 a0 0 ).bind fun q => match q with | .inl r => some r | .inr q14 => some ((-1))) else none
def c_dv9 : Con := ⟨(List Commit) × Commit, Int, 84, fun a => [.ro (List.map (eCommit false) a.1), .fn 83 [.rptr [.sl false 1 (List.map eInt a.2.up), .sl false 4 (List.map (eFeat false) a.2.sheet), .v (.string a.2.note)]]], fun a => gf_dv9 a.1 a.2, fun a r => ⟨[(false, [.v (.int .i64 r)])], []⟩, fun a => []⟩
/-! (impl.Repo).commit -/
def if_ai9 : IFn := ⟨9, [.inl 4],
 (Rs (sq 2 [Io (.box 210 [some 115, some 130] (.t 0)), Io (.box 115 [some 17, some 100, none] (.t 1)), Ki 0] [])
 (Rs (sq 5 [Fa 0 2, Ld 1 5, Io (.mkf 83 [.t 3]), Ca 84 [6, 7]] [Mv 8 4])
 .ret)), lcF []⟩
def ks_ai9 : List (List (Option Nat)) := [[none]]
def gf_ai9 (a0 : Repo) (a1 : Commit) : Option Int := (gf_dv9 a0.commits a1).bind fun x3 => some (x3)
def c_ai9 : Con := ⟨Repo × Commit, Int, 87, fun a => [.agg [.ro (List.map (eCommit false) a.1.commits), .ro (List.map eHead a.1.heads)], .agg [.ro (List.map eInt a.2.up), .ro (List.map (eFeat false) a.2.sheet), .v (.string a.2.note)]], fun a => gf_ai9 a.1 a.2, fun a r => ⟨[(false, [.v (.int .i64 r)])], []⟩, fun a => []⟩
/-! slices.Contains[[]int,int] -/
def if_dn9 : IFn := ⟨9, [.inl 4],
 (Rs [Kb false 4]
 (Rs (sq 5 [Mv 0, Mv 1, Ca 85 [5, 6], Bk .geq 7 0] [Mv 8 4])
 .ret)), lcF []⟩
def ks_dn9 : List (List (Option Nat)) := [[none]]
def gf_dn9 (a0 : (List Int)) (a1 : Int) : Option Bool := (gf_ea9 a0 a1).bind fun x1 => some ((decide (x1 ≥ 0)))
def c_dn9 : Con := ⟨(List Int) × Int, Bool, 88, fun a => [.ro (List.map eInt a.1), .v (.int .i64 a.2)], fun a => gf_dn9 a.1 a.2, fun a r => ⟨[(false, [.v (.bool r)])], []⟩, fun a => []⟩
/-! (impl.Repo).head$1 -/
def if_al9 : IFn := ⟨8, [.inl 3],
 (Rs (sq 2 [Io (.box 130 [none, none] (.t 0)), Kb false] [])
 (Rs (sq 4 [Fa 0 2, Ld 1 4, Ld 1 1, Bb .eql 5 6] [Mv 7 3])
 .ret)), lcF []⟩
def ks_al9 : List (List (Option Nat)) := [[none]]
def gf_al9 (a0 : Head) (a1 : Str) : Option Bool := some ((seq a0.name a1))
def c_al9 : Con := ⟨Head × Str, Bool, 77, fun a => [.agg [.v (.string a.1.name), .v (.int .i64 a.1.at_)], .rptr [.v (.string a.2)]], fun a => gf_al9 a.1 a.2, fun a r => ⟨[(false, [.v (.bool r)])], []⟩, fun a => []⟩
/-! slices.IndexFunc[[]impl.Head,impl.Head] -/
def if_dy9 : IFn := ⟨19, [.inl 4],
 (Rs [Ki 0 4]
 (.seq (Rs (sq 6 [Mv 0, Ln 6, Ki 0] [])
 (blkC 0 (.loop (Rs [Bb .lss 8 7 9]
 (.seq (Ct 9 .skip
 (.exit 0))
 (.seq (.block 1 (Rs [Mv 8 10, Mv 10 5]
 (Rs (sq 11 [Mv 1, Mv 0, Mv 5, Ia 2 12 13, La 2 14, Io (.calld (.t 11) [(false, .t 15)])] [])
 (Ct 16 (Rs [Mv 5 17, Mv 17 4]
 .ret)
 .skip))))
 (.reg [Bk .add 8 1 18, Mv 18 8])))))))
 (Rs [Ki (-1) 4]
 .ret))), lcF []⟩
def ks_dy9 : List (List (Option Nat)) := [[none]]
def gl_dz9_1 (a1 : Str) : List Head → Nat → Option (Int ⊕ Unit)
 | [], k16 => some (.inr ())
 | x17 :: l18, k16 => (gf_al9 x17 a1).bind fun x25 => if x25 = true then (some (.inl ((k16 : Int)))) else (gl_dz9_1 a1 l18 (k16 + 1) )
def gf_dz9 (a0 : (List Head)) (a1 : Str) : Option Int := if fits a0.length = true then ((gl_dz9_1 a1 a0 0 ).bind fun q => match q with | .inl r => some r | .inr q14 => some ((-1))) else none
def c_dz9 : Con := ⟨(List Head) × Str, Int, 78, fun a => [.ro (List.map eHead a.1), .fn 77 [.rptr [.v (.string a.2)]]], fun a => gf_dz9 a.1 a.2, fun a r => ⟨[(false, [.v (.int .i64 r)])], []⟩, fun a => []⟩
/-! (impl.Repo).head -/
def if_ak9 : IFn := ⟨9, [.inl 4],
 (Rs (sq 2 [Io (.box 210 [some 115, some 130] (.t 0)), Io (.box 49 [none] (.t 1)), Ki 0] [])
 (Rs (sq 5 [Fa 1 2, Ld 1 5, Io (.mkf 77 [.t 3]), Ca 78 [6, 7]] [Mv 8 4])
 .ret)), lcF []⟩
def ks_ak9 : List (List (Option Nat)) := [[none]]
def gf_ak9 (a0 : Repo) (a1 : Str) : Option Int := (gf_dz9 a0.heads a1).bind fun x3 => some (x3)
def c_ak9 : Con := ⟨Repo × Str, Int, 89, fun a => [.agg [.ro (List.map (eCommit false) a.1.commits), .ro (List.map eHead a.1.heads)], .v (.string a.2)], fun a => gf_ak9 a.1 a.2, fun a r => ⟨[(false, [.v (.int .i64 r)])], []⟩, fun a => []⟩
/-! (impl.Repo).version -/
def if_am9 : IFn := ⟨11, [.inl 4],
 (Rs [Io (.box 210 [some 115, some 130] (.t 0)) 2, Kb false 4]
 (Rs (sq 5 [Mv 1, Fa 0 2, Ld 1 6, Ln 7, Bk .sub 8 1, Io (.call 76 [(false, .t 5), (false, .c (.int .i64 0)), (false, .t 9)])] [Mv 10 4])
 .ret)), lcF []⟩
def ks_am9 : List (List (Option Nat)) := [[none]]
def gf_am9 (a0 : Repo) (a1 : Int) : Option Bool := (gf_be9 a1 0 (IntKind.i64.wrap ((a0.commits.length : Int) - 1))).bind fun x2 => some (x2)
def c_am9 : Con := ⟨Repo × Int, Bool, 90, fun a => [.agg [.ro (List.map (eCommit false) a.1.commits), .ro (List.map eHead a.1.heads)], .v (.int .i64 a.2)], fun a => gf_am9 a.1 a.2, fun a r => ⟨[(false, [.v (.bool r)])], []⟩, fun a => []⟩
/-! impl.cloneShape -/
def if_av9 : IFn := ⟨10, [.inr (2, 2)],
 (Rs (sq 1 [Io (.box 226 [none, some 66] (.t 0)), Io (.alloc 226 [.v (.int .i64 0), .sl true 66 []])] [])
 (.seq (.drw (sq 3 [Fa 0 1, Ld 1 3, Io (.lit 66 [none, none] [.v (.int .i64 0), .v (.int .i64 0)] 0 []), Fa 1 1, Ld 1 6, Io (.app 66 false (.t 5) (.t 7)), Io (.build [.v (.int .i64 0), .nil] [(0, 1, .t 4), (1, 1, .t 8)])] [Sv [none, some 66] 2 9]) [(1, 2), (1, 4), (2, 4), (1, 5)])
 .ret)), lcF []⟩
def ks_av9 : List (List (Option Nat)) := [[none, some 66]]
def gf_av9 (a0 : Shape) : Option Shape := if fits ([] ++ a0.pts).length = true then some ((⟨a0.kind, ([] ++ a0.pts)⟩ : Shape)) else none
def c_av9 : Con := ⟨Shape, Shape, 91, fun a => [.agg [.v (.int .i64 a.kind), .ro (List.map ePt a.pts)]], fun a => gf_av9 a, fun a r => ⟨[(true, eShape true r)], []⟩, fun a => []⟩
/-! impl.cloneFeat -/
def if_at9 : IFn := ⟨13, [.inr (2, 4)],
 (Rs (sq 1 [Io (.box 100 [none, none, some 66, some 82] (.t 0)), Io (.alloc 100 [.v (.string ⟨#[]⟩), .v (.int .i64 0), .sl true 66 [], .sl true 82 []])] [])
 (.seq (.drw (sq 3 [Fa 0 1, Ld 1 3, Fa 1 1, La 2 5, Ca 91 [6], Io (.lit 82 [none, none] [.v (.string ⟨#[]⟩), .v (.string ⟨#[]⟩)] 0 []), Fa 3 1, Ld 1 9, Io (.app 82 false (.t 8) (.t 10)), Io (.build [.v (.string ⟨#[]⟩), .v (.int .i64 0), .nil, .nil] [(0, 1, .t 4), (1, 2, .t 7), (3, 1, .t 11)])] [Sv [none, none, some 66, some 82] 2 12]) [(1, 3), (1, 4), (1, 5), (3, 5), (4, 5), (1, 7), (3, 7), (4, 7), (5, 7), (1, 8)])
 .ret)), lcF []⟩
def ks_at9 : List (List (Option Nat)) := [[none, none, some 66, some 82]]
def gf_at9 (a0 : Feat) : Option Feat := (gf_av9 a0.shape).bind fun x3 => if fits ([] ++ a0.tags).length = true then some ((⟨a0.id, x3, ([] ++ a0.tags)⟩ : Feat)) else none
def c_at9 : Con := ⟨Feat, Feat, 92, fun a => [.agg [.v (.string a.id), .v (.int .i64 a.shape.kind), .ro (List.map ePt a.shape.pts), .ro (List.map eTag a.tags)]], fun a => gf_at9 a, fun a r => ⟨[(true, eFeat true r)], []⟩, fun a => []⟩
/-! impl.cloneSheet -/
def if_aw9 : IFn := ⟨20, [.inl 2],
 (Rs [Io (.mv (.c (.slice none 0 0))) 2]
 (Rs [Io (.lit 100 [none, none, some 66, some 82] [.v (.string ⟨#[]⟩), .v (.int .i64 0), .sl true 66 [], .sl true 82 []] 0 []) 6, Mv 6 3]
 (.seq (Rs (sq 7 [Mv 0, Ln 7, Ki 0] [])
 (blkC 0 (.loop (Rs [Bb .lss 9 8 10]
 (.seq (Ct 10 .skip
 (.exit 0))
 (.seq (.block 1 (Rs (sq 11 [Ia 4 7 9, La 4 11] [Io (.alloc 100 [.v (.string ⟨#[]⟩), .v (.int .i64 0), .sl true 66 [], .sl true 82 []]) 5, Sv [none, none, some 66, some 82] 5 12])
 (.reg (sq 13 [Mv 3, La 4 5, Ca 92 [14], Io (.lit 100 [none, none, some 66, some 82] [.v (.string ⟨#[]⟩), .v (.int .i64 0), .sl true 66 [], .sl true 82 []] 1 [(0, .t 15)]), Io (.app 100 true (.t 13) (.t 16))] [Mv 17 3]))))
 (.reg [Bk .add 9 1 18, Mv 18 9])))))))
 (Rs [Mv 3 19, Mv 19 2]
 .ret)))), lcF []⟩
def ks_aw9 : List (List (Option Nat)) := [[some 100]]
def gl_aw9_1 : List Feat → Nat → (List Feat) → Option (List Feat)
 | [], k50, v47 => some v47
 | x51 :: l52, k50, v47 => (gf_at9 x51).bind fun x60 => if fits (v47 ++ ([x60] : (List Feat))).length = true then gl_aw9_1 l52 (k50 + 1) (v47 ++ ([x60] : (List Feat))) else none
def gf_aw9 (a0 : (List Feat)) : Option (List Feat) := if fits a0.length = true then ((gl_aw9_1 a0 0 []).bind fun q45 => some (q45)) else none
def c_aw9 : Con := ⟨(List Feat), (List Feat), 93, fun a => [.ro (List.map (eFeat false) a)], fun a => gf_aw9 a, fun a r => ⟨[(false, [sl true 100 (List.map (eFeat true) r)])], []⟩, fun a => []⟩
/-! impl.cloneCommit -/
def if_as9 : IFn := ⟨13, [.inr (2, 3)],
 (Rs (sq 1 [Io (.box 115 [some 17, some 100, none] (.t 0)), Io (.alloc 115 [.sl true 17 [], .sl true 100 [], .v (.string ⟨#[]⟩)])] [])
 (.seq (.drw (sq 3 [Io (.lit 17 [none] [.v (.int .i64 0)] 0 []), Fa 0 1, Ld 1 4, Io (.app 17 false (.t 3) (.t 5)), Fa 1 1, Ld 1 7, Ca 93 [8], Fa 2 1, Ld 1 10, Io (.build [.nil, .nil, .v (.string ⟨#[]⟩)] [(0, 1, .t 6), (1, 1, .t 9), (2, 1, .t 11)])] [Sv [some 17, some 100, none] 2 12]) [(0, 2), (0, 5), (2, 5), (3, 5), (0, 8), (2, 8), (3, 8), (5, 8), (6, 8)])
 .ret)), lcF []⟩
def ks_as9 : List (List (Option Nat)) := [[some 17, some 100, none]]
def gf_as9 (a0 : Commit) : Option Commit := if fits ([] ++ a0.up).length = true then (gf_aw9 a0.sheet).bind fun x7 => some ((⟨([] ++ a0.up), x7, a0.note⟩ : Commit)) else none
def c_as9 : Con := ⟨Commit, Commit, 94, fun a => [.agg [.ro (List.map eInt a.up), .ro (List.map (eFeat false) a.sheet), .v (.string a.note)]], fun a => gf_as9 a, fun a r => ⟨[(true, eCommit true r)], []⟩, fun a => []⟩
/-! impl.RepoOk -/
def if_ah9 : IFn := ⟨112, [.inl 2],
 (Rs (sq 1 [Io (.box 210 [some 115, some 130] (.t 0)), Kb false] [])
 (.seq (Rs (sq 9 [Fa 0 1, Ld 1 9, Ln 10, Io (.call 76 [(false, .t 11), (false, .c (.int .i64 1)), (false, .c (.int .i64 14))]), Nt 12, Mv 13] (Sf 14 15 [Fa 1 1, Ld 1 15, Ln 16, Io (.call 76 [(false, .t 17), (false, .c (.int .i64 1)), (false, .c (.int .i64 4))]), Nt 18] [Pk 14 19 20]))
 (Ct 20 (Rs [Kb false 2]
 .ret)
 .skip))
 (.seq (Rs (sq 21 [Fa 0 1, Ld 1 21, Ln 22, Ki 0] [])
 (blkC 0 (.loop (Rs [Bb .lss 24 23 25]
 (.seq (Ct 25 .skip
 (.exit 0))
 (.seq (.block 1 (Rs (sq 26 [Mv 24, Ia 3 22 24, La 3 27] [Io (.alloc 115 [.sl true 17 [], .sl true 100 [], .v (.string ⟨#[]⟩)]) 4, Mv 26 3, Sv [some 17, some 100, none] 4 28])
 (.seq (Rs (sq 29 [Fa 1 4, Ld 1 29, Ca 86 [30], Nt 31, Mv 32] (Sf 33 34 [Fa 2 4, Ld 1 34, Ca 80 [35], Nt 36] (sq 38 [Pk 33 37, Mv 38] (Sf 39 40 [La 2 1, La 3 4, Ca 87 [40, 41], Mv 3, Bb .neq 42 43] (sq 45 [Pk 39 44, Mv 45] (Sf 46 47 [Mv 3, Bk .eql 47 0, Fa 0 4, Ld 1 49, Ln 50, Bk .eql 51 0, Io (.eqs true false [1] (.t 48) (.t 52))] (sq 54 [Pk 46 53, Mv 54] (Sf 55 56 [Fa 0 4, Ld 1 56, Ln 57, Bk .gtr 58 2] [Pk 55 59 60]))))))))
 (Ct 60 (Rs [Kb false 2]
 .ret)
 .skip))
 (Rs (sq 61 [Fa 0 4, Ld 1 61, Ln 62, Ki 0] [])
 (blkC 2 (.loop (Rs [Bb .lss 64 63 65]
 (.seq (Ct 65 .skip
 (.exit 2))
 (.seq (.block 3 (Rs (sq 66 [Mv 64, Ia 1 62 64, Ld 1 67] (sq 5 [Mv 66, Mv 68] []))
 (Rs (sq 69 [Mv 6, Mv 3, Bk .sub 70 1, Io (.call 76 [(false, .t 69), (false, .c (.int .i64 0)), (false, .t 71)]), Nt 72, Mv 73] (Sf 74 75 [Fa 0 4, Ld 1 75, Mv 5, Io (.sls 1 (.t 76) none (some (.t 77))), Mv 6, Ca 88 [78, 79]] [Pk 74 80 81]))
 (Ct 81 (Rs [Kb false 2]
 .ret)
 .skip))))
 (.reg [Bk .add 64 1 82, Mv 82 64]))))))))))
 (.reg [Bk .add 24 1 83, Mv 83 24])))))))
 (.seq (Rs (sq 84 [Fa 1 1, Ld 1 84, Ln 85, Ki 0] [])
 (blkC 4 (.loop (Rs [Bb .lss 87 86 88]
 (.seq (Ct 88 .skip
 (.exit 4))
 (.seq (.block 5 (Rs (sq 89 [Mv 87, Ia 2 85 87, La 2 90] [Io (.alloc 130 [.v (.string ⟨#[]⟩), .v (.int .i64 0)]) 8, Mv 89 7, Sv [none, none] 8 91])
 (Rs (sq 92 [Fa 0 8, Ld 1 92, Ca 80 [93], Nt 94, Mv 95] (Sf 96 97 [La 2 1, Fa 0 8, Ld 1 98, Ca 89 [97, 99], Mv 7, Bb .neq 100 101] (sq 103 [Pk 96 102, Mv 103] (Sf 104 105 [La 2 1, Fa 1 8, Ld 1 106, Ca 90 [105, 107], Nt 108] [Pk 104 109 110]))))
 (Ct 110 (Rs [Kb false 2]
 .ret)
 .skip))))
 (.reg [Bk .add 87 1 111, Mv 111 87])))))))
 (Rs [Kb true 2]
 .ret))))), lcF []⟩
def ks_ah9 : List (List (Option Nat)) := [[none]]
def gl_ah9_5 (k162 : Nat) (x163 : Commit) : List Int → Nat → Option (Bool ⊕ Unit)
 | [], k205 => some (.inr ())
 | x206 :: l207, k205 => (gf_be9 x206 0 (IntKind.i64.wrap ((k162 : Int) - 1))).bind fun x214 => if (!x214) = true then (some (.inl (false))) else ((slc x163.up 0 (k205 : Int)).bind fun x216 => (gf_dn9 x216 x206).bind fun x218 => if x218 = true then (some (.inl (false))) else (gl_ah9_5 k162 x163 l207 (k205 + 1) ))
def gl_ah9_4 (a0 : Repo) : List Commit → Nat → Option (Bool ⊕ Unit)
 | [], k162 => some (.inr ())
 | x163 :: l164, k162 => (gf_ap9 x163.sheet).bind fun x172 => if (!x172) = true then (some (.inl (false))) else ((gf_ar9 x163.note).bind fun x174 => if (!x174) = true then (some (.inl (false))) else ((gf_ai9 a0 x163).bind fun x176 => if (x176 != (k162 : Int)) = true then (some (.inl (false))) else (if (!(((k162 : Int) == 0) == ((x163.up.length : Int) == 0))) = true then (some (.inl (false))) else (if (decide ((x163.up.length : Int) > 2)) = true then (some (.inl (false))) else (if fits x163.up.length = true then ((gl_ah9_5 k162 x163 x163.up 0 ).bind fun q => match q with | .inl r => some (.inl r) | .inr q203 => gl_ah9_4 a0 l164 (k162 + 1) ) else none)))))
def gl_ah9_6 (a0 : Repo) : List Head → Nat → Option (Bool ⊕ Unit)
 | [], k250 => some (.inr ())
 | x251 :: l252, k250 => (gf_ar9 x251.name).bind fun x260 => if (!x260) = true then (some (.inl (false))) else ((gf_ak9 a0 x251.name).bind fun x262 => if (x262 != (k250 : Int)) = true then (some (.inl (false))) else ((gf_am9 a0 x251.at_).bind fun x264 => if (!x264) = true then (some (.inl (false))) else (gl_ah9_6 a0 l252 (k250 + 1) )))
def gf_ah9 (a0 : Repo) : Option Bool := (gf_be9 (a0.commits.length : Int) 1 14).bind fun x2 => if (!x2) = true then (some (false)) else ((gf_be9 (a0.heads.length : Int) 1 4).bind fun x4 => if (!x4) = true then (some (false)) else (if fits a0.commits.length = true then ((gl_ah9_4 a0 a0.commits 0 ).bind fun q => match q with | .inl r => some r | .inr q160 => if fits a0.heads.length = true then ((gl_ah9_6 a0 a0.heads 0 ).bind fun q => match q with | .inl r => some r | .inr q248 => some (true)) else none) else none))
def c_ah9 : Con := ⟨Repo, Bool, 96, fun a => [.agg [.ro (List.map (eCommit false) a.commits), .ro (List.map eHead a.heads)]], fun a => gf_ah9 a, fun a r => ⟨[(false, [.v (.bool r)])], []⟩, fun a => []⟩
/-! impl.featAt$1 -/
def if_ay9 : IFn := ⟨8, [.inl 3],
 (Rs (sq 2 [Io (.box 100 [none, none, some 66, some 82] (.t 0)), Kb false] [])
 (Rs (sq 4 [Fa 0 2, Ld 1 4, Ld 1 1, Bb .eql 5 6] [Mv 7 3])
 .ret)), lcF []⟩
def ks_ay9 : List (List (Option Nat)) := [[none]]
def gf_ay9 (a0 : Feat) (a1 : Str) : Option Bool := some ((seq a0.id a1))
def c_ay9 : Con := ⟨Feat × Str, Bool, 123, fun a => [.agg [.v (.string a.1.id), .v (.int .i64 a.1.shape.kind), .ro (List.map ePt a.1.shape.pts), .ro (List.map eTag a.1.tags)], .rptr [.v (.string a.2)]], fun a => gf_ay9 a.1 a.2, fun a r => ⟨[(false, [.v (.bool r)])], []⟩, fun a => []⟩
/-! slices.IndexFunc[[]impl.Feat,impl.Feat] -/
def if_dw9 : IFn := ⟨19, [.inl 4],
 (Rs [Ki 0 4]
 (.seq (Rs (sq 6 [Mv 0, Ln 6, Ki 0] [])
 (blkC 0 (.loop (Rs [Bb .lss 8 7 9]
 (.seq (Ct 9 .skip
 (.exit 0))
 (.seq (.block 1 (Rs [Mv 8 10, Mv 10 5]
 (Rs (sq 11 [Mv 1, Mv 0, Mv 5, Ia 4 12 13, La 4 14, Io (.calld (.t 11) [(false, .t 15)])] [])
 (Ct 16 (Rs [Mv 5 17, Mv 17 4]
 .ret)
 .skip))))
 (.reg [Bk .add 8 1 18, Mv 18 8])))))))
 (Rs [Ki (-1) 4]
 .ret))), lcF []⟩
def ks_dw9 : List (List (Option Nat)) := [[none]]
def gl_dx9_1 (a1 : Str) : List Feat → Nat → Option (Int ⊕ Unit)
 | [], k16 => some (.inr ())
 | x17 :: l18, k16 => (gf_ay9 x17 a1).bind fun x25 => if x25 = true then (some (.inl ((k16 : Int)))) else (gl_dx9_1 a1 l18 (k16 + 1) )
def gf_dx9 (a0 : (List Feat)) (a1 : Str) : Option Int := if fits a0.length = true then ((gl_dx9_1 a1 a0 0 ).bind fun q => match q with | .inl r => some r | .inr q14 => some ((-1))) else none
def c_dx9 : Con := ⟨(List Feat) × Str, Int, 124, fun a => [.ro (List.map (eFeat false) a.1), .fn 123 [.rptr [.v (.string a.2)]]], fun a => gf_dx9 a.1 a.2, fun a r => ⟨[(false, [.v (.int .i64 r)])], []⟩, fun a => []⟩
/-! impl.featAt -/
def if_ax9 : IFn := ⟨8, [.inl 4],
 (Rs (sq 3 [Io (.box 49 [none] (.t 1)), Ki 0] [])
 (Rs (sq 5 [Mv 0, Io (.mkf 123 [.t 3]), Ca 124 [5, 6]] [Mv 7 4])
 .ret)), lcF []⟩
def ks_ax9 : List (List (Option Nat)) := [[none]]
def gf_ax9 (a0 : (List Feat)) (a1 : Str) : Option Int := (gf_dx9 a0 a1).bind fun x2 => some (x2)
def c_ax9 : Con := ⟨(List Feat) × Str, Int, 125, fun a => [.ro (List.map (eFeat false) a.1), .v (.string a.2)], fun a => gf_ax9 a.1 a.2, fun a r => ⟨[(false, [.v (.int .i64 r)])], []⟩, fun a => []⟩
/-! impl.side -/
def if_bc9 : IFn := ⟨18, [.inr (4, 4), .inl 5],
 (Rs (sq 4 [Io (.alloc 100 [.v (.string ⟨#[]⟩), .v (.int .i64 0), .sl true 66 [], .sl true 82 []]), Kb false] [])
 (Rs (sq 7 [Mv 0, Mv 1, Ca 125 [7, 8]] [Mv 9 6])
 (.seq (Rs (sq 10 [Mv 6, Bk .lss 10 0] [])
 (Ct 11 (Rs [Io (.build [.v (.string ⟨#[]⟩), .v (.int .i64 0), .nil, .nil] []) 12, Sv [none, none, some 66, some 82] 4 12, Kb false 5]
 .ret)
 .skip))
 (Rs (sq 13 [Mv 0, Mv 6, Ia 4 13 14, La 4 15, Ca 92 [16]] [Sv [none, none, some 66, some 82] 4 17, Kb true 5])
 .ret)))), lcF []⟩
def ks_bc9 : List (List (Option Nat)) := [[none, none, some 66, some 82], [none]]
def gf_bc9 (a0 : (List Feat)) (a1 : Str) : Option (Feat × Bool) := (gf_ax9 a0 a1).bind fun x2 => if (decide (x2 < 0)) = true then (some ((⟨(⟨#[]⟩ : Str), ⟨0, []⟩, []⟩ : Feat), false)) else ((idx a0 x2).bind fun x4 => (gf_at9 x4).bind fun x6 => some (x6, true))
def c_bc9 : Con := ⟨(List Feat) × Str, (Feat × Bool), 126, fun a => [.ro (List.map (eFeat false) a.1), .v (.string a.2)], fun a => gf_bc9 a.1 a.2, fun a r => ⟨[(true, eFeat true r.1), (false, [.v (.bool r.2)])], []⟩, fun a => []⟩
/-! impl.cloneRepo -/
def if_au9 : IFn := ⟨28, [.inr (2, 2)],
 (Rs (sq 1 [Io (.box 210 [some 115, some 130] (.t 0)), Io (.alloc 210 [.sl true 115 [], .sl true 130 []])] [])
 (Rs (sq 6 [Io (.lit 115 [some 17, some 100, none] [.sl true 17 [], .sl true 100 [], .v (.string ⟨#[]⟩)] 0 []), Io (.lit 130 [none, none] [.v (.string ⟨#[]⟩), .v (.int .i64 0)] 0 []), Fa 1 1, Ld 1 8, Io (.app 130 false (.t 7) (.t 9)), Io (.build [.nil, .nil] [(0, 1, .t 6), (1, 1, .t 10)])] [Io (.alloc 210 [.sl true 115 [], .sl true 130 []]) 3, Sv [some 115, some 130] 3 11])
 (.seq (Rs (sq 12 [Fa 0 1, Ld 1 12, Ln 13, Ki 0] [])
 (blkC 0 (.loop (Rs [Bb .lss 15 14 16]
 (.seq (Ct 16 .skip
 (.exit 0))
 (.seq (.block 1 (Rs (sq 17 [Ia 3 13 15, La 3 17] [Io (.alloc 115 [.sl true 17 [], .sl true 100 [], .v (.string ⟨#[]⟩)]) 5, Sv [some 17, some 100, none] 5 18])
 (.drw (sq 19 [Fa 0 3, Ld 1 19, La 3 5, Ca 94 [21], Io (.lit 115 [some 17, some 100, none] [.sl true 17 [], .sl true 100 [], .v (.string ⟨#[]⟩)] 1 [(0, .t 22)]), Io (.app 115 true (.t 20) (.t 23)), Fa 0 3] [Sv [some 115] 25 24]) [(1, 2), (1, 3), (1, 4)])))
 (.reg [Bk .add 15 1 26, Mv 26 15])))))))
 (Rs [La 2 3 27, Sv [some 115, some 130] 2 27]
 .ret)))), lcF []⟩
def ks_au9 : List (List (Option Nat)) := [[some 115, some 130]]
def gl_au9_1 : List Commit → Nat → (List Commit) → Option (List Commit)
 | [], k59, v55 => some v55
 | x60 :: l61, k59, v55 => (gf_as9 x60).bind fun x69 => if fits (v55 ++ ([x69] : (List Commit))).length = true then gl_au9_1 l61 (k59 + 1) (v55 ++ ([x69] : (List Commit))) else none
def gf_au9 (a0 : Repo) : Option Repo := if fits ([] ++ a0.heads).length = true then if fits a0.commits.length = true then ((gl_au9_1 a0.commits 0 []).bind fun q53 => some ((⟨q53, ([] ++ a0.heads)⟩ : Repo))) else none else none
def c_au9 : Con := ⟨Repo, Repo, 150, fun a => [.agg [.ro (List.map (eCommit false) a.commits), .ro (List.map eHead a.heads)]], fun a => gf_au9 a, fun a r => ⟨[(true, eRepo true r)], []⟩, fun a => []⟩
/-! laws.eqPt -/
def if_br9 : IFn := ⟨15, [.inl 4],
 (Rs (sq 2 [Io (.box 66 [none, none] (.t 0)), Io (.box 66 [none, none] (.t 1)), Kb false] [])
 (.seq (Rs (sq 5 [Fa 0 2, Ld 1 5, Fa 0 3, Ld 1 7, Bb .neq 6 8] [])
 (Ct 9 (Rs [Kb false 4]
 .ret)
 .skip))
 (.seq (Rs (sq 10 [Fa 1 2, Ld 1 10, Fa 1 3, Ld 1 12, Bb .neq 11 13] [])
 (Ct 14 (Rs [Kb false 4]
 .ret)
 .skip))
 (Rs [Kb true 4]
 .ret)))), lcF []⟩
def ks_br9 : List (List (Option Nat)) := [[none]]
def gf_br9 (a0 : Pt) (a1 : Pt) : Option Bool := if (a0.x != a1.x) = true then (some (false)) else (if (a0.y != a1.y) = true then (some (false)) else (some (true)))
def c_br9 : Con := ⟨Pt × Pt, Bool, 153, fun a => [.agg [.v (.int .i64 a.1.x), .v (.int .i64 a.1.y)], .agg [.v (.int .i64 a.2.x), .v (.int .i64 a.2.y)]], fun a => gf_br9 a.1 a.2, fun a r => ⟨[(false, [.v (.bool r)])], []⟩, fun a => []⟩
/-! laws.eqPtS -/
def if_bs9 : IFn := ⟨27, [.inl 4],
 (Rs [Kb false 4]
 (.seq (Rs (sq 6 [Mv 0, Ln 6, Mv 1, Ln 8, Bb .neq 7 9] [])
 (Ct 10 (Rs [Kb false 4]
 .ret)
 .skip))
 (.seq (Rs [Ki 0 5]
 (blkC 0 (.loop (.seq (Rs (sq 11 [Mv 5, Mv 0, Ln 12, Bb .lss 11 13] [])
 (Ct 14 .skip
 (.exit 0)))
 (.seq (.block 1 (.seq (.drw (sq 17 [Mv 0, Mv 5, Ia 2 17 18, La 2 19, Mv 1, Mv 5, Ia 2 21 22, La 2 23, Ca 153 [20, 24], Nt 25] []) [(3, 7)])
 (Ct 26 (Rs [Kb false 4]
 .ret)
 .skip)))
 (.reg (sq 15 [Mv 5, Bk .add 15 1] [Mv 16 5])))))))
 (Rs [Kb true 4]
 .ret)))), lcF []⟩
def ks_bs9 : List (List (Option Nat)) := [[none]]
def gl_bs9_1 (a1 : (List Pt)) : List Pt → Nat → Option (Bool ⊕ Unit)
 | [], k22 => some (.inr ())
 | x23 :: l24, k22 => (idx a1 (k22 : Int)).bind fun x31 => (gf_br9 x23 x31).bind fun x33 => if (!x33) = true then (some (.inl (false))) else (gl_bs9_1 a1 l24 (k22 + 1) )
def gf_bs9 (a0 : (List Pt)) (a1 : (List Pt)) : Option Bool := if ((a0.length : Int) != (a1.length : Int)) = true then (some (false)) else (if fits a0.length = true then ((gl_bs9_1 a1 a0 0 ).bind fun q => match q with | .inl r => some r | .inr q20 => some (true)) else none)
def c_bs9 : Con := ⟨(List Pt) × (List Pt), Bool, 154, fun a => [.ro (List.map ePt a.1), .ro (List.map ePt a.2)], fun a => gf_bs9 a.1 a.2, fun a r => ⟨[(false, [.v (.bool r)])], []⟩, fun a => []⟩
/-! laws.eqTag -/
def if_bv9 : IFn := ⟨15, [.inl 4],
 (Rs (sq 2 [Io (.box 82 [none, none] (.t 0)), Io (.box 82 [none, none] (.t 1)), Kb false] [])
 (.seq (Rs (sq 5 [Fa 0 2, Ld 1 5, Fa 0 3, Ld 1 7, Bb .neq 6 8] [])
 (Ct 9 (Rs [Kb false 4]
 .ret)
 .skip))
 (.seq (Rs (sq 10 [Fa 1 2, Ld 1 10, Fa 1 3, Ld 1 12, Bb .neq 11 13] [])
 (Ct 14 (Rs [Kb false 4]
 .ret)
 .skip))
 (Rs [Kb true 4]
 .ret)))), lcF []⟩
def ks_bv9 : List (List (Option Nat)) := [[none]]
def gf_bv9 (a0 : Tag) (a1 : Tag) : Option Bool := if (!seq a0.key a1.key) = true then (some (false)) else (if (!seq a0.val a1.val) = true then (some (false)) else (some (true)))
def c_bv9 : Con := ⟨Tag × Tag, Bool, 155, fun a => [.agg [.v (.string a.1.key), .v (.string a.1.val)], .agg [.v (.string a.2.key), .v (.string a.2.val)]], fun a => gf_bv9 a.1 a.2, fun a r => ⟨[(false, [.v (.bool r)])], []⟩, fun a => []⟩
/-! laws.eqShape -/
def if_bu9 : IFn := ⟨16, [.inl 4],
 (Rs (sq 2 [Io (.box 226 [none, some 66] (.t 0)), Io (.box 226 [none, some 66] (.t 1)), Kb false] [])
 (.seq (Rs (sq 5 [Fa 0 2, Ld 1 5, Fa 0 3, Ld 1 7, Bb .neq 6 8] [])
 (Ct 9 (Rs [Kb false 4]
 .ret)
 .skip))
 (.seq (Rs (sq 10 [Fa 1 2, Ld 1 10, Fa 1 3, Ld 1 12, Ca 154 [11, 13], Nt 14] [])
 (Ct 15 (Rs [Kb false 4]
 .ret)
 .skip))
 (Rs [Kb true 4]
 .ret)))), lcF []⟩
def ks_bu9 : List (List (Option Nat)) := [[none]]
def gf_bu9 (a0 : Shape) (a1 : Shape) : Option Bool := if (a0.kind != a1.kind) = true then (some (false)) else ((gf_bs9 a0.pts a1.pts).bind fun x3 => if (!x3) = true then (some (false)) else (some (true)))
def c_bu9 : Con := ⟨Shape × Shape, Bool, 156, fun a => [.agg [.v (.int .i64 a.1.kind), .ro (List.map ePt a.1.pts)], .agg [.v (.int .i64 a.2.kind), .ro (List.map ePt a.2.pts)]], fun a => gf_bu9 a.1 a.2, fun a r => ⟨[(false, [.v (.bool r)])], []⟩, fun a => []⟩
/-! laws.eqTagS -/
def if_bw9 : IFn := ⟨27, [.inl 4],
 (Rs [Kb false 4]
 (.seq (Rs (sq 6 [Mv 0, Ln 6, Mv 1, Ln 8, Bb .neq 7 9] [])
 (Ct 10 (Rs [Kb false 4]
 .ret)
 .skip))
 (.seq (Rs [Ki 0 5]
 (blkC 0 (.loop (.seq (Rs (sq 11 [Mv 5, Mv 0, Ln 12, Bb .lss 11 13] [])
 (Ct 14 .skip
 (.exit 0)))
 (.seq (.block 1 (.seq (.drw (sq 17 [Mv 0, Mv 5, Ia 2 17 18, La 2 19, Mv 1, Mv 5, Ia 2 21 22, La 2 23, Ca 155 [20, 24], Nt 25] []) [(3, 7)])
 (Ct 26 (Rs [Kb false 4]
 .ret)
 .skip)))
 (.reg (sq 15 [Mv 5, Bk .add 15 1] [Mv 16 5])))))))
 (Rs [Kb true 4]
 .ret)))), lcF []⟩
def ks_bw9 : List (List (Option Nat)) := [[none]]
def gl_bw9_1 (a1 : (List Tag)) : List Tag → Nat → Option (Bool ⊕ Unit)
 | [], k22 => some (.inr ())
 | x23 :: l24, k22 => (idx a1 (k22 : Int)).bind fun x31 => (gf_bv9 x23 x31).bind fun x33 => if (!x33) = true then (some (.inl (false))) else (gl_bw9_1 a1 l24 (k22 + 1) )
def gf_bw9 (a0 : (List Tag)) (a1 : (List Tag)) : Option Bool := if ((a0.length : Int) != (a1.length : Int)) = true then (some (false)) else (if fits a0.length = true then ((gl_bw9_1 a1 a0 0 ).bind fun q => match q with | .inl r => some r | .inr q20 => some (true)) else none)
def c_bw9 : Con := ⟨(List Tag) × (List Tag), Bool, 157, fun a => [.ro (List.map eTag a.1), .ro (List.map eTag a.2)], fun a => gf_bw9 a.1 a.2, fun a r => ⟨[(false, [.v (.bool r)])], []⟩, fun a => []⟩
/-! laws.eqFeat -/
def if_bm9 : IFn := ⟨22, [.inl 4],
 (Rs (sq 2 [Io (.box 100 [none, none, some 66, some 82] (.t 0)), Io (.box 100 [none, none, some 66, some 82] (.t 1)), Kb false] [])
 (.seq (Rs (sq 5 [Fa 0 2, Ld 1 5, Fa 0 3, Ld 1 7, Bb .neq 6 8] [])
 (Ct 9 (Rs [Kb false 4]
 .ret)
 .skip))
 (.seq (Rs (sq 10 [Fa 1 2, La 2 10, Fa 1 3, La 2 12, Ca 156 [11, 13], Nt 14] [])
 (Ct 15 (Rs [Kb false 4]
 .ret)
 .skip))
 (.seq (Rs (sq 16 [Fa 3 2, Ld 1 16, Fa 3 3, Ld 1 18, Ca 157 [17, 19], Nt 20] [])
 (Ct 21 (Rs [Kb false 4]
 .ret)
 .skip))
 (Rs [Kb true 4]
 .ret))))), lcF []⟩
def ks_bm9 : List (List (Option Nat)) := [[none]]
def gf_bm9 (a0 : Feat) (a1 : Feat) : Option Bool := if (!seq a0.id a1.id) = true then (some (false)) else ((gf_bu9 a0.shape a1.shape).bind fun x3 => if (!x3) = true then (some (false)) else ((gf_bw9 a0.tags a1.tags).bind fun x5 => if (!x5) = true then (some (false)) else (some (true))))
def c_bm9 : Con := ⟨Feat × Feat, Bool, 158, fun a => [.agg [.v (.string a.1.id), .v (.int .i64 a.1.shape.kind), .ro (List.map ePt a.1.shape.pts), .ro (List.map eTag a.1.tags)], .agg [.v (.string a.2.id), .v (.int .i64 a.2.shape.kind), .ro (List.map ePt a.2.shape.pts), .ro (List.map eTag a.2.tags)]], fun a => gf_bm9 a.1 a.2, fun a r => ⟨[(false, [.v (.bool r)])], []⟩, fun a => []⟩
/-! laws.eqIntS -/
def if_bq9 : IFn := ⟨26, [.inl 4],
 (Rs [Kb false 4]
 (.seq (Rs (sq 6 [Mv 0, Ln 6, Mv 1, Ln 8, Bb .neq 7 9] [])
 (Ct 10 (Rs [Kb false 4]
 .ret)
 .skip))
 (.seq (Rs [Ki 0 5]
 (blkC 0 (.loop (.seq (Rs (sq 11 [Mv 5, Mv 0, Ln 12, Bb .lss 11 13] [])
 (Ct 14 .skip
 (.exit 0)))
 (.seq (.block 1 (.seq (.drw (sq 17 [Mv 0, Mv 5, Ia 1 17 18, Ld 1 19, Mv 1, Mv 5, Ia 1 21 22, Ld 1 23, Bb .neq 20 24] []) [(3, 7)])
 (Ct 25 (Rs [Kb false 4]
 .ret)
 .skip)))
 (.reg (sq 15 [Mv 5, Bk .add 15 1] [Mv 16 5])))))))
 (Rs [Kb true 4]
 .ret)))), lcF []⟩
def ks_bq9 : List (List (Option Nat)) := [[none]]
def gl_bq9_1 (a1 : (List Int)) : List Int → Nat → Option (Bool ⊕ Unit)
 | [], k16 => some (.inr ())
 | x17 :: l18, k16 => (idx a1 (k16 : Int)).bind fun x25 => if (x17 != x25) = true then (some (.inl (false))) else (gl_bq9_1 a1 l18 (k16 + 1) )
def gf_bq9 (a0 : (List Int)) (a1 : (List Int)) : Option Bool := if ((a0.length : Int) != (a1.length : Int)) = true then (some (false)) else (if fits a0.length = true then ((gl_bq9_1 a1 a0 0 ).bind fun q => match q with | .inl r => some r | .inr q14 => some (true)) else none)
def c_bq9 : Con := ⟨(List Int) × (List Int), Bool, 159, fun a => [.ro (List.map eInt a.1), .ro (List.map eInt a.2)], fun a => gf_bq9 a.1 a.2, fun a r => ⟨[(false, [.v (.bool r)])], []⟩, fun a => []⟩
/-! laws.eqFeatS -/
def if_bn9 : IFn := ⟨27, [.inl 4],
 (Rs [Kb false 4]
 (.seq (Rs (sq 6 [Mv 0, Ln 6, Mv 1, Ln 8, Bb .neq 7 9] [])
 (Ct 10 (Rs [Kb false 4]
 .ret)
 .skip))
 (.seq (Rs [Ki 0 5]
 (blkC 0 (.loop (.seq (Rs (sq 11 [Mv 5, Mv 0, Ln 12, Bb .lss 11 13] [])
 (Ct 14 .skip
 (.exit 0)))
 (.seq (.block 1 (.seq (.drw (sq 17 [Mv 0, Mv 5, Ia 4 17 18, La 4 19, Mv 1, Mv 5, Ia 4 21 22, La 4 23, Ca 158 [20, 24], Nt 25] []) [(3, 7)])
 (Ct 26 (Rs [Kb false 4]
 .ret)
 .skip)))
 (.reg (sq 15 [Mv 5, Bk .add 15 1] [Mv 16 5])))))))
 (Rs [Kb true 4]
 .ret)))), lcF []⟩
def ks_bn9 : List (List (Option Nat)) := [[none]]
def gl_bn9_1 (a1 : (List Feat)) : List Feat → Nat → Option (Bool ⊕ Unit)
 | [], k22 => some (.inr ())
 | x23 :: l24, k22 => (idx a1 (k22 : Int)).bind fun x31 => (gf_bm9 x23 x31).bind fun x33 => if (!x33) = true then (some (.inl (false))) else (gl_bn9_1 a1 l24 (k22 + 1) )
def gf_bn9 (a0 : (List Feat)) (a1 : (List Feat)) : Option Bool := if ((a0.length : Int) != (a1.length : Int)) = true then (some (false)) else (if fits a0.length = true then ((gl_bn9_1 a1 a0 0 ).bind fun q => match q with | .inl r => some r | .inr q20 => some (true)) else none)
def c_bn9 : Con := ⟨(List Feat) × (List Feat), Bool, 160, fun a => [.ro (List.map (eFeat false) a.1), .ro (List.map (eFeat false) a.2)], fun a => gf_bn9 a.1 a.2, fun a r => ⟨[(false, [.v (.bool r)])], []⟩, fun a => []⟩
/-! laws.eqCommit -/
def if_bi9 : IFn := ⟨22, [.inl 4],
 (Rs (sq 2 [Io (.box 115 [some 17, some 100, none] (.t 0)), Io (.box 115 [some 17, some 100, none] (.t 1)), Kb false] [])
 (.seq (Rs (sq 5 [Fa 0 2, Ld 1 5, Fa 0 3, Ld 1 7, Ca 159 [6, 8], Nt 9] [])
 (Ct 10 (Rs [Kb false 4]
 .ret)
 .skip))
 (.seq (Rs (sq 11 [Fa 1 2, Ld 1 11, Fa 1 3, Ld 1 13, Ca 160 [12, 14], Nt 15] [])
 (Ct 16 (Rs [Kb false 4]
 .ret)
 .skip))
 (.seq (Rs (sq 17 [Fa 2 2, Ld 1 17, Fa 2 3, Ld 1 19, Bb .neq 18 20] [])
 (Ct 21 (Rs [Kb false 4]
 .ret)
 .skip))
 (Rs [Kb true 4]
 .ret))))), lcF []⟩
def ks_bi9 : List (List (Option Nat)) := [[none]]
def gf_bi9 (a0 : Commit) (a1 : Commit) : Option Bool := (gf_bq9 a0.up a1.up).bind fun x3 => if (!x3) = true then (some (false)) else ((gf_bn9 a0.sheet a1.sheet).bind fun x5 => if (!x5) = true then (some (false)) else (if (!seq a0.note a1.note) = true then (some (false)) else (some (true))))
def c_bi9 : Con := ⟨Commit × Commit, Bool, 161, fun a => [.agg [.ro (List.map eInt a.1.up), .ro (List.map (eFeat false) a.1.sheet), .v (.string a.1.note)], .agg [.ro (List.map eInt a.2.up), .ro (List.map (eFeat false) a.2.sheet), .v (.string a.2.note)]], fun a => gf_bi9 a.1 a.2, fun a r => ⟨[(false, [.v (.bool r)])], []⟩, fun a => []⟩
/-! laws.eqHead -/
def if_bo9 : IFn := ⟨15, [.inl 4],
 (Rs (sq 2 [Io (.box 130 [none, none] (.t 0)), Io (.box 130 [none, none] (.t 1)), Kb false] [])
 (.seq (Rs (sq 5 [Fa 0 2, Ld 1 5, Fa 0 3, Ld 1 7, Bb .neq 6 8] [])
 (Ct 9 (Rs [Kb false 4]
 .ret)
 .skip))
 (.seq (Rs (sq 10 [Fa 1 2, Ld 1 10, Fa 1 3, Ld 1 12, Bb .neq 11 13] [])
 (Ct 14 (Rs [Kb false 4]
 .ret)
 .skip))
 (Rs [Kb true 4]
 .ret)))), lcF []⟩
def ks_bo9 : List (List (Option Nat)) := [[none]]
def gf_bo9 (a0 : Head) (a1 : Head) : Option Bool := if (!seq a0.name a1.name) = true then (some (false)) else (if (a0.at_ != a1.at_) = true then (some (false)) else (some (true)))
def c_bo9 : Con := ⟨Head × Head, Bool, 162, fun a => [.agg [.v (.string a.1.name), .v (.int .i64 a.1.at_)], .agg [.v (.string a.2.name), .v (.int .i64 a.2.at_)]], fun a => gf_bo9 a.1 a.2, fun a r => ⟨[(false, [.v (.bool r)])], []⟩, fun a => []⟩
/-! laws.eqCommitS -/
def if_bj9 : IFn := ⟨27, [.inl 4],
 (Rs [Kb false 4]
 (.seq (Rs (sq 6 [Mv 0, Ln 6, Mv 1, Ln 8, Bb .neq 7 9] [])
 (Ct 10 (Rs [Kb false 4]
 .ret)
 .skip))
 (.seq (Rs [Ki 0 5]
 (blkC 0 (.loop (.seq (Rs (sq 11 [Mv 5, Mv 0, Ln 12, Bb .lss 11 13] [])
 (Ct 14 .skip
 (.exit 0)))
 (.seq (.block 1 (.seq (.drw (sq 17 [Mv 0, Mv 5, Ia 3 17 18, La 3 19, Mv 1, Mv 5, Ia 3 21 22, La 3 23, Ca 161 [20, 24], Nt 25] []) [(3, 7)])
 (Ct 26 (Rs [Kb false 4]
 .ret)
 .skip)))
 (.reg (sq 15 [Mv 5, Bk .add 15 1] [Mv 16 5])))))))
 (Rs [Kb true 4]
 .ret)))), lcF []⟩
def ks_bj9 : List (List (Option Nat)) := [[none]]
def gl_bj9_1 (a1 : (List Commit)) : List Commit → Nat → Option (Bool ⊕ Unit)
 | [], k22 => some (.inr ())
 | x23 :: l24, k22 => (idx a1 (k22 : Int)).bind fun x31 => (gf_bi9 x23 x31).bind fun x33 => if (!x33) = true then (some (.inl (false))) else (gl_bj9_1 a1 l24 (k22 + 1) )
def gf_bj9 (a0 : (List Commit)) (a1 : (List Commit)) : Option Bool := if ((a0.length : Int) != (a1.length : Int)) = true then (some (false)) else (if fits a0.length = true then ((gl_bj9_1 a1 a0 0 ).bind fun q => match q with | .inl r => some r | .inr q20 => some (true)) else none)
def c_bj9 : Con := ⟨(List Commit) × (List Commit), Bool, 163, fun a => [.ro (List.map (eCommit false) a.1), .ro (List.map (eCommit false) a.2)], fun a => gf_bj9 a.1 a.2, fun a r => ⟨[(false, [.v (.bool r)])], []⟩, fun a => []⟩
/-! laws.eqHeadS -/
def if_bp9 : IFn := ⟨27, [.inl 4],
 (Rs [Kb false 4]
 (.seq (Rs (sq 6 [Mv 0, Ln 6, Mv 1, Ln 8, Bb .neq 7 9] [])
 (Ct 10 (Rs [Kb false 4]
 .ret)
 .skip))
 (.seq (Rs [Ki 0 5]
 (blkC 0 (.loop (.seq (Rs (sq 11 [Mv 5, Mv 0, Ln 12, Bb .lss 11 13] [])
 (Ct 14 .skip
 (.exit 0)))
 (.seq (.block 1 (.seq (.drw (sq 17 [Mv 0, Mv 5, Ia 2 17 18, La 2 19, Mv 1, Mv 5, Ia 2 21 22, La 2 23, Ca 162 [20, 24], Nt 25] []) [(3, 7)])
 (Ct 26 (Rs [Kb false 4]
 .ret)
 .skip)))
 (.reg (sq 15 [Mv 5, Bk .add 15 1] [Mv 16 5])))))))
 (Rs [Kb true 4]
 .ret)))), lcF []⟩
def ks_bp9 : List (List (Option Nat)) := [[none]]
def gl_bp9_1 (a1 : (List Head)) : List Head → Nat → Option (Bool ⊕ Unit)
 | [], k22 => some (.inr ())
 | x23 :: l24, k22 => (idx a1 (k22 : Int)).bind fun x31 => (gf_bo9 x23 x31).bind fun x33 => if (!x33) = true then (some (.inl (false))) else (gl_bp9_1 a1 l24 (k22 + 1) )
def gf_bp9 (a0 : (List Head)) (a1 : (List Head)) : Option Bool := if ((a0.length : Int) != (a1.length : Int)) = true then (some (false)) else (if fits a0.length = true then ((gl_bp9_1 a1 a0 0 ).bind fun q => match q with | .inl r => some r | .inr q20 => some (true)) else none)
def c_bp9 : Con := ⟨(List Head) × (List Head), Bool, 164, fun a => [.ro (List.map eHead a.1), .ro (List.map eHead a.2)], fun a => gf_bp9 a.1 a.2, fun a r => ⟨[(false, [.v (.bool r)])], []⟩, fun a => []⟩
/-! laws.markText -/
def if_cn9 : IFn := ⟨20, [.inl 2],
 (Rs [Io (.mv (.c (.string ⟨#[]⟩))) 2]
 (.seq (Rs (sq 4 [Mv 0, Bk .leq 4 0] [])
 (Ct 5 (Rs [Io (.mv (.c (.string ⟨#[109, 48]⟩))) 2]
 .ret)
 .skip))
 (Rs [Io (.mv (.c (.string ⟨#[]⟩))) 3]
 (seqC (.block 0 (.loop (.seq (Rs (sq 6 [Mv 0, Bk .gtr 6 0] [])
 (Ct 7 .skip
 (.exit 0)))
 (.block 1 (Rs (sq 8 [Mv 0, Bk .rem 8 10, Io (.bin .add (.c (.int .i64 48)) (.t 9)), Io (.conv .u8 (.t 10)), Io (.lit 257 [none] [.v (.int .u8 0)] 1 [(0, .t 11)]), Io (.bytes (.t 12)), Mv 3, Bb .add 13 14] [Mv 15 3])
 (.reg (sq 16 [Mv 0, Bk .quo 16 10] [Mv 17 0])))))))
 (Rs (sq 18 [Mv 3, Io (.bin .add (.c (.string ⟨#[109]⟩)) (.t 18))] [Mv 19 2])
 .ret))))), lcF []⟩
def ks_cn9 : List (List (Option Nat)) := [[none]]
def gl_cn9_1 : Nat → Int → Str → Option Str
 | 0, _, _ => none
 | n12 + 1, v10, v11 => if (decide (v10 > 0)) = true then ((cat (bstr ([(IntKind.u8.wrap (IntKind.i64.wrap (48 + (Int.tmod v10 10))))] : (List Int))) v11).bind fun x14 => gl_cn9_1 n12 (IntKind.i64.wrap (Int.tdiv v10 10)) x14) else (some v11)
def gf_cn9 (a0 : Int) : Option Str := if (decide (a0 ≤ 0)) = true then (some ((⟨#[109, 48]⟩ : Str))) else ((gl_cn9_1 rounds a0 (⟨#[]⟩ : Str)).bind fun q9 => (cat (⟨#[109]⟩ : Str) q9).bind fun x17 => some (x17))
def c_cn9 : Con := ⟨Int, Str, 166, fun a => [.v (.int .i64 a)], fun a => gf_cn9 a, fun a r => ⟨[(false, [.v (.string r)])], []⟩, fun a => []⟩
/-! laws.markPtS -/
def if_ck9 : IFn := ⟨27, [.inl 4],
 (Rs [Ki 0 4]
 (.seq (Rs [Ki 0 5]
 (blkC 0 (.loop (.seq (Rs (sq 6 [Mv 5, Mv 0, Ln 7, Bb .lss 6 8] [])
 (Ct 9 .skip
 (.exit 0)))
 (.seq (.block 1 (Rs (sq 12 [Mv 0, Mv 5, Mv 1, Ia 2 12 13, Fa 0 15] [Sv [none] 16 14])
 (Rs (sq 17 [Mv 1, Bk .add 17 1] [Mv 18 1])
 (Rs (sq 19 [Mv 0, Mv 5, Mv 1, Ia 2 19 20, Fa 1 22] [Sv [none] 23 21])
 (.reg (sq 24 [Mv 1, Bk .add 24 1] [Mv 25 1]))))))
 (.reg (sq 10 [Mv 5, Bk .add 10 1] [Mv 11 5])))))))
 (Rs [Mv 1 26, Mv 26 4]
 .ret))), lcF []⟩
def ks_ck9 : List (List (Option Nat)) := [[none]]
def gl_ck9_1 : Nat → Int → Int → (List Pt) → Option (Int × (List Pt))
 | 0, _, _, _ => none
 | n20 + 1, v17, v18, v19 => if (decide (v18 < (v19.length : Int))) = true then ((idx v19 v18).bind fun x21 => (idx (List.set v19 v18.toNat (⟨v17, x21.y⟩ : Pt)) v18).bind fun x23 => gl_ck9_1 n20 (IntKind.i64.wrap ((IntKind.i64.wrap (v17 + 1)) + 1)) (IntKind.i64.wrap (v18 + 1)) (List.set (List.set v19 v18.toNat (⟨v17, x21.y⟩ : Pt)) v18.toNat (⟨x23.x, (IntKind.i64.wrap (v17 + 1))⟩ : Pt))) else (some (v17, v19))
def gf_ck9 (a0 : (List Pt)) (a1 : Int) : Option (Int × (List Pt)) := (gl_ck9_1 rounds a1 0 a0).bind fun q16 => some (q16.1, q16.2)
def c_ck9 : Con := ⟨(List Pt) × Int, (Int × (List Pt)), 167, fun a => [.io 0 a.1.length 66, .v (.int .i64 a.2)], fun a => gf_ck9 a.1 a.2, fun a r => ⟨[(false, [.v (.int .i64 r.1)])], [some (List.map ePt r.2)]⟩, fun a => [(false, 66, List.map ePt a.1)]⟩
theorem l_ck9 {a0 : (List Pt)} {a1 : Int} {r : (Int × (List Pt))} (h : gf_ck9 a0 a1 = some r) : (r.2).length = (a0).length := by
 unfold gf_ck9 at h
 obtain ⟨q, h1, h2⟩ := bnd h
 have key := fuelLen (gl := gl_ck9_1) (fun _ _ _ => rfl) (fun n k i a q h => by
  simp only [gl_ck9_1] at h
  split at h
  ·simp only [Option.bind_eq_some_iff] at h
   obtain ⟨_, _, _, _, h⟩ := h
   exact .inl ⟨_, _, _, by simp, h⟩
  ·cases h
   exact .inr rfl) _ _ _ _ _ h1
 cases h2
 exact key

/-! laws.markTagS -/
def if_cm9 : IFn := ⟨29, [.inl 4],
 (Rs [Ki 0 4]
 (.seq (Rs [Ki 0 5]
 (blkC 0 (.loop (.seq (Rs (sq 6 [Mv 5, Mv 0, Ln 7, Bb .lss 6 8] [])
 (Ct 9 .skip
 (.exit 0)))
 (.seq (.block 1 (Rs (sq 12 [Mv 0, Mv 5, Mv 1, Ca 166 [14], Ia 2 12 13, Fa 0 16] [Sv [none] 17 15])
 (Rs (sq 18 [Mv 1, Bk .add 18 1] [Mv 19 1])
 (Rs (sq 20 [Mv 0, Mv 5, Mv 1, Ca 166 [22], Ia 2 20 21, Fa 1 24] [Sv [none] 25 23])
 (.reg (sq 26 [Mv 1, Bk .add 26 1] [Mv 27 1]))))))
 (.reg (sq 10 [Mv 5, Bk .add 10 1] [Mv 11 5])))))))
 (Rs [Mv 1 28, Mv 28 4]
 .ret))), lcF []⟩
def ks_cm9 : List (List (Option Nat)) := [[none]]
def gl_cm9_1 : Nat → Int → Int → (List Tag) → Option (Int × (List Tag))
 | 0, _, _, _ => none
 | n32 + 1, v29, v30, v31 => if (decide (v30 < (v31.length : Int))) = true then ((gf_cn9 v29).bind fun x33 => (idx v31 v30).bind fun x35 => (gf_cn9 (IntKind.i64.wrap (v29 + 1))).bind fun x37 => (idx (List.set v31 v30.toNat (⟨x33, x35.val⟩ : Tag)) v30).bind fun x39 => gl_cm9_1 n32 (IntKind.i64.wrap ((IntKind.i64.wrap (v29 + 1)) + 1)) (IntKind.i64.wrap (v30 + 1)) (List.set (List.set v31 v30.toNat (⟨x33, x35.val⟩ : Tag)) v30.toNat (⟨x39.key, x37⟩ : Tag))) else (some (v29, v31))
def gf_cm9 (a0 : (List Tag)) (a1 : Int) : Option (Int × (List Tag)) := (gl_cm9_1 rounds a1 0 a0).bind fun q28 => some (q28.1, q28.2)
def c_cm9 : Con := ⟨(List Tag) × Int, (Int × (List Tag)), 168, fun a => [.io 0 a.1.length 82, .v (.int .i64 a.2)], fun a => gf_cm9 a.1 a.2, fun a r => ⟨[(false, [.v (.int .i64 r.1)])], [some (List.map eTag r.2)]⟩, fun a => [(false, 82, List.map eTag a.1)]⟩
theorem l_cm9 {a0 : (List Tag)} {a1 : Int} {r : (Int × (List Tag))} (h : gf_cm9 a0 a1 = some r) : (r.2).length = (a0).length := by
 unfold gf_cm9 at h
 obtain ⟨q, h1, h2⟩ := bnd h
 have key := fuelLen (gl := gl_cm9_1) (fun _ _ _ => rfl) (fun n k i a q h => by
  simp only [gl_cm9_1] at h
  split at h
  ·simp only [Option.bind_eq_some_iff] at h
   obtain ⟨_, _, _, _, _, _, _, _, h⟩ := h
   exact .inl ⟨_, _, _, by simp, h⟩
  ·cases h
   exact .inr rfl) _ _ _ _ _ h1
 cases h2
 exact key

/-! laws.markIntS -/
def if_cj9 : IFn := ⟨19, [.inl 4],
 (Rs [Ki 0 4]
 (.seq (Rs [Ki 0 5]
 (blkC 0 (.loop (.seq (Rs (sq 6 [Mv 5, Mv 0, Ln 7, Bb .lss 6 8] [])
 (Ct 9 .skip
 (.exit 0)))
 (.seq (.block 1 (Rs (sq 12 [Mv 0, Mv 5, Mv 1, Ia 1 12 13] [Sv [none] 15 14])
 (.reg (sq 16 [Mv 1, Bk .add 16 1] [Mv 17 1]))))
 (.reg (sq 10 [Mv 5, Bk .add 10 1] [Mv 11 5])))))))
 (Rs [Mv 1 18, Mv 18 4]
 .ret))), lcF []⟩
def ks_cj9 : List (List (Option Nat)) := [[none]]
def gl_cj9_1 : Nat → Int → Int → (List Int) → Option (Int × (List Int))
 | 0, _, _, _ => none
 | n16 + 1, v13, v14, v15 => if (decide (v14 < (v15.length : Int))) = true then ((idx v15 v14).bind fun x17 => gl_cj9_1 n16 (IntKind.i64.wrap (v13 + 1)) (IntKind.i64.wrap (v14 + 1)) (List.set v15 v14.toNat v13)) else (some (v13, v15))
def gf_cj9 (a0 : (List Int)) (a1 : Int) : Option (Int × (List Int)) := (gl_cj9_1 rounds a1 0 a0).bind fun q12 => some (q12.1, q12.2)
def c_cj9 : Con := ⟨(List Int) × Int, (Int × (List Int)), 169, fun a => [.io 0 a.1.length 17, .v (.int .i64 a.2)], fun a => gf_cj9 a.1 a.2, fun a r => ⟨[(false, [.v (.int .i64 r.1)])], [some (List.map eInt r.2)]⟩, fun a => [(false, 17, List.map eInt a.1)]⟩
theorem l_cj9 {a0 : (List Int)} {a1 : Int} {r : (Int × (List Int))} (h : gf_cj9 a0 a1 = some r) : (r.2).length = (a0).length := by
 unfold gf_cj9 at h
 obtain ⟨q, h1, h2⟩ := bnd h
 have key := fuelLen (gl := gl_cj9_1) (fun _ _ _ => rfl) (fun n k i a q h => by
  simp only [gl_cj9_1] at h
  split at h
  ·simp only [Option.bind_eq_some_iff] at h
   obtain ⟨_, _, h⟩ := h
   exact .inl ⟨_, _, _, by simp, h⟩
  ·cases h
   exact .inr rfl) _ _ _ _ _ h1
 cases h2
 exact key

/-! laws.markFeatS -/
def if_ch9 : IFn := ⟨44, [.inl 4],
 (Rs [Ki 0 4]
 (.seq (Rs [Ki 0 5]
 (blkC 0 (.loop (.seq (Rs (sq 6 [Mv 5, Mv 0, Ln 7, Bb .lss 6 8] [])
 (Ct 9 .skip
 (.exit 0)))
 (.seq (.block 1 (Rs (sq 12 [Mv 0, Mv 5, Mv 1, Ca 166 [14], Ia 4 12 13, Fa 0 16] [Sv [none] 17 15])
 (Rs (sq 18 [Mv 1, Bk .add 18 1] [Mv 19 1])
 (Rs (sq 20 [Mv 0, Mv 5, Mv 1, Ia 4 20 21, Fa 1 23, Fa 0 24] [Sv [none] 25 22])
 (Rs (sq 26 [Mv 1, Bk .add 26 1] [Mv 27 1])
 (Rs (sq 28 [Mv 0, Mv 5, Ia 4 28 29, Fa 1 30, Fa 1 31, Ld 1 32, Mv 1, Io (.shut (.t 32) (.call 167 [(true, .t 33), (false, .t 34)]))] [Mv 35 1])
 (.reg (sq 36 [Mv 0, Mv 5, Ia 4 36 37, Fa 3 38, Ld 1 39, Mv 1, Io (.shut (.t 39) (.call 168 [(true, .t 40), (false, .t 41)]))] [Mv 42 1]))))))))
 (.reg (sq 10 [Mv 5, Bk .add 10 1] [Mv 11 5])))))))
 (Rs [Mv 1 43, Mv 43 4]
 .ret))), lcF []⟩
def ks_ch9 : List (List (Option Nat)) := [[none]]
def gl_ch9_1 : Nat → Int → Int → (List Feat) → Option (Int × (List Feat))
 | 0, _, _, _ => none
 | n62 + 1, v59, v60, v61 => if (decide (v60 < (v61.length : Int))) = true then ((gf_cn9 v59).bind fun x63 => (idx v61 v60).bind fun x65 => (idx (List.set v61 v60.toNat (⟨x63, x65.shape, x65.tags⟩ : Feat)) v60).bind fun x67 => (idx (List.set (List.set v61 v60.toNat (⟨x63, x65.shape, x65.tags⟩ : Feat)) v60.toNat (⟨x67.id, ⟨(IntKind.i64.wrap (v59 + 1)), x67.shape.pts⟩, x67.tags⟩ : Feat)) v60).bind fun x69 => (gf_ck9 x69.shape.pts (IntKind.i64.wrap ((IntKind.i64.wrap (v59 + 1)) + 1))).bind fun x73 => (idx (List.set (List.set (List.set v61 v60.toNat (⟨x63, x65.shape, x65.tags⟩ : Feat)) v60.toNat (⟨x67.id, ⟨(IntKind.i64.wrap (v59 + 1)), x67.shape.pts⟩, x67.tags⟩ : Feat)) v60.toNat (⟨x69.id, ⟨x69.shape.kind, x73.2⟩, x69.tags⟩ : Feat)) v60).bind fun x75 => (gf_cm9 x75.tags x73.1).bind fun x79 => gl_ch9_1 n62 x79.1 (IntKind.i64.wrap (v60 + 1)) (List.set (List.set (List.set (List.set v61 v60.toNat (⟨x63, x65.shape, x65.tags⟩ : Feat)) v60.toNat (⟨x67.id, ⟨(IntKind.i64.wrap (v59 + 1)), x67.shape.pts⟩, x67.tags⟩ : Feat)) v60.toNat (⟨x69.id, ⟨x69.shape.kind, x73.2⟩, x69.tags⟩ : Feat)) v60.toNat (⟨x75.id, x75.shape, x79.2⟩ : Feat))) else (some (v59, v61))
def gf_ch9 (a0 : (List Feat)) (a1 : Int) : Option (Int × (List Feat)) := (gl_ch9_1 rounds a1 0 a0).bind fun q58 => some (q58.1, q58.2)
def c_ch9 : Con := ⟨(List Feat) × Int, (Int × (List Feat)), 170, fun a => [.io 0 a.1.length 100, .v (.int .i64 a.2)], fun a => gf_ch9 a.1 a.2, fun a r => ⟨[(false, [.v (.int .i64 r.1)])], [some (List.map (eFeat true) r.2)]⟩, fun a => [(false, 100, List.map (eFeat true) a.1)]⟩
theorem l_ch9 {a0 : (List Feat)} {a1 : Int} {r : (Int × (List Feat))} (h : gf_ch9 a0 a1 = some r) : (r.2).length = (a0).length := by
 unfold gf_ch9 at h
 obtain ⟨q, h1, h2⟩ := bnd h
 have key := fuelLen (gl := gl_ch9_1) (fun _ _ _ => rfl) (fun n k i a q h => by
  simp only [gl_ch9_1] at h
  split at h
  ·simp only [Option.bind_eq_some_iff] at h
   obtain ⟨_, _, _, _, _, _, _, _, _, _, _, _, _, _, h⟩ := h
   exact .inl ⟨_, _, _, by simp, h⟩
  ·cases h
   exact .inr rfl) _ _ _ _ _ h1
 cases h2
 exact key

/-! laws.markCommitS -/
def if_cf9 : IFn := ⟨35, [.inl 4],
 (Rs [Ki 0 4]
 (.seq (Rs [Ki 0 5]
 (blkC 0 (.loop (.seq (Rs (sq 6 [Mv 5, Mv 0, Ln 7, Bb .lss 6 8] [])
 (Ct 9 .skip
 (.exit 0)))
 (.seq (.block 1 (Rs (sq 12 [Mv 0, Mv 5, Ia 3 12 13, Fa 0 14, Ld 1 15, Mv 1, Io (.shut (.t 15) (.call 169 [(true, .t 16), (false, .t 17)]))] [Mv 18 1])
 (Rs (sq 19 [Mv 0, Mv 5, Ia 3 19 20, Fa 1 21, Ld 1 22, Mv 1, Io (.shut (.t 22) (.call 170 [(true, .t 23), (false, .t 24)]))] [Mv 25 1])
 (Rs (sq 26 [Mv 0, Mv 5, Mv 1, Ca 166 [28], Ia 3 26 27, Fa 2 30] [Sv [none] 31 29])
 (.reg (sq 32 [Mv 1, Bk .add 32 1] [Mv 33 1]))))))
 (.reg (sq 10 [Mv 5, Bk .add 10 1] [Mv 11 5])))))))
 (Rs [Mv 1 34, Mv 34 4]
 .ret))), lcF []⟩
def ks_cf9 : List (List (Option Nat)) := [[none]]
def gl_cf9_1 : Nat → Int → Int → (List Commit) → Option (Int × (List Commit))
 | 0, _, _, _ => none
 | n56 + 1, v53, v54, v55 => if (decide (v54 < (v55.length : Int))) = true then ((idx v55 v54).bind fun x57 => (gf_cj9 x57.up v53).bind fun x61 => (idx (List.set v55 v54.toNat (⟨x61.2, x57.sheet, x57.note⟩ : Commit)) v54).bind fun x63 => (gf_ch9 x63.sheet x61.1).bind fun x67 => (gf_cn9 x67.1).bind fun x69 => (idx (List.set (List.set v55 v54.toNat (⟨x61.2, x57.sheet, x57.note⟩ : Commit)) v54.toNat (⟨x63.up, x67.2, x63.note⟩ : Commit)) v54).bind fun x71 => gl_cf9_1 n56 (IntKind.i64.wrap (x67.1 + 1)) (IntKind.i64.wrap (v54 + 1)) (List.set (List.set (List.set v55 v54.toNat (⟨x61.2, x57.sheet, x57.note⟩ : Commit)) v54.toNat (⟨x63.up, x67.2, x63.note⟩ : Commit)) v54.toNat (⟨x71.up, x71.sheet, x69⟩ : Commit))) else (some (v53, v55))
def gf_cf9 (a0 : (List Commit)) (a1 : Int) : Option (Int × (List Commit)) := (gl_cf9_1 rounds a1 0 a0).bind fun q52 => some (q52.1, q52.2)
def c_cf9 : Con := ⟨(List Commit) × Int, (Int × (List Commit)), 171, fun a => [.io 0 a.1.length 115, .v (.int .i64 a.2)], fun a => gf_cf9 a.1 a.2, fun a r => ⟨[(false, [.v (.int .i64 r.1)])], [some (List.map (eCommit true) r.2)]⟩, fun a => [(false, 115, List.map (eCommit true) a.1)]⟩
theorem l_cf9 {a0 : (List Commit)} {a1 : Int} {r : (Int × (List Commit))} (h : gf_cf9 a0 a1 = some r) : (r.2).length = (a0).length := by
 unfold gf_cf9 at h
 obtain ⟨q, h1, h2⟩ := bnd h
 have key := fuelLen (gl := gl_cf9_1) (fun _ _ _ => rfl) (fun n k i a q h => by
  simp only [gl_cf9_1] at h
  split at h
  ·simp only [Option.bind_eq_some_iff] at h
   obtain ⟨_, _, _, _, _, _, _, _, _, _, _, _, h⟩ := h
   exact .inl ⟨_, _, _, by simp, h⟩
  ·cases h
   exact .inr rfl) _ _ _ _ _ h1
 cases h2
 exact key

/-! laws.markHeadS -/
def if_ci9 : IFn := ⟨28, [.inl 4],
 (Rs [Ki 0 4]
 (.seq (Rs [Ki 0 5]
 (blkC 0 (.loop (.seq (Rs (sq 6 [Mv 5, Mv 0, Ln 7, Bb .lss 6 8] [])
 (Ct 9 .skip
 (.exit 0)))
 (.seq (.block 1 (Rs (sq 12 [Mv 0, Mv 5, Mv 1, Ca 166 [14], Ia 2 12 13, Fa 0 16] [Sv [none] 17 15])
 (Rs (sq 18 [Mv 1, Bk .add 18 1] [Mv 19 1])
 (Rs (sq 20 [Mv 0, Mv 5, Mv 1, Ia 2 20 21, Fa 1 23] [Sv [none] 24 22])
 (.reg (sq 25 [Mv 1, Bk .add 25 1] [Mv 26 1]))))))
 (.reg (sq 10 [Mv 5, Bk .add 10 1] [Mv 11 5])))))))
 (Rs [Mv 1 27, Mv 27 4]
 .ret))), lcF []⟩
def ks_ci9 : List (List (Option Nat)) := [[none]]
def gl_ci9_1 : Nat → Int → Int → (List Head) → Option (Int × (List Head))
 | 0, _, _, _ => none
 | n26 + 1, v23, v24, v25 => if (decide (v24 < (v25.length : Int))) = true then ((gf_cn9 v23).bind fun x27 => (idx v25 v24).bind fun x29 => (idx (List.set v25 v24.toNat (⟨x27, x29.at_⟩ : Head)) v24).bind fun x31 => gl_ci9_1 n26 (IntKind.i64.wrap ((IntKind.i64.wrap (v23 + 1)) + 1)) (IntKind.i64.wrap (v24 + 1)) (List.set (List.set v25 v24.toNat (⟨x27, x29.at_⟩ : Head)) v24.toNat (⟨x31.name, (IntKind.i64.wrap (v23 + 1))⟩ : Head))) else (some (v23, v25))
def gf_ci9 (a0 : (List Head)) (a1 : Int) : Option (Int × (List Head)) := (gl_ci9_1 rounds a1 0 a0).bind fun q22 => some (q22.1, q22.2)
def c_ci9 : Con := ⟨(List Head) × Int, (Int × (List Head)), 172, fun a => [.io 0 a.1.length 130, .v (.int .i64 a.2)], fun a => gf_ci9 a.1 a.2, fun a r => ⟨[(false, [.v (.int .i64 r.1)])], [some (List.map eHead r.2)]⟩, fun a => [(false, 130, List.map eHead a.1)]⟩
theorem l_ci9 {a0 : (List Head)} {a1 : Int} {r : (Int × (List Head))} (h : gf_ci9 a0 a1 = some r) : (r.2).length = (a0).length := by
 unfold gf_ci9 at h
 obtain ⟨q, h1, h2⟩ := bnd h
 have key := fuelLen (gl := gl_ci9_1) (fun _ _ _ => rfl) (fun n k i a q h => by
  simp only [gl_ci9_1] at h
  split at h
  ·simp only [Option.bind_eq_some_iff] at h
   obtain ⟨_, _, _, _, _, _, h⟩ := h
   exact .inl ⟨_, _, _, by simp, h⟩
  ·cases h
   exact .inr rfl) _ _ _ _ _ h1
 cases h2
 exact key

/-! laws.heldPtS -/
def if_cb9 : IFn := ⟨31, [.inl 4],
 (Rs [Ki 0 4]
 (.seq (Rs [Ki 0 5]
 (blkC 0 (.loop (.seq (Rs (sq 6 [Mv 5, Mv 0, Ln 7, Bb .lss 6 8] [])
 (Ct 9 .skip
 (.exit 0)))
 (.seq (.block 1 (.seq (Rs (sq 12 [Mv 0, Mv 5, Ia 2 12 13, Fa 0 14, Ld 1 15, Mv 1, Bb .neq 16 17] [])
 (Ct 18 (Rs [Ki (-1) 4]
 .ret)
 .skip))
 (Rs (sq 19 [Mv 1, Bk .add 19 1] [Mv 20 1])
 (.seq (Rs (sq 21 [Mv 0, Mv 5, Ia 2 21 22, Fa 1 23, Ld 1 24, Mv 1, Bb .neq 25 26] [])
 (Ct 27 (Rs [Ki (-1) 4]
 .ret)
 .skip))
 (.reg (sq 28 [Mv 1, Bk .add 28 1] [Mv 29 1]))))))
 (.reg (sq 10 [Mv 5, Bk .add 10 1] [Mv 11 5])))))))
 (Rs [Mv 1 30, Mv 30 4]
 .ret))), lcF []⟩
def ks_cb9 : List (List (Option Nat)) := [[none]]
def gl_cb9_1 : List Pt → Nat → Int → Option (Int ⊕ Int)
 | [], k12, v10 => some (.inr v10)
 | x13 :: l14, k12, v10 => if (x13.x != v10) = true then (some (.inl ((-1)))) else (if (x13.y != (IntKind.i64.wrap (v10 + 1))) = true then (some (.inl ((-1)))) else (gl_cb9_1 l14 (k12 + 1) (IntKind.i64.wrap ((IntKind.i64.wrap (v10 + 1)) + 1))))
def gf_cb9 (a0 : (List Pt)) (a1 : Int) : Option Int := if fits a0.length = true then ((gl_cb9_1 a0 0 a1).bind fun q => match q with | .inl r => some r | .inr q9 => some (q9)) else none
def c_cb9 : Con := ⟨(List Pt) × Int, Int, 173, fun a => [.ro (List.map ePt a.1), .v (.int .i64 a.2)], fun a => gf_cb9 a.1 a.2, fun a r => ⟨[(false, [.v (.int .i64 r)])], []⟩, fun a => []⟩
/-! laws.heldTagS -/
def if_cd9 : IFn := ⟨33, [.inl 4],
 (Rs [Ki 0 4]
 (.seq (Rs [Ki 0 5]
 (blkC 0 (.loop (.seq (Rs (sq 6 [Mv 5, Mv 0, Ln 7, Bb .lss 6 8] [])
 (Ct 9 .skip
 (.exit 0)))
 (.seq (.block 1 (.seq (.seq (.drw (sq 12 [Mv 0, Mv 5, Ia 2 12 13, Fa 0 14, Ld 1 15, Mv 1, Ca 166 [17], Bb .neq 16 18] []) [(4, 6)])
 (Ct 19 (Rs [Ki (-1) 4]
 .ret)
 .skip))
 (Rs (sq 20 [Mv 1, Bk .add 20 1] [Mv 21 1])
 (.seq (.seq (.drw (sq 22 [Mv 0, Mv 5, Ia 2 22 23, Fa 1 24, Ld 1 25, Mv 1, Ca 166 [27], Bb .neq 26 28] []) [(4, 6)])
 (Ct 29 (Rs [Ki (-1) 4]
 .ret)
 .skip))
 (.reg (sq 30 [Mv 1, Bk .add 30 1] [Mv 31 1]))))))
 (.reg (sq 10 [Mv 5, Bk .add 10 1] [Mv 11 5])))))))
 (Rs [Mv 1 32, Mv 32 4]
 .ret))), lcF []⟩
def ks_cd9 : List (List (Option Nat)) := [[none]]
def gl_cd9_1 : List Tag → Nat → Int → Option (Int ⊕ Int)
 | [], k24, v22 => some (.inr v22)
 | x25 :: l26, k24, v22 => (gf_cn9 v22).bind fun x33 => if (!seq x25.key x33) = true then (some (.inl ((-1)))) else ((gf_cn9 (IntKind.i64.wrap (v22 + 1))).bind fun x35 => if (!seq x25.val x35) = true then (some (.inl ((-1)))) else (gl_cd9_1 l26 (k24 + 1) (IntKind.i64.wrap ((IntKind.i64.wrap (v22 + 1)) + 1))))
def gf_cd9 (a0 : (List Tag)) (a1 : Int) : Option Int := if fits a0.length = true then ((gl_cd9_1 a0 0 a1).bind fun q => match q with | .inl r => some r | .inr q21 => some (q21)) else none
def c_cd9 : Con := ⟨(List Tag) × Int, Int, 174, fun a => [.ro (List.map eTag a.1), .v (.int .i64 a.2)], fun a => gf_cd9 a.1 a.2, fun a r => ⟨[(false, [.v (.int .i64 r)])], []⟩, fun a => []⟩
/-! laws.heldIntS -/
def if_ca9 : IFn := ⟨21, [.inl 4],
 (Rs [Ki 0 4]
 (.seq (Rs [Ki 0 5]
 (blkC 0 (.loop (.seq (Rs (sq 6 [Mv 5, Mv 0, Ln 7, Bb .lss 6 8] [])
 (Ct 9 .skip
 (.exit 0)))
 (.seq (.block 1 (.seq (Rs (sq 12 [Mv 0, Mv 5, Ia 1 12 13, Ld 1 14, Mv 1, Bb .neq 15 16] [])
 (Ct 17 (Rs [Ki (-1) 4]
 .ret)
 .skip))
 (.reg (sq 18 [Mv 1, Bk .add 18 1] [Mv 19 1]))))
 (.reg (sq 10 [Mv 5, Bk .add 10 1] [Mv 11 5])))))))
 (Rs [Mv 1 20, Mv 20 4]
 .ret))), lcF []⟩
def ks_ca9 : List (List (Option Nat)) := [[none]]
def gl_ca9_1 : List Int → Nat → Int → Option (Int ⊕ Int)
 | [], k14, v12 => some (.inr v12)
 | x15 :: l16, k14, v12 => if (x15 != v12) = true then (some (.inl ((-1)))) else (gl_ca9_1 l16 (k14 + 1) (IntKind.i64.wrap (v12 + 1)))
def gf_ca9 (a0 : (List Int)) (a1 : Int) : Option Int := if fits a0.length = true then ((gl_ca9_1 a0 0 a1).bind fun q => match q with | .inl r => some r | .inr q11 => some (q11)) else none
def c_ca9 : Con := ⟨(List Int) × Int, Int, 175, fun a => [.ro (List.map eInt a.1), .v (.int .i64 a.2)], fun a => gf_ca9 a.1 a.2, fun a r => ⟨[(false, [.v (.int .i64 r)])], []⟩, fun a => []⟩
/-! laws.heldFeatS -/
def if_by9 : IFn := ⟨52, [.inl 4],
 (Rs [Ki 0 4]
 (.seq (Rs [Ki 0 5]
 (blkC 0 (.loop (.seq (Rs (sq 6 [Mv 5, Mv 0, Ln 7, Bb .lss 6 8] [])
 (Ct 9 .skip
 (.exit 0)))
 (.seq (.block 1 (.seq (.seq (.drw (sq 12 [Mv 0, Mv 5, Ia 4 12 13, Fa 0 14, Ld 1 15, Mv 1, Ca 166 [17], Bb .neq 16 18] []) [(4, 6)])
 (Ct 19 (Rs [Ki (-1) 4]
 .ret)
 .skip))
 (Rs (sq 20 [Mv 1, Bk .add 20 1] [Mv 21 1])
 (.seq (Rs (sq 22 [Mv 0, Mv 5, Ia 4 22 23, Fa 1 24, Fa 0 25, Ld 1 26, Mv 1, Bb .neq 27 28] [])
 (Ct 29 (Rs [Ki (-1) 4]
 .ret)
 .skip))
 (Rs (sq 30 [Mv 1, Bk .add 30 1] [Mv 31 1])
 (Rs (sq 32 [Mv 0, Mv 5, Ia 4 32 33, Fa 1 34, Fa 1 35, Ld 1 36, Mv 1, Ca 173 [37, 38]] [Mv 39 1])
 (.seq (Rs (sq 40 [Mv 1, Bk .lss 40 0] [])
 (Ct 41 (Rs [Ki (-1) 4]
 .ret)
 .skip))
 (Rs (sq 42 [Mv 0, Mv 5, Ia 4 42 43, Fa 3 44, Ld 1 45, Mv 1, Ca 174 [46, 47]] [Mv 48 1])
 (Rs (sq 49 [Mv 1, Bk .lss 49 0] [])
 (Ct 50 (Rs [Ki (-1) 4]
 .ret)
 .skip))))))))))
 (.reg (sq 10 [Mv 5, Bk .add 10 1] [Mv 11 5])))))))
 (Rs [Mv 1 51, Mv 51 4]
 .ret))), lcF []⟩
def ks_by9 : List (List (Option Nat)) := [[none]]
def gl_by9_1 : List Feat → Nat → Int → Option (Int ⊕ Int)
 | [], k30, v28 => some (.inr v28)
 | x31 :: l32, k30, v28 => (gf_cn9 v28).bind fun x39 => if (!seq x31.id x39) = true then (some (.inl ((-1)))) else (if (x31.shape.kind != (IntKind.i64.wrap (v28 + 1))) = true then (some (.inl ((-1)))) else ((gf_cb9 x31.shape.pts (IntKind.i64.wrap ((IntKind.i64.wrap (v28 + 1)) + 1))).bind fun x41 => if (decide (x41 < 0)) = true then (some (.inl ((-1)))) else ((gf_cd9 x31.tags x41).bind fun x43 => if (decide (x43 < 0)) = true then (some (.inl ((-1)))) else (gl_by9_1 l32 (k30 + 1) x43))))
def gf_by9 (a0 : (List Feat)) (a1 : Int) : Option Int := if fits a0.length = true then ((gl_by9_1 a0 0 a1).bind fun q => match q with | .inl r => some r | .inr q27 => some (q27)) else none
def c_by9 : Con := ⟨(List Feat) × Int, Int, 176, fun a => [.ro (List.map (eFeat false) a.1), .v (.int .i64 a.2)], fun a => gf_by9 a.1 a.2, fun a r => ⟨[(false, [.v (.int .i64 r)])], []⟩, fun a => []⟩
/-! laws.heldCommitS -/
def if_bx9 : IFn := ⟨41, [.inl 4],
 (Rs [Ki 0 4]
 (.seq (Rs [Ki 0 5]
 (blkC 0 (.loop (.seq (Rs (sq 6 [Mv 5, Mv 0, Ln 7, Bb .lss 6 8] [])
 (Ct 9 .skip
 (.exit 0)))
 (.seq (.block 1 (Rs (sq 12 [Mv 0, Mv 5, Ia 3 12 13, Fa 0 14, Ld 1 15, Mv 1, Ca 175 [16, 17]] [Mv 18 1])
 (.seq (Rs (sq 19 [Mv 1, Bk .lss 19 0] [])
 (Ct 20 (Rs [Ki (-1) 4]
 .ret)
 .skip))
 (Rs (sq 21 [Mv 0, Mv 5, Ia 3 21 22, Fa 1 23, Ld 1 24, Mv 1, Ca 176 [25, 26]] [Mv 27 1])
 (.seq (Rs (sq 28 [Mv 1, Bk .lss 28 0] [])
 (Ct 29 (Rs [Ki (-1) 4]
 .ret)
 .skip))
 (.seq (.seq (.drw (sq 30 [Mv 0, Mv 5, Ia 3 30 31, Fa 2 32, Ld 1 33, Mv 1, Ca 166 [35], Bb .neq 34 36] []) [(4, 6)])
 (Ct 37 (Rs [Ki (-1) 4]
 .ret)
 .skip))
 (.reg (sq 38 [Mv 1, Bk .add 38 1] [Mv 39 1]))))))))
 (.reg (sq 10 [Mv 5, Bk .add 10 1] [Mv 11 5])))))))
 (Rs [Mv 1 40, Mv 40 4]
 .ret))), lcF []⟩
def ks_bx9 : List (List (Option Nat)) := [[none]]
def gl_bx9_1 : List Commit → Nat → Int → Option (Int ⊕ Int)
 | [], k30, v28 => some (.inr v28)
 | x31 :: l32, k30, v28 => (gf_ca9 x31.up v28).bind fun x39 => if (decide (x39 < 0)) = true then (some (.inl ((-1)))) else ((gf_by9 x31.sheet x39).bind fun x41 => if (decide (x41 < 0)) = true then (some (.inl ((-1)))) else ((gf_cn9 x41).bind fun x43 => if (!seq x31.note x43) = true then (some (.inl ((-1)))) else (gl_bx9_1 l32 (k30 + 1) (IntKind.i64.wrap (x41 + 1)))))
def gf_bx9 (a0 : (List Commit)) (a1 : Int) : Option Int := if fits a0.length = true then ((gl_bx9_1 a0 0 a1).bind fun q => match q with | .inl r => some r | .inr q27 => some (q27)) else none
def c_bx9 : Con := ⟨(List Commit) × Int, Int, 177, fun a => [.ro (List.map (eCommit false) a.1), .v (.int .i64 a.2)], fun a => gf_bx9 a.1 a.2, fun a r => ⟨[(false, [.v (.int .i64 r)])], []⟩, fun a => []⟩
/-! laws.heldHeadS -/
def if_bz9 : IFn := ⟨32, [.inl 4],
 (Rs [Ki 0 4]
 (.seq (Rs [Ki 0 5]
 (blkC 0 (.loop (.seq (Rs (sq 6 [Mv 5, Mv 0, Ln 7, Bb .lss 6 8] [])
 (Ct 9 .skip
 (.exit 0)))
 (.seq (.block 1 (.seq (.seq (.drw (sq 12 [Mv 0, Mv 5, Ia 2 12 13, Fa 0 14, Ld 1 15, Mv 1, Ca 166 [17], Bb .neq 16 18] []) [(4, 6)])
 (Ct 19 (Rs [Ki (-1) 4]
 .ret)
 .skip))
 (Rs (sq 20 [Mv 1, Bk .add 20 1] [Mv 21 1])
 (.seq (Rs (sq 22 [Mv 0, Mv 5, Ia 2 22 23, Fa 1 24, Ld 1 25, Mv 1, Bb .neq 26 27] [])
 (Ct 28 (Rs [Ki (-1) 4]
 .ret)
 .skip))
 (.reg (sq 29 [Mv 1, Bk .add 29 1] [Mv 30 1]))))))
 (.reg (sq 10 [Mv 5, Bk .add 10 1] [Mv 11 5])))))))
 (Rs [Mv 1 31, Mv 31 4]
 .ret))), lcF []⟩
def ks_bz9 : List (List (Option Nat)) := [[none]]
def gl_bz9_1 : List Head → Nat → Int → Option (Int ⊕ Int)
 | [], k18, v16 => some (.inr v16)
 | x19 :: l20, k18, v16 => (gf_cn9 v16).bind fun x27 => if (!seq x19.name x27) = true then (some (.inl ((-1)))) else (if (x19.at_ != (IntKind.i64.wrap (v16 + 1))) = true then (some (.inl ((-1)))) else (gl_bz9_1 l20 (k18 + 1) (IntKind.i64.wrap ((IntKind.i64.wrap (v16 + 1)) + 1))))
def gf_bz9 (a0 : (List Head)) (a1 : Int) : Option Int := if fits a0.length = true then ((gl_bz9_1 a0 0 a1).bind fun q => match q with | .inl r => some r | .inr q15 => some (q15)) else none
def c_bz9 : Con := ⟨(List Head) × Int, Int, 178, fun a => [.ro (List.map eHead a.1), .v (.int .i64 a.2)], fun a => gf_bz9 a.1 a.2, fun a r => ⟨[(false, [.v (.int .i64 r)])], []⟩, fun a => []⟩
/-! laws.eqRepo -/
def if_bt9 : IFn := ⟨17, [.inl 4],
 (Rs (sq 2 [Io (.box 210 [some 115, some 130] (.t 0)), Io (.box 210 [some 115, some 130] (.t 1)), Kb false] [])
 (.seq (Rs (sq 5 [Fa 0 2, Ld 1 5, Fa 0 3, Ld 1 7, Ca 163 [6, 8], Nt 9] [])
 (Ct 10 (Rs [Kb false 4]
 .ret)
 .skip))
 (.seq (Rs (sq 11 [Fa 1 2, Ld 1 11, Fa 1 3, Ld 1 13, Ca 164 [12, 14], Nt 15] [])
 (Ct 16 (Rs [Kb false 4]
 .ret)
 .skip))
 (Rs [Kb true 4]
 .ret)))), lcF []⟩
def ks_bt9 : List (List (Option Nat)) := [[none]]
def gf_bt9 (a0 : Repo) (a1 : Repo) : Option Bool := (gf_bj9 a0.commits a1.commits).bind fun x3 => if (!x3) = true then (some (false)) else ((gf_bp9 a0.heads a1.heads).bind fun x5 => if (!x5) = true then (some (false)) else (some (true)))
def c_bt9 : Con := ⟨Repo × Repo, Bool, 183, fun a => [.agg [.ro (List.map (eCommit false) a.1.commits), .ro (List.map eHead a.1.heads)], .agg [.ro (List.map (eCommit false) a.2.commits), .ro (List.map eHead a.2.heads)]], fun a => gf_bt9 a.1 a.2, fun a r => ⟨[(false, [.v (.bool r)])], []⟩, fun a => []⟩
/-! laws.markRepo -/
def if_cl9 : IFn := ⟨14, [.inl 4],
 (Rs [Io (.box 210 [some 115, some 130] (.t 0)) 2, Ki 0 4]
 (Rs (sq 5 [Fa 0 2, Ld 1 5, Mv 1, Io (.call 171 [(true, .t 6), (false, .t 7)])] [Mv 8 1])
 (Rs (sq 9 [Fa 1 2, Ld 1 9, Mv 1, Io (.call 172 [(true, .t 10), (false, .t 11)])] [Mv 12 1])
 (Rs [Mv 1 13, Mv 13 4]
 .ret)))), lcF [(0, 1000256), (1, 1000257)]⟩
def ks_cl9 : List (List (Option Nat)) := [[none]]
def gf_cl9 (a0 : Repo) (a1 : Int) : Option (Int × Repo) := (gf_cf9 a0.commits a1).bind fun x2 => (gf_ci9 a0.heads x2.1).bind fun x4 => some (x4.1, (⟨x2.2, x4.2⟩ : Repo))
def c_cl9 : Con := ⟨Repo × Int, (Int × Repo), 185, fun a => [.agg [.io 0 a.1.commits.length 115, .io 1 a.1.heads.length 130], .v (.int .i64 a.2)], fun a => gf_cl9 a.1 a.2, fun a r => ⟨[(false, [.v (.int .i64 r.1)])], [some (List.map (eCommit true) r.2.commits), some (List.map eHead r.2.heads)]⟩, fun a => [(false, 115, List.map (eCommit true) a.1.commits), (false, 130, List.map eHead a.1.heads)]⟩
theorem l_cl9 {a0 : Repo} {a1 : Int} {r : (Int × Repo)} (h : gf_cl9 a0 a1 = some r) : (r.2.commits).length = (a0.commits).length ∧ (r.2.heads).length = (a0.heads).length := by
 unfold gf_cl9 at h
 simp only [Option.bind_eq_some_iff] at h
 obtain ⟨_, e0, _, e1, h⟩ := h
 have m0 := l_cf9 e0
 have m1 := l_ci9 e1
 cases h
 exact ⟨m0, m1⟩

/-! laws.heldRepo -/
def if_cc9 : IFn := ⟨18, [.inl 4],
 (Rs [Io (.box 210 [some 115, some 130] (.t 0)) 2, Ki 0 4]
 (Rs (sq 5 [Fa 0 2, Ld 1 5, Mv 1, Ca 177 [6, 7]] [Mv 8 1])
 (.seq (Rs (sq 9 [Mv 1, Bk .lss 9 0] [])
 (Ct 10 (Rs [Ki (-1) 4]
 .ret)
 .skip))
 (Rs (sq 11 [Fa 1 2, Ld 1 11, Mv 1, Ca 178 [12, 13]] [Mv 14 1])
 (.seq (Rs (sq 15 [Mv 1, Bk .lss 15 0] [])
 (Ct 16 (Rs [Ki (-1) 4]
 .ret)
 .skip))
 (Rs [Mv 1 17, Mv 17 4]
 .ret)))))), lcF []⟩
def ks_cc9 : List (List (Option Nat)) := [[none]]
def gf_cc9 (a0 : Repo) (a1 : Int) : Option Int := (gf_bx9 a0.commits a1).bind fun x2 => if (decide (x2 < 0)) = true then (some ((-1))) else ((gf_bz9 a0.heads x2).bind fun x4 => if (decide (x4 < 0)) = true then (some ((-1))) else (some (x4)))
def c_cc9 : Con := ⟨Repo × Int, Int, 187, fun a => [.agg [.ro (List.map (eCommit false) a.1.commits), .ro (List.map eHead a.1.heads)], .v (.int .i64 a.2)], fun a => gf_cc9 a.1 a.2, fun a r => ⟨[(false, [.v (.int .i64 r)])], []⟩, fun a => []⟩
/-! laws.szChange -/
def if_co9 : IFn := ⟨25, [.inl 4],
 (Rs [Io (.box 427 [none, none, none, none, some 338, some 354, none, none, none, some 338, some 354] (.t 0)) 2, Ki 0 4]
 (Rs (sq 5 [Mv 1, Fa 0 2, Ld 1 6, Ls 7, Bb .sub 5 8] [Mv 9 1])
 (.seq (Rs (sq 10 [Mv 1, Bk .lss 10 0] [])
 (Ct 11 (Rs [Ki (-1) 4]
 .ret)
 .skip))
 (Rs (sq 12 [Fa 2 2, La 4 12, Mv 1, Ca 5 [13, 14]] [Mv 15 1])
 (.seq (Rs (sq 16 [Mv 1, Bk .lss 16 0] [])
 (Ct 17 (Rs [Ki (-1) 4]
 .ret)
 .skip))
 (Rs (sq 18 [Fa 7 2, La 4 18, Mv 1, Ca 5 [19, 20]] [Mv 21 1])
 (.seq (Rs (sq 22 [Mv 1, Bk .lss 22 0] [])
 (Ct 23 (Rs [Ki (-1) 4]
 .ret)
 .skip))
 (Rs [Mv 1 24, Mv 24 4]
 .ret)))))))), lcF []⟩
def ks_co9 : List (List (Option Nat)) := [[none]]
def gf_co9 (a0 : Change) (a1 : Int) : Option Int := if (decide ((IntKind.i64.wrap (a1 - (a0.id.size : Int))) < 0)) = true then (some ((-1))) else ((gf_cs9 a0.was (IntKind.i64.wrap (a1 - (a0.id.size : Int)))).bind fun x2 => if (decide (x2 < 0)) = true then (some ((-1))) else ((gf_cs9 a0.now x2).bind fun x4 => if (decide (x4 < 0)) = true then (some ((-1))) else (some (x4))))
def c_co9 : Con := ⟨Change × Int, Int, 194, fun a => [.agg [.v (.string a.1.id), .v (.bool a.1.had), .v (.string a.1.was.id), .v (.int .i64 a.1.was.shape.kind), .ro (List.map ePt a.1.was.shape.pts), .ro (List.map eTag a.1.was.tags), .v (.bool a.1.has), .v (.string a.1.now.id), .v (.int .i64 a.1.now.shape.kind), .ro (List.map ePt a.1.now.shape.pts), .ro (List.map eTag a.1.now.tags)], .v (.int .i64 a.2)], fun a => gf_co9 a.1 a.2, fun a r => ⟨[(false, [.v (.int .i64 r)])], []⟩, fun a => []⟩
/-! laws.szChangeS -/
def if_cp9 : IFn := ⟨27, [.inl 4],
 (Rs [Ki 0 4]
 (Rs (sq 6 [Mv 1, Mv 0, Ln 7, Bb .sub 6 8] [Mv 9 1])
 (.seq (Rs (sq 10 [Mv 1, Bk .lss 10 0] [])
 (Ct 11 (Rs [Ki (-1) 4]
 .ret)
 .skip))
 (.seq (Rs [Ki 0 5]
 (blkC 0 (.loop (.seq (Rs (sq 12 [Mv 5, Mv 0, Ln 13, Bb .lss 12 14] [])
 (Ct 15 .skip
 (.exit 0)))
 (.seq (.block 1 (Rs (sq 18 [Mv 0, Mv 5, Ia 11 18 19, La 11 20, Mv 1, Ca 194 [21, 22]] [Mv 23 1])
 (Rs (sq 24 [Mv 1, Bk .lss 24 0] [])
 (Ct 25 (Rs [Ki (-1) 4]
 .ret)
 .skip))))
 (.reg (sq 16 [Mv 5, Bk .add 16 1] [Mv 17 5])))))))
 (Rs [Mv 1 26, Mv 26 4]
 .ret))))), lcF []⟩
def ks_cp9 : List (List (Option Nat)) := [[none]]
def gl_cp9_1 : List Change → Nat → Int → Option (Int ⊕ Int)
 | [], k18, v16 => some (.inr v16)
 | x19 :: l20, k18, v16 => (gf_co9 x19 v16).bind fun x27 => if (decide (x27 < 0)) = true then (some (.inl ((-1)))) else (gl_cp9_1 l20 (k18 + 1) x27)
def gf_cp9 (a0 : (List Change)) (a1 : Int) : Option Int := if (decide ((IntKind.i64.wrap (a1 - (a0.length : Int))) < 0)) = true then (some ((-1))) else (if fits a0.length = true then ((gl_cp9_1 a0 0 (IntKind.i64.wrap (a1 - (a0.length : Int)))).bind fun q => match q with | .inl r => some r | .inr q15 => some (q15)) else none)
def c_cp9 : Con := ⟨(List Change) × Int, Int, 195, fun a => [.ro (List.map (eChange false) a.1), .v (.int .i64 a.2)], fun a => gf_cp9 a.1 a.2, fun a r => ⟨[(false, [.v (.int .i64 r)])], []⟩, fun a => []⟩
/-! laws.szEntry -/
def if_cq9 : IFn := ⟨25, [.inl 4],
 (Rs [Io (.box 435 [some 17, none, some 427] (.t 0)) 2, Ki 0 4]
 (Rs (sq 5 [Fa 0 2, Ld 1 5, Mv 1, Ca 6 [6, 7]] [Mv 8 1])
 (.seq (Rs (sq 9 [Mv 1, Bk .lss 9 0] [])
 (Ct 10 (Rs [Ki (-1) 4]
 .ret)
 .skip))
 (Rs (sq 11 [Mv 1, Fa 1 2, Ld 1 12, Ls 13, Bb .sub 11 14] [Mv 15 1])
 (.seq (Rs (sq 16 [Mv 1, Bk .lss 16 0] [])
 (Ct 17 (Rs [Ki (-1) 4]
 .ret)
 .skip))
 (Rs (sq 18 [Fa 2 2, Ld 1 18, Mv 1, Ca 195 [19, 20]] [Mv 21 1])
 (.seq (Rs (sq 22 [Mv 1, Bk .lss 22 0] [])
 (Ct 23 (Rs [Ki (-1) 4]
 .ret)
 .skip))
 (Rs [Mv 1 24, Mv 24 4]
 .ret)))))))), lcF []⟩
def ks_cq9 : List (List (Option Nat)) := [[none]]
def gf_cq9 (a0 : Entry) (a1 : Int) : Option Int := (gf_cv9 a0.up a1).bind fun x2 => if (decide (x2 < 0)) = true then (some ((-1))) else (if (decide ((IntKind.i64.wrap (x2 - (a0.note.size : Int))) < 0)) = true then (some ((-1))) else ((gf_cp9 a0.diff (IntKind.i64.wrap (x2 - (a0.note.size : Int)))).bind fun x4 => if (decide (x4 < 0)) = true then (some ((-1))) else (some (x4))))
def c_cq9 : Con := ⟨Entry × Int, Int, 196, fun a => [.agg [.ro (List.map eInt a.1.up), .v (.string a.1.note), .ro (List.map (eChange false) a.1.diff)], .v (.int .i64 a.2)], fun a => gf_cq9 a.1 a.2, fun a r => ⟨[(false, [.v (.int .i64 r)])], []⟩, fun a => []⟩
/-! laws.szEntryS -/
def if_cr9 : IFn := ⟨27, [.inl 4],
 (Rs [Ki 0 4]
 (Rs (sq 6 [Mv 1, Mv 0, Ln 7, Bb .sub 6 8] [Mv 9 1])
 (.seq (Rs (sq 10 [Mv 1, Bk .lss 10 0] [])
 (Ct 11 (Rs [Ki (-1) 4]
 .ret)
 .skip))
 (.seq (Rs [Ki 0 5]
 (blkC 0 (.loop (.seq (Rs (sq 12 [Mv 5, Mv 0, Ln 13, Bb .lss 12 14] [])
 (Ct 15 .skip
 (.exit 0)))
 (.seq (.block 1 (Rs (sq 18 [Mv 0, Mv 5, Ia 3 18 19, La 3 20, Mv 1, Ca 196 [21, 22]] [Mv 23 1])
 (Rs (sq 24 [Mv 1, Bk .lss 24 0] [])
 (Ct 25 (Rs [Ki (-1) 4]
 .ret)
 .skip))))
 (.reg (sq 16 [Mv 5, Bk .add 16 1] [Mv 17 5])))))))
 (Rs [Mv 1 26, Mv 26 4]
 .ret))))), lcF []⟩
def ks_cr9 : List (List (Option Nat)) := [[none]]
def gl_cr9_1 : List Entry → Nat → Int → Option (Int ⊕ Int)
 | [], k18, v16 => some (.inr v16)
 | x19 :: l20, k18, v16 => (gf_cq9 x19 v16).bind fun x27 => if (decide (x27 < 0)) = true then (some (.inl ((-1)))) else (gl_cr9_1 l20 (k18 + 1) x27)
def gf_cr9 (a0 : (List Entry)) (a1 : Int) : Option Int := if (decide ((IntKind.i64.wrap (a1 - (a0.length : Int))) < 0)) = true then (some ((-1))) else (if fits a0.length = true then ((gl_cr9_1 a0 0 (IntKind.i64.wrap (a1 - (a0.length : Int)))).bind fun q => match q with | .inl r => some r | .inr q15 => some (q15)) else none)
def c_cr9 : Con := ⟨(List Entry) × Int, Int, 189, fun a => [.ro (List.map (eEntry false) a.1), .v (.int .i64 a.2)], fun a => gf_cr9 a.1 a.2, fun a r => ⟨[(false, [.v (.int .i64 r)])], []⟩, fun a => []⟩
/-! laws.toChange -/
def if_da9 : IFn := ⟨22, [.inr (2, 11)],
 (Rs (sq 1 [Io (.box 427 [none, none, none, none, some 338, some 354, none, none, none, some 338, some 354] (.t 0)), Io (.alloc 155 [.v (.string ⟨#[]⟩), .v (.bool false), .v (.string ⟨#[]⟩), .v (.int .i64 0), .sl true 66 [], .sl true 82 [], .v (.bool false), .v (.string ⟨#[]⟩), .v (.int .i64 0), .sl true 66 [], .sl true 82 []])] [])
 (seqC (.reg [Io (.alloc 155 [.v (.string ⟨#[]⟩), .v (.bool false), .v (.string ⟨#[]⟩), .v (.int .i64 0), .sl true 66 [], .sl true 82 [], .v (.bool false), .v (.string ⟨#[]⟩), .v (.int .i64 0), .sl true 66 [], .sl true 82 []]) 3])
 (Rs (sq 4 [Fa 0 1, Ld 1 4, Fa 0 3] [Sv [none] 6 5])
 (Rs (sq 7 [Fa 1 1, Ld 1 7, Fa 1 3] [Sv [none] 9 8])
 (seqC (.reg (sq 10 [Fa 2 1, La 4 10, Ca 69 [11], Fa 2 3] [Sv [none, none, some 66, some 82] 13 12]))
 (Rs (sq 14 [Fa 6 1, Ld 1 14, Fa 6 3] [Sv [none] 16 15])
 (Rs (sq 17 [Fa 7 1, La 4 17, Ca 69 [18], Fa 7 3] [Sv [none, none, some 66, some 82] 20 19])
 (Rs [La 11 3 21, Sv [none, none, none, none, some 66, some 82, none, none, none, some 66, some 82] 2 21]
 .ret)))))))), lcF []⟩
def ks_da9 : List (List (Option Nat)) := [[none, none, none, none, some 66, some 82, none, none, none, some 66, some 82]]
def gf_da9 (a0 : Change) : Option Change := ((some () : Option Unit)).bind fun q3 => (((gf_de9 a0.was).bind fun x15 => some (x15.shape.pts, x15.tags, x15.id, x15.shape.kind) : Option ((List Pt) × (List Tag) × Str × Int))).bind fun q14 => (gf_de9 a0.now).bind fun x30 => some ((⟨a0.id, a0.had, ⟨q14.2.2.1, ⟨q14.2.2.2, q14.1⟩, q14.2.1⟩, a0.has, x30⟩ : Change))
def c_da9 : Con := ⟨Change, Change, 197, fun a => [.agg [.v (.string a.id), .v (.bool a.had), .v (.string a.was.id), .v (.int .i64 a.was.shape.kind), .ro (List.map ePt a.was.shape.pts), .ro (List.map eTag a.was.tags), .v (.bool a.has), .v (.string a.now.id), .v (.int .i64 a.now.shape.kind), .ro (List.map ePt a.now.shape.pts), .ro (List.map eTag a.now.tags)]], fun a => gf_da9 a, fun a r => ⟨[(true, eChange true r)], []⟩, fun a => []⟩
/-! laws.toChangeS -/
def if_db9 : IFn := ⟨23, [.inl 2],
 (Rs [Io (.mv (.c (.slice none 0 0))) 2]
 (Rs (sq 5 [Mv 0, Ln 5, Io (.mks 155 [.v (.string ⟨#[]⟩), .v (.bool false), .v (.string ⟨#[]⟩), .v (.int .i64 0), .sl true 66 [], .sl true 82 [], .v (.bool false), .v (.string ⟨#[]⟩), .v (.int .i64 0), .sl true 66 [], .sl true 82 []] (.t 6) (.t 6))] [Mv 7 3])
 (.seq (Rs [Ki 0 4]
 (blkC 0 (.loop (.seq (Rs (sq 8 [Mv 4, Mv 0, Ln 9, Bb .lss 8 10] [])
 (Ct 11 .skip
 (.exit 0)))
 (.seq (.block 1 (.reg (sq 14 [Mv 3, Mv 4, Mv 0, Mv 4, Ia 11 16 17, La 11 18, Ca 197 [19], Ia 11 14 15] [Sv [none, none, none, none, some 66, some 82, none, none, none, some 66, some 82] 21 20])))
 (.reg (sq 12 [Mv 4, Bk .add 12 1] [Mv 13 4])))))))
 (Rs [Mv 3 22, Mv 22 2]
 .ret)))), lcF []⟩
def ks_db9 : List (List (Option Nat)) := [[some 155]]
def gl_db9_1 : List Change → Nat → (List Change) → Option (List Change)
 | [], k55, v52 => some v52
 | x56 :: l57, k55, v52 => (gf_da9 x56).bind fun x64 => (idx v52 (k55 : Int)).bind fun x74 => gl_db9_1 l57 (k55 + 1) (List.set v52 (k55 : Int).toNat x64)
def gf_db9 (a0 : (List Change)) : Option (List Change) := if (decide (0 ≤ (a0.length : Int)) && fits ((a0.length : Int)).toNat) = true then if fits a0.length = true then ((gl_db9_1 a0 0 (List.replicate ((a0.length : Int)).toNat (⟨(⟨#[]⟩ : Str), false, ⟨(⟨#[]⟩ : Str), ⟨0, []⟩, []⟩, false, ⟨(⟨#[]⟩ : Str), ⟨0, []⟩, []⟩⟩ : Change))).bind fun q50 => some (q50)) else none else none
def c_db9 : Con := ⟨(List Change), (List Change), 198, fun a => [.ro (List.map (eChange false) a)], fun a => gf_db9 a, fun a r => ⟨[(false, [sl true 155 (List.map (eChange true) r)])], []⟩, fun a => []⟩
/-! laws.toEntry -/
def if_dc9 : IFn := ⟨16, [.inr (2, 3)],
 (Rs (sq 1 [Io (.box 435 [some 17, none, some 427] (.t 0)), Io (.alloc 163 [.sl true 17 [], .v (.string ⟨#[]⟩), .sl true 155 []])] [])
 (Rs [Io (.alloc 163 [.sl true 17 [], .v (.string ⟨#[]⟩), .sl true 155 []]) 3]
 (seqC (.reg (sq 4 [Fa 0 1, Ld 1 4, Ca 70 [5], Fa 0 3] [Sv [some 17] 7 6]))
 (Rs (sq 8 [Fa 1 1, Ld 1 8, Fa 1 3] [Sv [none] 10 9])
 (Rs (sq 11 [Fa 2 1, Ld 1 11, Ca 198 [12], Fa 2 3] [Sv [some 155] 14 13])
 (Rs [La 3 3 15, Sv [some 17, none, some 155] 2 15]
 .ret)))))), lcF []⟩
def ks_dc9 : List (List (Option Nat)) := [[some 17, none, some 155]]
def gf_dc9 (a0 : Entry) : Option Entry := (((gf_dh9 a0.up).bind fun x5 => some x5 : Option (List Int))).bind fun q4 => (gf_db9 a0.diff).bind fun x13 => some ((⟨q4, a0.note, x13⟩ : Entry))
def c_dc9 : Con := ⟨Entry, Entry, 199, fun a => [.agg [.ro (List.map eInt a.up), .v (.string a.note), .ro (List.map (eChange false) a.diff)]], fun a => gf_dc9 a, fun a r => ⟨[(true, eEntry true r)], []⟩, fun a => []⟩
/-! laws.toEntryS -/
def if_dd9 : IFn := ⟨23, [.inl 2],
 (Rs [Io (.mv (.c (.slice none 0 0))) 2]
 (Rs (sq 5 [Mv 0, Ln 5, Io (.mks 163 [.sl true 17 [], .v (.string ⟨#[]⟩), .sl true 155 []] (.t 6) (.t 6))] [Mv 7 3])
 (.seq (Rs [Ki 0 4]
 (blkC 0 (.loop (.seq (Rs (sq 8 [Mv 4, Mv 0, Ln 9, Bb .lss 8 10] [])
 (Ct 11 .skip
 (.exit 0)))
 (.seq (.block 1 (.reg (sq 14 [Mv 3, Mv 4, Mv 0, Mv 4, Ia 3 16 17, La 3 18, Ca 199 [19], Ia 3 14 15] [Sv [some 17, none, some 155] 21 20])))
 (.reg (sq 12 [Mv 4, Bk .add 12 1] [Mv 13 4])))))))
 (Rs [Mv 3 22, Mv 22 2]
 .ret)))), lcF []⟩
def ks_dd9 : List (List (Option Nat)) := [[some 163]]
def gl_dd9_1 : List Entry → Nat → (List Entry) → Option (List Entry)
 | [], k43, v40 => some v40
 | x44 :: l45, k43, v40 => (gf_dc9 x44).bind fun x52 => (idx v40 (k43 : Int)).bind fun x58 => gl_dd9_1 l45 (k43 + 1) (List.set v40 (k43 : Int).toNat x52)
def gf_dd9 (a0 : (List Entry)) : Option (List Entry) := if (decide (0 ≤ (a0.length : Int)) && fits ((a0.length : Int)).toNat) = true then if fits a0.length = true then ((gl_dd9_1 a0 0 (List.replicate ((a0.length : Int)).toNat (⟨[], (⟨#[]⟩ : Str), []⟩ : Entry))).bind fun q38 => some (q38)) else none else none
def c_dd9 : Con := ⟨(List Entry), (List Entry), 190, fun a => [.ro (List.map (eEntry false) a)], fun a => gf_dd9 a, fun a r => ⟨[(false, [sl true 163 (List.map (eEntry true) r)])], []⟩, fun a => []⟩
/-! laws.eqChange -/
def if_bg9 : IFn := ⟨32, [.inl 4],
 (Rs (sq 2 [Io (.box 155 [none, none, none, none, some 66, some 82, none, none, none, some 66, some 82] (.t 0)), Io (.box 155 [none, none, none, none, some 66, some 82, none, none, none, some 66, some 82] (.t 1)), Kb false] [])
 (.seq (Rs (sq 5 [Fa 0 2, Ld 1 5, Fa 0 3, Ld 1 7, Bb .neq 6 8] [])
 (Ct 9 (Rs [Kb false 4]
 .ret)
 .skip))
 (.seq (Rs (sq 10 [Fa 1 2, Ld 1 10, Fa 1 3, Ld 1 12, Io (.eqs true false [1] (.t 11) (.t 13))] [])
 (Ct 14 (Rs [Kb false 4]
 .ret)
 .skip))
 (.seq (Rs (sq 15 [Fa 2 2, La 4 15, Fa 2 3, La 4 17, Ca 158 [16, 18], Nt 19] [])
 (Ct 20 (Rs [Kb false 4]
 .ret)
 .skip))
 (.seq (Rs (sq 21 [Fa 6 2, Ld 1 21, Fa 6 3, Ld 1 23, Io (.eqs true false [1] (.t 22) (.t 24))] [])
 (Ct 25 (Rs [Kb false 4]
 .ret)
 .skip))
 (.seq (Rs (sq 26 [Fa 7 2, La 4 26, Fa 7 3, La 4 28, Ca 158 [27, 29], Nt 30] [])
 (Ct 31 (Rs [Kb false 4]
 .ret)
 .skip))
 (Rs [Kb true 4]
 .ret))))))), lcF []⟩
def ks_bg9 : List (List (Option Nat)) := [[none]]
def gf_bg9 (a0 : Change) (a1 : Change) : Option Bool := if (!seq a0.id a1.id) = true then (some (false)) else (if (!(a0.had == a1.had)) = true then (some (false)) else ((gf_bm9 a0.was a1.was).bind fun x3 => if (!x3) = true then (some (false)) else (if (!(a0.has == a1.has)) = true then (some (false)) else ((gf_bm9 a0.now a1.now).bind fun x5 => if (!x5) = true then (some (false)) else (some (true))))))
def c_bg9 : Con := ⟨Change × Change, Bool, 200, fun a => [.agg [.v (.string a.1.id), .v (.bool a.1.had), .v (.string a.1.was.id), .v (.int .i64 a.1.was.shape.kind), .ro (List.map ePt a.1.was.shape.pts), .ro (List.map eTag a.1.was.tags), .v (.bool a.1.has), .v (.string a.1.now.id), .v (.int .i64 a.1.now.shape.kind), .ro (List.map ePt a.1.now.shape.pts), .ro (List.map eTag a.1.now.tags)], .agg [.v (.string a.2.id), .v (.bool a.2.had), .v (.string a.2.was.id), .v (.int .i64 a.2.was.shape.kind), .ro (List.map ePt a.2.was.shape.pts), .ro (List.map eTag a.2.was.tags), .v (.bool a.2.has), .v (.string a.2.now.id), .v (.int .i64 a.2.now.shape.kind), .ro (List.map ePt a.2.now.shape.pts), .ro (List.map eTag a.2.now.tags)]], fun a => gf_bg9 a.1 a.2, fun a r => ⟨[(false, [.v (.bool r)])], []⟩, fun a => []⟩
/-! laws.eqChangeS -/
def if_bh9 : IFn := ⟨27, [.inl 4],
 (Rs [Kb false 4]
 (.seq (Rs (sq 6 [Mv 0, Ln 6, Mv 1, Ln 8, Bb .neq 7 9] [])
 (Ct 10 (Rs [Kb false 4]
 .ret)
 .skip))
 (.seq (Rs [Ki 0 5]
 (blkC 0 (.loop (.seq (Rs (sq 11 [Mv 5, Mv 0, Ln 12, Bb .lss 11 13] [])
 (Ct 14 .skip
 (.exit 0)))
 (.seq (.block 1 (.seq (.drw (sq 17 [Mv 0, Mv 5, Ia 11 17 18, La 11 19, Mv 1, Mv 5, Ia 11 21 22, La 11 23, Ca 200 [20, 24], Nt 25] []) [(3, 7)])
 (Ct 26 (Rs [Kb false 4]
 .ret)
 .skip)))
 (.reg (sq 15 [Mv 5, Bk .add 15 1] [Mv 16 5])))))))
 (Rs [Kb true 4]
 .ret)))), lcF []⟩
def ks_bh9 : List (List (Option Nat)) := [[none]]
def gl_bh9_1 (a1 : (List Change)) : List Change → Nat → Option (Bool ⊕ Unit)
 | [], k22 => some (.inr ())
 | x23 :: l24, k22 => (idx a1 (k22 : Int)).bind fun x31 => (gf_bg9 x23 x31).bind fun x33 => if (!x33) = true then (some (.inl (false))) else (gl_bh9_1 a1 l24 (k22 + 1) )
def gf_bh9 (a0 : (List Change)) (a1 : (List Change)) : Option Bool := if ((a0.length : Int) != (a1.length : Int)) = true then (some (false)) else (if fits a0.length = true then ((gl_bh9_1 a1 a0 0 ).bind fun q => match q with | .inl r => some r | .inr q20 => some (true)) else none)
def c_bh9 : Con := ⟨(List Change) × (List Change), Bool, 201, fun a => [.ro (List.map (eChange false) a.1), .ro (List.map (eChange false) a.2)], fun a => gf_bh9 a.1 a.2, fun a r => ⟨[(false, [.v (.bool r)])], []⟩, fun a => []⟩
/-! laws.eqEntry -/
def if_bk9 : IFn := ⟨22, [.inl 4],
 (Rs (sq 2 [Io (.box 163 [some 17, none, some 155] (.t 0)), Io (.box 163 [some 17, none, some 155] (.t 1)), Kb false] [])
 (.seq (Rs (sq 5 [Fa 0 2, Ld 1 5, Fa 0 3, Ld 1 7, Ca 159 [6, 8], Nt 9] [])
 (Ct 10 (Rs [Kb false 4]
 .ret)
 .skip))
 (.seq (Rs (sq 11 [Fa 1 2, Ld 1 11, Fa 1 3, Ld 1 13, Bb .neq 12 14] [])
 (Ct 15 (Rs [Kb false 4]
 .ret)
 .skip))
 (.seq (Rs (sq 16 [Fa 2 2, Ld 1 16, Fa 2 3, Ld 1 18, Ca 201 [17, 19], Nt 20] [])
 (Ct 21 (Rs [Kb false 4]
 .ret)
 .skip))
 (Rs [Kb true 4]
 .ret))))), lcF []⟩
def ks_bk9 : List (List (Option Nat)) := [[none]]
def gf_bk9 (a0 : Entry) (a1 : Entry) : Option Bool := (gf_bq9 a0.up a1.up).bind fun x3 => if (!x3) = true then (some (false)) else (if (!seq a0.note a1.note) = true then (some (false)) else ((gf_bh9 a0.diff a1.diff).bind fun x5 => if (!x5) = true then (some (false)) else (some (true))))
def c_bk9 : Con := ⟨Entry × Entry, Bool, 202, fun a => [.agg [.ro (List.map eInt a.1.up), .v (.string a.1.note), .ro (List.map (eChange false) a.1.diff)], .agg [.ro (List.map eInt a.2.up), .v (.string a.2.note), .ro (List.map (eChange false) a.2.diff)]], fun a => gf_bk9 a.1 a.2, fun a r => ⟨[(false, [.v (.bool r)])], []⟩, fun a => []⟩
/-! laws.eqEntryS -/
def if_bl9 : IFn := ⟨27, [.inl 4],
 (Rs [Kb false 4]
 (.seq (Rs (sq 6 [Mv 0, Ln 6, Mv 1, Ln 8, Bb .neq 7 9] [])
 (Ct 10 (Rs [Kb false 4]
 .ret)
 .skip))
 (.seq (Rs [Ki 0 5]
 (blkC 0 (.loop (.seq (Rs (sq 11 [Mv 5, Mv 0, Ln 12, Bb .lss 11 13] [])
 (Ct 14 .skip
 (.exit 0)))
 (.seq (.block 1 (.seq (.drw (sq 17 [Mv 0, Mv 5, Ia 3 17 18, La 3 19, Mv 1, Mv 5, Ia 3 21 22, La 3 23, Ca 202 [20, 24], Nt 25] []) [(3, 7)])
 (Ct 26 (Rs [Kb false 4]
 .ret)
 .skip)))
 (.reg (sq 15 [Mv 5, Bk .add 15 1] [Mv 16 5])))))))
 (Rs [Kb true 4]
 .ret)))), lcF []⟩
def ks_bl9 : List (List (Option Nat)) := [[none]]
def gl_bl9_1 (a1 : (List Entry)) : List Entry → Nat → Option (Bool ⊕ Unit)
 | [], k22 => some (.inr ())
 | x23 :: l24, k22 => (idx a1 (k22 : Int)).bind fun x31 => (gf_bk9 x23 x31).bind fun x33 => if (!x33) = true then (some (.inl (false))) else (gl_bl9_1 a1 l24 (k22 + 1) )
def gf_bl9 (a0 : (List Entry)) (a1 : (List Entry)) : Option Bool := if ((a0.length : Int) != (a1.length : Int)) = true then (some (false)) else (if fits a0.length = true then ((gl_bl9_1 a1 a0 0 ).bind fun q => match q with | .inl r => some r | .inr q20 => some (true)) else none)
def c_bl9 : Con := ⟨(List Entry) × (List Entry), Bool, 193, fun a => [.ro (List.map (eEntry false) a.1), .ro (List.map (eEntry false) a.2)], fun a => gf_bl9 a.1 a.2, fun a r => ⟨[(false, [.v (.bool r)])], []⟩, fun a => []⟩
/-! spec.l3Cut -/
def if_ew9 : IFn := ⟨29, [.inl 4],
 (Rs [Io (.mv (.c (.slice none 0 0))) 4]
 (Rs [Io (.lit 100 [none, none, some 66, some 82] [.v (.string ⟨#[]⟩), .v (.int .i64 0), .sl true 66 [], .sl true 82 []] 0 []) 7, Mv 7 5]
 (.seq (Rs [Ki 0 6]
 (blkC 0 (.loop (.seq (Rs (sq 8 [Mv 6, Mv 0, Ln 9, Bb .lss 8 10] [])
 (Ct 11 .skip
 (.exit 0)))
 (.seq (.block 1 (Rs (sq 14 [Mv 0, Mv 6, Ia 4 14 15, Fa 0 16, Ld 1 17, Mv 1, Bb .neq 18 19] [])
 (Ct 20 (.reg (sq 21 [Mv 5, Mv 0, Mv 6, Ia 4 22 23, La 4 24, Io (.lit 100 [none, none, some 66, some 82] [.v (.string ⟨#[]⟩), .v (.int .i64 0), .sl true 66 [], .sl true 82 []] 1 [(0, .t 25)]), Io (.app 100 true (.t 21) (.t 26))] [Mv 27 5]))
 .skip)))
 (.reg (sq 12 [Mv 6, Bk .add 12 1] [Mv 13 6])))))))
 (Rs [Mv 5 28, Mv 28 4]
 .ret)))), lcF []⟩
def ks_ew9 : List (List (Option Nat)) := [[some 100]]
def gl_ew9_1 (a1 : Str) : List Feat → Nat → (List Feat) → Option (List Feat)
 | [], k29, v26 => some v26
 | x30 :: l31, k29, v26 => if (!seq x30.id a1) = true then (if fits (v26 ++ ([x30] : (List Feat))).length = true then gl_ew9_1 a1 l31 (k29 + 1) (v26 ++ ([x30] : (List Feat))) else none) else (gl_ew9_1 a1 l31 (k29 + 1) v26)
def gf_ew9 (a0 : (List Feat)) (a1 : Str) : Option (List Feat) := if fits a0.length = true then ((gl_ew9_1 a1 a0 0 []).bind fun q24 => some (q24)) else none
def c_ew9 : Con := ⟨(List Feat) × Str, (List Feat), 364, fun a => [.ro (List.map (eFeat false) a.1), .v (.string a.2)], fun a => gf_ew9 a.1 a.2, fun a r => ⟨[(false, [sl true 100 (List.map (eFeat false) r)])], []⟩, fun a => []⟩
/-! spec.l4One -/
def if_fa9 : IFn := ⟨88, [.inl 2],
 (Rs (sq 1 [Io (.box 155 [none, none, none, none, some 66, some 82, none, none, none, some 66, some 82] (.t 0)), Kb false] [])
 (seqC (Rs (sq 3 [Fa 0 1, Ld 1 3, Ca 14 [4], Nt 5, Mv 6] (Sf 7 8 [Fa 1 1, Ld 1 8, Nt 9, Mv 10] (Sg 11 12 [Fa 6 1, Ld 1 12, Nt 13] (Gf 7 (Pf 11 14 15) :: (sq 16 [Pk 7 15, Mv 16] (Sf 17 18 [Fa 1 1, Ld 1 18, Mv 19] (Sg 20 21 [Fa 6 1, Ld 1 21] (Sf 17 23 [Pf 20 22, Mv 23] (Sg 24 25 [Fa 2 1, La 4 25, Fa 7 1, La 4 27, Ca 21 [26, 28]] [Gf 17 (Pf 24 29 30), Pk 17 30 31])))))))))
 (Ct 31 (Rs [Kb false 2]
 .ret)
 .skip))
 (seqC (Rs (sq 32 [Fa 1 1, Ld 1 32, Nt 33, Mv 34] (Sg 35 36 [Fa 2 1, La 4 36, Io (.build [.v (.string ⟨#[]⟩), .v (.int .i64 0), .nil, .nil] []), Ca 21 [37, 38], Nt 39] (sq 41 [Pf 35 40, Mv 41] (Sf 42 43 [Fa 6 1, Ld 1 43, Nt 44, Mv 45] (Sg 46 47 [Fa 7 1, La 4 47, Io (.build [.v (.string ⟨#[]⟩), .v (.int .i64 0), .nil, .nil] []), Ca 21 [48, 49], Nt 50] [Gf 42 (Pf 46 51 52), Pk 42 52 53])))))
 (Ct 53 (Rs [Kb false 2]
 .ret)
 .skip))
 (Rs (sq 54 [Fa 1 1, Ld 1 54, Nt 55, Mv 56] (Sf 57 58 [Fa 2 1, La 4 58, Ca 17 [59], Mv 60] (Sg 61 62 [Fa 2 1, Fa 0 62, Ld 1 63, Fa 0 1, Ld 1 65, Bb .eql 64 66] (Gf 57 (Pf 61 67 68) :: (sq 69 [Pk 57 68, Mv 69] (Sg 70 71 [Fa 6 1, Ld 1 71, Nt 72, Mv 73] (Sf 74 75 [Fa 7 1, La 4 75, Ca 17 [76], Mv 77] (Sg 78 79 [Fa 7 1, Fa 0 79, Ld 1 80, Fa 0 1, Ld 1 82, Bb .eql 81 83] [Gf 74 (Pf 78 84 85), Gt 70 (Pk 74 85 86), Pf 70 86 87, Mv 87 2]))))))))
 .ret)))), lcF []⟩
def ks_fa9 : List (List (Option Nat)) := [[none]]
def gf_fa9 (a0 : Change) : Option Bool := (((gf_en9 a0.id).bind fun x9 => if (!x9) = true then (some (.inl (false))) else (if (!a0.had) = true then (if (!a0.has) = true then (some (.inl (false))) else (if a0.had = true then (if a0.has = true then ((gf_eg9 a0.was a0.now).bind fun x11 => if x11 = true then (some (.inl (false))) else (some (.inr (true, true)))) else (some (.inr (true, false)))) else (some (.inr (false, a0.has))))) else (if a0.had = true then (if a0.has = true then ((gf_eg9 a0.was a0.now).bind fun x13 => if x13 = true then (some (.inl (false))) else (some (.inr (true, true)))) else (some (.inr (true, false)))) else (some (.inr (false, a0.has))))) : Option (Bool ⊕ (Bool × Bool)))).bind fun q => match q with | .inl r => some r | .inr q8 => ((if (!q8.1) = true then ((gf_eg9 a0.was (⟨(⟨#[]⟩ : Str), ⟨0, []⟩, []⟩ : Feat)).bind fun x25 => if (!x25) = true then (some (.inl (false))) else (if (!q8.2) = true then ((gf_eg9 a0.now (⟨(⟨#[]⟩ : Str), ⟨0, []⟩, []⟩ : Feat)).bind fun x27 => if (!x27) = true then (some (.inl (false))) else (some (.inr ()))) else (some (.inr ())))) else (if (!q8.2) = true then ((gf_eg9 a0.now (⟨(⟨#[]⟩ : Str), ⟨0, []⟩, []⟩ : Feat)).bind fun x29 => if (!x29) = true then (some (.inl (false))) else (some (.inr ()))) else (some (.inr ()))) : Option (Bool ⊕ Unit))).bind fun q => match q with | .inl r => some r | .inr q24 => if (!q8.1) = true then (if (!q8.2) = true then (some (true)) else ((gf_ef9 a0.now).bind fun x31 => if x31 = true then (some ((seq a0.now.id a0.id))) else (some (false)))) else ((gf_ef9 a0.was).bind fun x33 => if x33 = true then (if (seq a0.was.id a0.id) = true then (if (!q8.2) = true then (some (true)) else ((gf_ef9 a0.now).bind fun x35 => if x35 = true then (some ((seq a0.now.id a0.id))) else (some (false)))) else (some (false))) else (some (false)))
def c_fa9 : Con := ⟨Change, Bool, 388, fun a => [.agg [.v (.string a.id), .v (.bool a.had), .v (.string a.was.id), .v (.int .i64 a.was.shape.kind), .ro (List.map ePt a.was.shape.pts), .ro (List.map eTag a.was.tags), .v (.bool a.has), .v (.string a.now.id), .v (.int .i64 a.now.shape.kind), .ro (List.map ePt a.now.shape.pts), .ro (List.map eTag a.now.tags)]], fun a => gf_fa9 a, fun a r => ⟨[(false, [.v (.bool r)])], []⟩, fun a => []⟩
/-! spec.DiffOk -/
def if_ee9 : IFn := ⟨37, [.inl 2],
 (Rs [Kb false 2]
 (.seq (Rs [Ki 0 3]
 (blkC 0 (.loop (.seq (Rs (sq 4 [Mv 3, Mv 0, Ln 5, Bb .lss 4 6] [])
 (Ct 7 .skip
 (.exit 0)))
 (.seq (.block 1 (.seq (.drw (sq 10 [Mv 0, Mv 3, Ia 11 10 11, La 11 12, Ca 388 [13], Nt 14, Mv 15] (Sf 16 17 [Mv 3, Bk .gtr 17 0, Mv 18] (Sg 19 20 [Mv 0, Mv 3, Ia 11 20 21, Fa 0 22, Ld 1 23, Mv 0, Mv 3, Bk .sub 26 1, Ia 11 25 27, Fa 0 28, Ld 1 29, Bb .leq 24 30] [Gf 16 (Pf 19 31 32), Pk 16 32 33]))) [(14, 20)])
 (Ct 33 (Rs [Kb false 2]
 .ret)
 .skip)))
 (.reg (sq 8 [Mv 3, Bk .add 8 1] [Mv 9 3])))))))
 (Rs (sq 34 [Mv 0, Ln 34, Bk .leq 35 16] [Mv 36 2])
 .ret))), lcF []⟩
def ks_ee9 : List (List (Option Nat)) := [[none]]
def gl_ee9_1 (a0 : (List Change)) : List Change → Nat → Option (Bool ⊕ Unit)
 | [], k20 => some (.inr ())
 | x21 :: l22, k20 => (gf_fa9 x21).bind fun x29 => if (!x29) = true then (some (.inl (false))) else (if (decide ((k20 : Int) > 0)) = true then ((idx a0 (IntKind.i64.wrap ((k20 : Int) - 1))).bind fun x31 => if (slt x21.id x31.id || seq x21.id x31.id) = true then (some (.inl (false))) else (gl_ee9_1 a0 l22 (k20 + 1) )) else (gl_ee9_1 a0 l22 (k20 + 1) ))
def gf_ee9 (a0 : (List Change)) : Option Bool := if fits a0.length = true then ((gl_ee9_1 a0 a0 0 ).bind fun q => match q with | .inl r => some r | .inr q18 => some ((decide ((a0.length : Int) ≤ 16)))) else none
def c_ee9 : Con := ⟨(List Change), Bool, 368, fun a => [.ro (List.map (eChange false) a)], fun a => gf_ee9 a, fun a r => ⟨[(false, [.v (.bool r)])], []⟩, fun a => []⟩
/-! (impl.Change).same -/
def if_aa9 : IFn := ⟨15, [.inl 2],
 (Rs (sq 1 [Io (.box 155 [none, none, none, none, some 66, some 82, none, none, none, some 66, some 82] (.t 0)), Kb false] [])
 (Rs (sq 3 [Fa 1 1, Ld 1 3, Fa 6 1, Ld 1 5, Io (.eqs false false [1] (.t 4) (.t 6)), Mv 7] (Sg 8 9 [Fa 2 1, La 4 9, Fa 7 1, La 4 11, Ca 130 [10, 12]] [Pf 8 13 14, Mv 14 2]))
 .ret)), lcF []⟩
def ks_aa9 : List (List (Option Nat)) := [[none]]
def gf_aa9 (a0 : Change) : Option Bool := if (a0.had == a0.has) = true then ((gf_af9 a0.was a0.now).bind fun x2 => some (x2)) else (some (false))
def c_aa9 : Con := ⟨Change, Bool, 350, fun a => [.agg [.v (.string a.id), .v (.bool a.had), .v (.string a.was.id), .v (.int .i64 a.was.shape.kind), .ro (List.map ePt a.was.shape.pts), .ro (List.map eTag a.was.tags), .v (.bool a.has), .v (.string a.now.id), .v (.int .i64 a.now.shape.kind), .ro (List.map ePt a.now.shape.pts), .ro (List.map eTag a.now.tags)]], fun a => gf_aa9 a, fun a r => ⟨[(false, [.v (.bool r)])], []⟩, fun a => []⟩
/-! impl.noFeat -/
def if_az9 : IFn := ⟨25, [.inl 2],
 (Rs (sq 1 [Io (.box 100 [none, none, some 66, some 82] (.t 0)), Kb false] [])
 (Rs (sq 3 [Fa 0 1, Ld 1 3, Io (.bin .eql (.t 4) (.c (.string ⟨#[]⟩))), Mv 5] (Sg 6 7 [Fa 1 1, Fa 0 7, Ld 1 8, Bk .eql 9 0] (sq 11 [Pf 6 10, Mv 11] (Sg 12 13 [Fa 1 1, Fa 1 13, Ld 1 14, Ln 15, Bk .eql 16 0] (sq 18 [Pf 12 17, Mv 18] (Sg 19 20 [Fa 3 1, Ld 1 20, Ln 21, Bk .eql 22 0] [Pf 19 23 24, Mv 24 2]))))))
 .ret)), lcF []⟩
def ks_az9 : List (List (Option Nat)) := [[none]]
def gf_az9 (a0 : Feat) : Option Bool := if (seq a0.id (⟨#[]⟩ : Str)) = true then (if (a0.shape.kind == 0) = true then (if ((a0.shape.pts.length : Int) == 0) = true then (some (((a0.tags.length : Int) == 0))) else (some (false))) else (some (false))) else (some (false))
def c_az9 : Con := ⟨Feat, Bool, 393, fun a => [.agg [.v (.string a.id), .v (.int .i64 a.shape.kind), .ro (List.map ePt a.shape.pts), .ro (List.map eTag a.tags)]], fun a => gf_az9 a, fun a r => ⟨[(false, [.v (.bool r)])], []⟩, fun a => []⟩
/-! impl.sideOk -/
def if_bd9 : IFn := ⟨19, [.inl 6],
 (Rs (sq 5 [Io (.box 100 [none, none, some 66, some 82] (.t 2)), Kb false] [])
 (.seq (Rs (sq 7 [Mv 1, Nt 7] [])
 (Ct 8 (Rs (sq 9 [La 4 5, Ca 393 [9]] [Mv 10 6])
 .ret)
 .skip))
 (Rs (sq 11 [La 4 5, Ca 82 [11], Mv 12] (Sg 13 14 [Fa 0 5, Ld 1 14, Mv 0, Bb .eql 15 16] [Pf 13 17 18, Mv 18 6]))
 .ret))), lcF []⟩
def ks_bd9 : List (List (Option Nat)) := [[none]]
def gf_bd9 (a0 : Str) (a1 : Bool) (a2 : Feat) : Option Bool := if (!a1) = true then ((gf_az9 a2).bind fun x2 => some (x2)) else ((gf_ae9 a2).bind fun x4 => if x4 = true then (some ((seq a2.id a0))) else (some (false)))
def c_bd9 : Con := ⟨Str × Bool × Feat, Bool, 376, fun a => [.v (.string a.1), .v (.bool a.2.1), .agg [.v (.string a.2.2.id), .v (.int .i64 a.2.2.shape.kind), .ro (List.map ePt a.2.2.shape.pts), .ro (List.map eTag a.2.2.tags)]], fun a => gf_bd9 a.1 a.2.1 a.2.2, fun a r => ⟨[(false, [.v (.bool r)])], []⟩, fun a => []⟩
/-! impl.DiffOk -/
def if_ad9 : IFn := ⟨59, [.inl 2],
 (Rs [Kb false 2]
 (.seq (Rs (sq 5 [Mv 0, Ln 5, Ki 0] [])
 (blkC 0 (.loop (Rs [Bb .lss 7 6 8]
 (.seq (Ct 8 .skip
 (.exit 0))
 (.seq (.block 1 (Rs (sq 9 [Mv 7, Ia 11 5 7, La 11 10] [Io (.alloc 155 [.v (.string ⟨#[]⟩), .v (.bool false), .v (.string ⟨#[]⟩), .v (.int .i64 0), .sl true 66 [], .sl true 82 [], .v (.bool false), .v (.string ⟨#[]⟩), .v (.int .i64 0), .sl true 66 [], .sl true 82 []]) 4, Mv 9 3, Sv [none, none, none, none, some 66, some 82, none, none, none, some 66, some 82] 4 11])
 (.seq (.drw (sq 12 [Fa 0 4, Ld 1 12, Ca 80 [13], Nt 14, Mv 15] (Sf 16 17 [Mv 3, Bk .gtr 17 0, Mv 18] (Sg 19 20 [Mv 0, Mv 3, Bk .sub 21 1, Ia 11 20 22, Fa 0 23, Ld 1 24, Fa 0 4, Ld 1 26, Bb .geq 25 27] (Gf 16 (Pf 19 28 29) :: (sq 30 [Pk 16 29, Mv 30] (Sf 31 32 [Fa 0 4, Ld 1 32, Fa 1 4, Ld 1 34, Fa 2 4, La 4 36, Ca 376 [33, 35, 37], Nt 38] (sq 40 [Pk 31 39, Mv 40] (Sf 41 42 [Fa 0 4, Ld 1 42, Fa 6 4, Ld 1 44, Fa 7 4, La 4 46, Ca 376 [43, 45, 47], Nt 48] (sq 50 [Pk 41 49, Mv 50] (Sf 51 52 [La 11 4, Ca 350 [52]] [Pk 51 53 54])))))))))) [(13, 15), (21, 23), (21, 25), (23, 25), (31, 33), (31, 35), (33, 35)])
 (Ct 54 (Rs [Kb false 2]
 .ret)
 .skip))))
 (.reg [Bk .add 7 1 55, Mv 55 7])))))))
 (Rs (sq 56 [Mv 0, Ln 56, Bk .leq 57 16] [Mv 58 2])
 .ret))), lcF []⟩
def ks_ad9 : List (List (Option Nat)) := [[none]]
def gl_ad9_1 (a0 : (List Change)) : List Change → Nat → Option (Bool ⊕ Unit)
 | [], k53 => some (.inr ())
 | x54 :: l55, k53 => (gf_ar9 x54.id).bind fun x63 => if (!x63) = true then (some (.inl (false))) else (if (decide ((k53 : Int) > 0)) = true then ((idx a0 (IntKind.i64.wrap ((k53 : Int) - 1))).bind fun x65 => if (!slt x65.id x54.id) = true then (some (.inl (false))) else ((gf_bd9 x54.id x54.had x54.was).bind fun x67 => if (!x67) = true then (some (.inl (false))) else ((gf_bd9 x54.id x54.has x54.now).bind fun x69 => if (!x69) = true then (some (.inl (false))) else ((gf_aa9 x54).bind fun x71 => if x71 = true then (some (.inl (false))) else (gl_ad9_1 a0 l55 (k53 + 1) ))))) else ((gf_bd9 x54.id x54.had x54.was).bind fun x73 => if (!x73) = true then (some (.inl (false))) else ((gf_bd9 x54.id x54.has x54.now).bind fun x75 => if (!x75) = true then (some (.inl (false))) else ((gf_aa9 x54).bind fun x77 => if x77 = true then (some (.inl (false))) else (gl_ad9_1 a0 l55 (k53 + 1) )))))
def gf_ad9 (a0 : (List Change)) : Option Bool := if fits a0.length = true then ((gl_ad9_1 a0 a0 0 ).bind fun q => match q with | .inl r => some r | .inr q51 => some ((decide ((a0.length : Int) ≤ 16)))) else none
def c_ad9 : Con := ⟨(List Change), Bool, 352, fun a => [.ro (List.map (eChange false) a)], fun a => gf_ad9 a, fun a r => ⟨[(false, [.v (.bool r)])], []⟩, fun a => []⟩
/-! spec.l9Was -/
def if_fh9 : IFn := ⟨27, [.inl 4],
 (Rs [Io (.box 210 [some 115, some 130] (.t 0)) 2, Io (.mv (.zr)) 4]
 (.seq (Rs (sq 5 [Fa 0 2, Ld 1 5, Mv 1, Ia 3 6 7, Fa 0 8, Ld 1 9, Ln 10, Bk .eql 11 0] [])
 (Ct 12 (Rs [Io (.lit 100 [none, none, some 66, some 82] [.v (.string ⟨#[]⟩), .v (.int .i64 0), .sl true 66 [], .sl true 82 []] 0 []) 13, Io (.frz (.mv (.t 13))) 4]
 .ret)
 .skip))
 (.seq (.drw (sq 14 [Fa 0 2, Ld 1 14, Fa 0 2, Ld 1 16, Mv 1, Ia 3 17 18, Fa 0 19, Ld 1 20, Ik 1 21 0, Ld 1 22, Ia 3 15 23, Fa 1 24, Ld 1 25] [Io (.frz (.mv (.t 26))) 4]) [(1, 3), (1, 7), (1, 9)])
 .ret))), lcF []⟩
def ks_fh9 : List (List (Option Nat)) := [[some 100]]
def gf_fh9 (a0 : Repo) (a1 : Int) : Option (List Feat) := (idx a0.commits a1).bind fun x2 => if ((x2.up.length : Int) == 0) = true then (some (([] : (List Feat)))) else ((idx x2.up 0).bind fun x5 => (idx a0.commits x5).bind fun x7 => some (x7.sheet))
def c_fh9 : Con := ⟨Repo × Int, (List Feat), 344, fun a => [.agg [.ro (List.map (eCommit false) a.1.commits), .ro (List.map eHead a.1.heads)], .v (.int .i64 a.2)], fun a => gf_fh9 a.1 a.2, fun a r => ⟨[(false, [sl false 100 (List.map (eFeat false) r)])], []⟩, fun a => []⟩
/-! slices.Delete[[]impl.Feat,impl.Feat] -/
def if_do9 : IFn := ⟨33, [.inl 6],
 (Rs [Io (.mv (.c (.slice none 0 0))) 6]
 (Rs (sq 8 [Mv 0, Mv 1, Mv 2, Mv 0, Ln 11, Io (.sl3 4 (.t 8) (.t 9) (.t 10) (.t 12))] [])
 (.seq (Rs (sq 14 [Mv 1, Mv 2, Bb .eql 14 15] [])
 (Ct 16 (Rs [Mv 0 17, Mv 17 6]
 .ret)
 .skip))
 (Rs (sq 18 [Mv 0, Ln 18] [Mv 19 7])
 (.seq (.drw (sq 20 [Mv 0, Mv 1, Io (.sls 4 (.t 20) none (some (.t 21))), Mv 0, Mv 2, Io (.sls 4 (.t 23) (some (.t 24)) none), Io (.ain 100 (.t 22) (.t 25))] [Mv 26 0]) [])
 (Rs (sq 27 [Mv 0, Mv 0, Ln 28, Mv 7, Io (.slx 4 (.t 27) (some (.t 29)) (some (.t 30)))] [Iz (.clr 100 [.v (.string ⟨#[]⟩), .v (.int .i64 0), .sl false 2 [], .sl false 2 []] (.t 31))])
 (Rs [Io (.trn (.mv (.t 0))) 32, Mv 32 6]
 .ret))))))), lcF []⟩
def ks_do9 : List (List (Option Nat)) := [[some 100]]
def gf_do9 (a0 : List Feat) (a1 : Int) (a2 : Int) : Option (List Feat) := (slc a0 a1 a2).bind fun _ => if (a1 == a2) = true then some a0 else some (a0.take a1.toNat ++ a0.drop a2.toNat)
def c_do9 : Con := ⟨(List Feat) × Int × Int, (List Feat), 353, fun a => [.io 0 a.1.length 100, .v (.int .i64 a.2.1), .v (.int .i64 a.2.2)], fun a => gf_do9 a.1 a.2.1 a.2.2, fun a r => ⟨[(false, [sl true 100 (List.map (eFeat false) r)])], [none]⟩, fun a => [(false, 100, List.map (eFeat false) a.1)]⟩
/-! impl.DiffDo$1 -/
def if_ac9 : IFn := ⟨10, [.inl 4],
 (Rs (sq 2 [Io (.box 100 [none, none, some 66, some 82] (.t 0)), Io (.box 100 [none, none, some 66, some 82] (.t 1)), Ki 0] [])
 (.seq (Rs (sq 5 [Fa 0 2, Ld 1 5, Fa 0 3, Ld 1 7, Bb .lss 6 8] [])
 (Ct 9 (Rs [Ki (-1) 4]
 .ret)
 .skip))
 (Rs [Ki 1 4]
 .ret))), lcF []⟩
def ks_ac9 : List (List (Option Nat)) := [[none]]
def gf_ac9 (a0 : Feat) (a1 : Feat) : Option Int := if (slt a0.id a1.id) = true then (some ((-1))) else (some (1))
def c_ac9 : Con := ⟨Feat × Feat, Int, 354, fun a => [.agg [.v (.string a.1.id), .v (.int .i64 a.1.shape.kind), .ro (List.map ePt a.1.shape.pts), .ro (List.map eTag a.1.tags)], .agg [.v (.string a.2.id), .v (.int .i64 a.2.shape.kind), .ro (List.map ePt a.2.shape.pts), .ro (List.map eTag a.2.tags)]], fun a => gf_ac9 a.1 a.2, fun a r => ⟨[(false, [.v (.int .i64 r)])], []⟩, fun a => []⟩
/-! slices.SortFunc[[]impl.Feat,impl.Feat] -/

def gf_ec9 (a0 : List Feat) : Option (List Feat) := sortF a0
def c_ec9 : Con := sortCon 332 354
theorem l_ec9 {a0 r : List Feat} (h : gf_ec9 a0 = some r) : r.length = a0.length := sortF_len h/-! impl.DiffDo -/
def if_ab9 : IFn := ⟨76, [.inl 4, .inl 5],
 (Rs (sq 4 [Io (.mv (.c (.slice none 0 0))), Kb false] [])
 (.seq (Rs (sq 12 [Mv 0, Ca 86 [12], Nt 13, Mv 14] (Sf 15 16 [Mv 1, Ca 352 [16], Nt 17] [Pk 15 18 19]))
 (Ct 19 (Rs (Io (.lit 100 [none, none, some 66, some 82] [.v (.string ⟨#[]⟩), .v (.int .i64 0), .sl true 66 [], .sl true 82 []] 0 []) 20 :: (sq 4 [Mv 20, Kb false] []))
 .ret)
 .skip))
 (Rs (sq 21 [Mv 0, Io (.pfz 16 (.call 93 [(false, .t 21)]))] [Io (.ren 2000006 100 (.mv (.t 22))) 6])
 (.seq (Rs (sq 23 [Mv 1, Ln 23, Ki 0] [])
 (blkC 0 (.loop (Rs [Bb .lss 25 24 26]
 (.seq (Ct 26 .skip
 (.exit 0))
 (.seq (.block 1 (Rs (sq 27 [Ia 11 23 25, La 11 27] [Io (.alloc 155 [.v (.string ⟨#[]⟩), .v (.bool false), .v (.string ⟨#[]⟩), .v (.int .i64 0), .sl true 66 [], .sl true 82 [], .v (.bool false), .v (.string ⟨#[]⟩), .v (.int .i64 0), .sl true 66 [], .sl true 82 []]) 8, Sv [none, none, none, none, some 66, some 82, none, none, none, some 66, some 82] 8 28])
 (seqC (.reg (sq 30 [Mv 0, Fa 0 8, Ld 1 31, Ca 126 [30, 32]] (Mv 33 29 :: (sq 34 [Xt 29 0, Xt 29 1] [Io (.alloc 100 [.v (.string ⟨#[]⟩), .v (.int .i64 0), .sl true 66 [], .sl true 82 []]) 9, Sv [none, none, some 66, some 82] 9 34, Mv 35 10]))))
 (.seq (Rs (sq 36 [Mv 10, Fa 1 8, Ld 1 37, Io (.eqs true false [1] (.t 36) (.t 38)), Mv 39] (Sf 40 41 [La 4 9, Fa 2 8, La 4 42, Ca 130 [41, 43], Nt 44] [Pk 40 45 46]))
 (Ct 46 (Rs (Io (.lit 100 [none, none, some 66, some 82] [.v (.string ⟨#[]⟩), .v (.int .i64 0), .sl true 66 [], .sl true 82 []] 0 []) 47 :: (sq 4 [Mv 47, Kb false] []))
 .ret)
 .skip))
 (.seq (Rs (sq 48 [Mv 6, Fa 0 8, Ld 1 49, Ca 125 [48, 50]] [Mv 51 11])
 (Rs (sq 52 [Mv 11, Bk .geq 52 0] [])
 (Ct 53 (.reg (sq 54 [Mv 6, Mv 11, Mv 11, Bk .add 56 1, Io (.call 353 [(true, .t 54), (false, .t 55), (false, .t 57)])] [Io (.ren 2000006 100 (.mv (.t 58))) 6]))
 .skip)))
 (Rs (sq 59 [Fa 6 8, Ld 1 59] [])
 (Ct 60 (.reg (sq 61 [Mv 6, Fa 7 8, La 4 62, Io (.frz (.call 92 [(false, .t 63)])), Io (.lit 100 [none, none, some 66, some 82] [.v (.string ⟨#[]⟩), .v (.int .i64 0), .sl true 66 [], .sl true 82 []] 1 [(0, .t 64)]), Io (.app 100 true (.t 61) (.t 65))] [Io (.ren 2000006 100 (.mv (.t 66))) 6]))
 .skip)))))))
 (.reg [Bk .add 25 1 67, Mv 67 25])))))))
 (Rs (sq 68 [Mv 6, Io (.call 332 [(true, .t 68), (false, .f 354)])] [])
 (.seq (Rs (sq 70 [Mv 6, Ca 86 [70], Nt 71] [])
 (Ct 72 (Rs (Io (.lit 100 [none, none, some 66, some 82] [.v (.string ⟨#[]⟩), .v (.int .i64 0), .sl true 66 [], .sl true 82 []] 0 []) 73 :: (sq 4 [Mv 73, Kb false] []))
 .ret)
 .skip))
 (Rs (sq 74 [Mv 6, Ca 93 [74]] (sq 4 [Mv 75, Kb true] []))
 .ret))))))), lcF []⟩
def ks_ab9 : List (List (Option Nat)) := [[some 100], [none]]
def gl_ac9 (a0 : (List Feat)) : List Change → Nat → (List Feat) → Option (((List Feat) × Bool) ⊕ (List Feat))
 | [], k173, v170 => some (.inr v170)
 | x174 :: l175, k173, v170 => (((gf_bc9 a0 x174.id).bind fun x184 => some (x184.2, x184.1.shape.pts, x184.1.tags, x184.1.id, x184.1.shape.kind) : Option (Bool × (List Pt) × (List Tag) × Str × Int))).bind fun q183 => if (!(q183.1 == x174.had)) = true then (some (.inl (([] : (List Feat)), false))) else ((gf_af9 (⟨q183.2.2.2.1, ⟨q183.2.2.2.2, q183.2.1⟩, q183.2.2.1⟩ : Feat) x174.was).bind fun x201 => if (!x201) = true then (some (.inl (([] : (List Feat)), false))) else ((gf_ax9 v170 x174.id).bind fun x205 => if (decide (x205 ≥ 0)) = true then ((gf_do9 v170 x205 (IntKind.i64.wrap (x205 + 1))).bind fun x207 => if x174.has = true then ((gf_at9 x174.now).bind fun x211 => if fits (x207 ++ ([x211] : (List Feat))).length = true then gl_ac9 a0 l175 (k173 + 1) (x207 ++ ([x211] : (List Feat))) else none) else (gl_ac9 a0 l175 (k173 + 1) x207)) else (if x174.has = true then ((gf_at9 x174.now).bind fun x221 => if fits (v170 ++ ([x221] : (List Feat))).length = true then gl_ac9 a0 l175 (k173 + 1) (v170 ++ ([x221] : (List Feat))) else none) else (gl_ac9 a0 l175 (k173 + 1) v170))))
def gf_ab9 (a0 : (List Feat)) (a1 : (List Change)) : Option ((List Feat) × Bool) := (gf_ap9 a0).bind fun x1 => if (!x1) = true then (some (([] : (List Feat)), false)) else ((gf_ad9 a1).bind fun x3 => if (!x3) = true then (some (([] : (List Feat)), false)) else ((gf_aw9 a0).bind fun x7 => if fits a1.length = true then ((gl_ac9 a0 a1 0 x7).bind fun q => match q with | .inl r => some r | .inr q168 => (gf_ec9 q168).bind fun x234 => (gf_ap9 x234).bind fun x236 => if (!x236) = true then (some (([] : (List Feat)), false)) else ((gf_aw9 x234).bind fun x239 => some (x239, true))) else none))
def c_ab9 : Con := ⟨(List Feat) × (List Change), ((List Feat) × Bool), 309, fun a => [.ro (List.map (eFeat false) a.1), .ro (List.map (eChange false) a.2)], fun a => gf_ab9 a.1 a.2, fun a r => ⟨[(false, [sl true 100 (List.map (eFeat true) r.1)]), (false, [.v (.bool r.2)])], []⟩, fun a => []⟩
/-! impl.PackOpen -/
def if_ag9 : IFn := ⟨88, [.inr (4, 2), .inl 5],
 (Rs (sq 4 [Io (.alloc 210 [.sl true 115 [], .sl true 130 []]), Kb false] [])
 (Rs (sq 14 [Io (.lit 115 [some 17, some 100, none] [.sl true 17 [], .sl true 100 [], .v (.string ⟨#[]⟩)] 0 []), Io (.lit 130 [none, none] [.v (.string ⟨#[]⟩), .v (.int .i64 0)] 0 []), Mv 1, Io (.app 130 false (.t 15) (.t 16)), Io (.build [.nil, .nil] [(0, 1, .t 14), (1, 1, .t 17)])] [Io (.alloc 210 [.sl true 115 [], .sl true 130 []]) 6, Sv [some 115, some 130] 6 18])
 (.seq (Rs (sq 19 [Mv 0, Ln 19, Bk .gtr 20 14] [])
 (Ct 21 (Rs [Io (.build [.nil, .nil] []) 22, Sv [some 115, some 130] 4 22, Kb false 5]
 .ret)
 .skip))
 (.seq (Rs (sq 23 [Mv 0, Ln 23, Ki 0] [])
 (blkC 0 (.loop (Rs [Bb .lss 25 24 26]
 (.seq (Ct 26 .skip
 (.exit 0))
 (.seq (.block 1 (Rs (sq 27 [Mv 25, Ia 3 23 25, La 3 28] [Io (.alloc 163 [.sl true 17 [], .v (.string ⟨#[]⟩), .sl true 155 []]) 8, Mv 27 7, Sv [some 17, none, some 155] 8 29])
 (.seq (Rs (sq 30 [Fa 0 8, Ld 1 30, Ln 31, Ki 0] [])
 (blkC 2 (.loop (Rs [Bb .lss 33 32 34]
 (.seq (Ct 34 .skip
 (.exit 2))
 (.seq (.block 3 (Rs (sq 35 [Ia 1 31 33, Ld 1 35] [Mv 36 10])
 (Rs (sq 37 [Mv 10, Mv 7, Bk .sub 38 1, Io (.call 76 [(false, .t 37), (false, .c (.int .i64 0)), (false, .t 39)]), Nt 40] [])
 (Ct 41 (Rs [Io (.build [.nil, .nil] []) 42, Sv [some 115, some 130] 4 42, Kb false 5]
 .ret)
 .skip))))
 (.reg [Bk .add 33 1 43, Mv 43 33])))))))
 (Rs [Io (.frz (.lit 100 [none, none, some 66, some 82] [.v (.string ⟨#[]⟩), .v (.int .i64 0), .sl true 66 [], .sl true 82 []] 0 [])) 44, Mv 44 11]
 (seqC (Rs (sq 45 [Fa 0 8, Ld 1 45, Ln 46, Bk .gtr 47 0] [])
 (Ct 48 (.drw (sq 49 [Fa 0 6, Ld 1 49, Fa 0 8, Ld 1 51, Ik 1 52 0, Ld 1 53, Ia 3 50 54, Fa 1 55, Ld 1 56] [Mv 57 11]) [(1, 3), (1, 5)])
 .skip))
 (Rs (sq 59 [Mv 11, Fa 2 8, Ld 1 60, Io (.frz (.call 309 [(false, .t 59), (false, .t 61)]))] (Mv 62 58 :: (sq 63 [Xt 58 0, Xt 58 1] (sq 12 [Mv 63, Mv 64] []))))
 (.seq (Rs (sq 65 [Mv 13, Nt 65] [])
 (Ct 66 (Rs [Io (.build [.nil, .nil] []) 67, Sv [some 115, some 130] 4 67, Kb false 5]
 .ret)
 .skip))
 (.drw (sq 68 [Fa 0 6, Ld 1 68, Io (.lit 17 [none] [.v (.int .i64 0)] 0 []), Fa 0 8, Ld 1 71, Io (.frz (.app 17 false (.t 70) (.t 72))), Mv 12, Fa 1 8, Ld 1 75, Io (.build [.nil, .nil, .v (.string ⟨#[]⟩)] [(0, 1, .t 73), (1, 1, .t 74), (2, 1, .t 76)]), Io (.lit 115 [some 17, some 100, none] [.sl true 17 [], .sl true 100 [], .v (.string ⟨#[]⟩)] 1 [(0, .t 77)]), Io (.app 115 true (.t 69) (.t 78)), Fa 0 6] [Sv [some 115] 80 79]) [(1, 2), (1, 4), (2, 4), (1, 5), (1, 8), (2, 8), (4, 8), (5, 8), (1, 10)]))))))))
 (.reg [Bk .add 25 1 81, Mv 81 25])))))))
 (.seq (Rs (sq 82 [La 2 6, Ca 96 [82], Nt 83] [])
 (Ct 84 (Rs [Io (.build [.nil, .nil] []) 85, Sv [some 115, some 130] 4 85, Kb false 5]
 .ret)
 .skip))
 (Rs (sq 86 [La 2 6, Ca 150 [86]] [Sv [some 115, some 130] 4 87, Kb true 5])
 .ret)))))), lcF []⟩
def ks_ag9 : List (List (Option Nat)) := [[some 115, some 130], [none]]
def gl_ag9_5 (k178 : Nat) : List Int → Nat → Option ((Repo × Bool) ⊕ Unit)
 | [], k203 => some (.inr ())
 | x204 :: l205, k203 => (gf_be9 x204 0 (IntKind.i64.wrap ((k178 : Int) - 1))).bind fun x212 => if (!x212) = true then (some (.inl ((⟨[], []⟩ : Repo), false))) else (gl_ag9_5 k178 l205 (k203 + 1) )
def gl_ag9_4 : List Entry → Nat → (List Commit) → Option ((Repo × Bool) ⊕ (List Commit))
 | [], k178, v174 => some (.inr v174)
 | x179 :: l180, k178, v174 => if fits x179.up.length = true then ((gl_ag9_5 k178 x179.up 0 ).bind fun q => match q with | .inl r => some (.inl r) | .inr q201 => ((if (decide ((x179.up.length : Int) > 0)) = true then ((idx x179.up 0).bind fun x220 => (idx v174 x220).bind fun x222 => some x222.sheet) else (some []) : Option (List Feat))).bind fun q219 => (gf_ab9 q219 x179.diff).bind fun x225 => if (!x225.2) = true then (some (.inl ((⟨[], []⟩ : Repo), false))) else (if fits ([] ++ x179.up).length = true then if fits (v174 ++ ([(⟨([] ++ x179.up), x225.1, x179.note⟩ : Commit)] : (List Commit))).length = true then gl_ag9_4 l180 (k178 + 1) (v174 ++ ([(⟨([] ++ x179.up), x225.1, x179.note⟩ : Commit)] : (List Commit))) else none else none)) else none
def gf_ag9 (a0 : (List Entry)) (a1 : (List Head)) : Option (Repo × Bool) := if fits ([] ++ a1).length = true then if (decide ((a0.length : Int) > 14)) = true then (some ((⟨[], []⟩ : Repo), false)) else (if fits a0.length = true then ((gl_ag9_4 a0 0 []).bind fun q => match q with | .inl r => some r | .inr q172 => (gf_ah9 (⟨q172, ([] ++ a1)⟩ : Repo)).bind fun x241 => if (!x241) = true then (some ((⟨[], []⟩ : Repo), false)) else ((gf_au9 (⟨q172, ([] ++ a1)⟩ : Repo)).bind fun x243 => some (x243, true))) else none) else none
def c_ag9 : Con := ⟨(List Entry) × (List Head), (Repo × Bool), 286, fun a => [.ro (List.map (eEntry false) a.1), .ro (List.map eHead a.2)], fun a => gf_ag9 a.1 a.2, fun a r => ⟨[(true, eRepo true r.1), (false, [.v (.bool r.2)])], []⟩, fun a => []⟩
/-! spec.l4Fits -/
def if_ez9 : IFn := ⟨24, [.inl 4],
 (Rs (sq 3 [Io (.box 155 [none, none, none, none, some 66, some 82, none, none, none, some 66, some 82] (.t 1)), Kb false] [])
 (Rs (sq 8 [Mv 0, Fa 0 3, Ld 1 9, Ca 52 [8, 10]] (Mv 11 7 :: (sq 12 [Xt 7 0, Xt 7 1] [Io (.alloc 100 [.v (.string ⟨#[]⟩), .v (.int .i64 0), .sl true 66 [], .sl true 82 []]) 5, Sv [none, none, some 66, some 82] 5 12, Mv 13 6])))
 (Rs (sq 14 [Mv 6, Fa 1 3, Ld 1 15, Io (.eqs false false [1] (.t 14) (.t 16)), Mv 17] (Sg 18 19 [La 4 5, Fa 2 3, La 4 20, Ca 21 [19, 21]] [Pf 18 22 23, Mv 23 4]))
 .ret))), lcF []⟩
def ks_ez9 : List (List (Option Nat)) := [[none]]
def gf_ez9 (a0 : (List Feat)) (a1 : Change) : Option Bool := (gf_fb9 a0 a1.id).bind fun x2 => if (x2.2 == a1.had) = true then ((gf_eg9 x2.1 a1.was).bind fun x9 => some (x9)) else (some (false))
def c_ez9 : Con := ⟨(List Feat) × Change, Bool, 374, fun a => [.ro (List.map (eFeat false) a.1), .agg [.v (.string a.2.id), .v (.bool a.2.had), .v (.string a.2.was.id), .v (.int .i64 a.2.was.shape.kind), .ro (List.map ePt a.2.was.shape.pts), .ro (List.map eTag a.2.was.tags), .v (.bool a.2.has), .v (.string a.2.now.id), .v (.int .i64 a.2.now.shape.kind), .ro (List.map ePt a.2.now.shape.pts), .ro (List.map eTag a.2.now.tags)]], fun a => gf_ez9 a.1 a.2, fun a r => ⟨[(false, [.v (.bool r)])], []⟩, fun a => []⟩
/-! spec.DiffDo -/
def if_ed9 : IFn := ⟨57, [.inl 4, .inl 5],
 (Rs (sq 4 [Io (.mv (.c (.slice none 0 0))), Kb false] [])
 (.seq (Rs (sq 8 [Mv 0, Ca 26 [8], Nt 9, Mv 10] (Sf 11 12 [Mv 1, Ca 368 [12], Nt 13] [Pk 11 14 15]))
 (Ct 15 (Rs (Io (.lit 100 [none, none, some 66, some 82] [.v (.string ⟨#[]⟩), .v (.int .i64 0), .sl true 66 [], .sl true 82 []] 0 []) 16 :: (sq 4 [Mv 16, Kb false] []))
 .ret)
 .skip))
 (Rs [Mv 0 17, Mv 17 6]
 (.seq (Rs [Ki 0 7]
 (blkC 0 (.loop (.seq (Rs (sq 18 [Mv 7, Mv 1, Ln 19, Bb .lss 18 20] [])
 (Ct 21 .skip
 (.exit 0)))
 (.seq (.block 1 (.seq (Rs (sq 24 [Mv 0, Mv 1, Mv 7, Ia 11 25 26, La 11 27, Ca 374 [24, 28], Nt 29] [])
 (Ct 30 (Rs (Io (.lit 100 [none, none, some 66, some 82] [.v (.string ⟨#[]⟩), .v (.int .i64 0), .sl true 66 [], .sl true 82 []] 0 []) 31 :: (sq 4 [Mv 31, Kb false] []))
 .ret)
 .skip))
 (Rs (sq 32 [Mv 1, Mv 7, Ia 11 32 33, Fa 6 34, Ld 1 35] [])
 (Ct 36 (.reg (sq 37 [Mv 6, Mv 1, Mv 7, Ia 11 38 39, Fa 7 40, La 4 41, Io (.frz (.call 37 [(false, .t 37), (false, .t 42)]))] [Mv 43 6]))
 (.reg (sq 44 [Mv 6, Mv 1, Mv 7, Ia 11 45 46, Fa 0 47, Ld 1 48, Io (.frz (.call 364 [(false, .t 44), (false, .t 49)]))] [Mv 50 6]))))))
 (.reg (sq 22 [Mv 7, Bk .add 22 1] [Mv 23 7])))))))
 (.seq (Rs (sq 51 [Mv 6, Ca 26 [51], Nt 52] [])
 (Ct 53 (Rs (Io (.lit 100 [none, none, some 66, some 82] [.v (.string ⟨#[]⟩), .v (.int .i64 0), .sl true 66 [], .sl true 82 []] 0 []) 54 :: (sq 4 [Mv 54, Kb false] []))
 .ret)
 .skip))
 (Rs (sq 55 [Mv 6, Ca 31 [55]] (sq 4 [Mv 56, Kb true] []))
 .ret)))))), lcF []⟩
def ks_ed9 : List (List (Option Nat)) := [[some 100], [none]]
def gl_ed9_1 (a0 : (List Feat)) : List Change → Nat → (List Feat) → Option (((List Feat) × Bool) ⊕ (List Feat))
 | [], k51, v49 => some (.inr v49)
 | x52 :: l53, k51, v49 => (gf_ez9 a0 x52).bind fun x60 => if (!x60) = true then (some (.inl (([] : (List Feat)), false))) else (if x52.has = true then ((gf_ey9 v49 x52.now).bind fun x63 => gl_ed9_1 a0 l53 (k51 + 1) x63) else ((gf_ew9 v49 x52.id).bind fun x67 => gl_ed9_1 a0 l53 (k51 + 1) x67))
def gf_ed9 (a0 : (List Feat)) (a1 : (List Change)) : Option ((List Feat) × Bool) := (gf_el9 a0).bind fun x1 => if (!x1) = true then (some (([] : (List Feat)), false)) else ((gf_ee9 a1).bind fun x3 => if (!x3) = true then (some (([] : (List Feat)), false)) else (if fits a1.length = true then ((gl_ed9_1 a0 a1 0 a0).bind fun q => match q with | .inl r => some r | .inr q48 => (gf_el9 q48).bind fun x72 => if (!x72) = true then (some (([] : (List Feat)), false)) else ((gf_ev9 q48).bind fun x75 => some (x75, true))) else none))
def c_ed9 : Con := ⟨(List Feat) × (List Change), ((List Feat) × Bool), 345, fun a => [.ro (List.map (eFeat false) a.1), .ro (List.map (eChange false) a.2)], fun a => gf_ed9 a.1 a.2, fun a r => ⟨[(false, [sl true 100 (List.map (eFeat true) r.1)]), (false, [.v (.bool r.2)])], []⟩, fun a => []⟩
/-! spec.l9Was -/
def if_fi9 : IFn := ⟨27, [.inl 4],
 (Rs [Io (.box 210 [some 115, some 130] (.t 0)) 2, Io (.mv (.zr)) 4]
 (.seq (Rs (sq 5 [Fa 0 2, Ld 1 5, Mv 1, Ia 3 6 7, Fa 0 8, Ld 1 9, Ln 10, Bk .eql 11 0] [])
 (Ct 12 (Rs [Io (.lit 100 [none, none, some 66, some 82] [.v (.string ⟨#[]⟩), .v (.int .i64 0), .sl true 66 [], .sl true 82 []] 0 []) 13, Io (.frz (.mv (.t 13))) 4]
 .ret)
 .skip))
 (.seq (.drw (sq 14 [Fa 0 2, Ld 1 14, Fa 0 2, Ld 1 16, Mv 1, Ia 3 17 18, Fa 0 19, Ld 1 20, Ik 1 21 0, Ld 1 22, Ia 3 15 23, Fa 1 24, Ld 1 25] [Io (.frz (.mv (.t 26))) 4]) [(1, 3), (1, 7), (1, 9)])
 .ret))), lcF [(0, 1000256), (1, 1000257)]⟩
def ks_fi9 : List (List (Option Nat)) := [[some 100]]
def gf_fi9 (a0 : Repo) (a1 : Int) : Option ((List Feat) × Repo) := (idx a0.commits a1).bind fun x2 => if ((x2.up.length : Int) == 0) = true then (some (([] : (List Feat)), a0)) else ((idx x2.up 0).bind fun x5 => (idx a0.commits x5).bind fun x7 => some (x7.sheet, a0))
def c_fi9 : Con := ⟨Repo × Int, ((List Feat) × Repo), 344, fun a => [.agg [.io 0 a.1.commits.length 115, .io 1 a.1.heads.length 130], .v (.int .i64 a.2)], fun a => gf_fi9 a.1 a.2, fun a r => ⟨[(false, [sl false 100 (List.map (eFeat false) r.1)])], [some (List.map (eCommit false) r.2.commits), some (List.map eHead r.2.heads)]⟩, fun a => [(false, 115, List.map (eCommit false) a.1.commits), (false, 130, List.map eHead a.1.heads)]⟩
theorem l_fi9 {a0 : Repo} {a1 : Int} {r : ((List Feat) × Repo)} (h : gf_fi9 a0 a1 = some r) : (r.2.commits).length = (a0.commits).length ∧ (r.2.heads).length = (a0.heads).length := by
 revert h
 unfold gf_fi9
 cases idx a0.commits a1 with
 | none => exact fun h => by cases h
 | some x =>
  simp only [Option.bind_some]
  split
  ·intro h; cases h; exact ⟨rfl, rfl⟩
  ·cases idx x.up 0 with
   | none => exact fun h => by cases h
   | some y =>
    simp only [Option.bind_some]
    cases idx a0.commits y with
    | none => exact fun h => by cases h
    | some z => intro h; cases h; exact ⟨rfl, rfl⟩

/-! spec.PackOpen -/
def if_eh9 : IFn := ⟨77, [.inr (4, 2), .inl 5],
 (Rs (sq 4 [Io (.alloc 210 [.sl true 115 [], .sl true 130 []]), Kb false] [])
 (Rs (sq 10 [Io (.lit 130 [none, none] [.v (.string ⟨#[]⟩), .v (.int .i64 0)] 0 []), Mv 1, Io (.app 130 false (.t 10) (.t 11)), Io (.build [.nil, .nil] [(1, 1, .t 12)])] [Io (.alloc 210 [.sl true 115 [], .sl true 130 []]) 6, Sv [some 115, some 130] 6 13])
 (.seq (Rs (sq 14 [Mv 0, Ln 14, Bk .gtr 15 14] [])
 (Ct 16 (Rs [Io (.build [.nil, .nil] []) 17, Sv [some 115, some 130] 4 17, Kb false 5]
 .ret)
 .skip))
 (.seq (Rs [Ki 0 7]
 (blkC 0 (.loop (.seq (Rs (sq 18 [Mv 7, Mv 0, Ln 19, Bb .lss 18 20] [])
 (Ct 21 .skip
 (.exit 0)))
 (.seq (.block 1 (.seq (Rs (sq 24 [Mv 0, Mv 7, Ia 3 24 25, Fa 0 26, Ld 1 27, Mv 7, Ca 25 [28, 29], Nt 30] [])
 (Ct 31 (Rs [Io (.build [.nil, .nil] []) 32, Sv [some 115, some 130] 4 32, Kb false 5]
 .ret)
 .skip))
 (.seq (.drw (sq 33 [Fa 0 6, Ld 1 33, Io (.lit 17 [none] [.v (.int .i64 0)] 0 []), Mv 0, Mv 7, Ia 3 36 37, Fa 0 38, Ld 1 39, Io (.frz (.app 17 false (.t 35) (.t 40))), Mv 0, Mv 7, Ia 3 42 43, Fa 1 44, Ld 1 45, Io (.frz (.build [.nil, .nil, .v (.string ⟨#[]⟩)] [(0, 1, .t 41), (2, 1, .t 46)])), Io (.lit 115 [some 17, some 100, none] [.sl true 17 [], .sl true 100 [], .v (.string ⟨#[]⟩)] 1 [(0, .t 47)]), Io (.app 115 true (.t 34) (.t 48)), Fa 0 6] [Sv [some 115] 50 49]) [(1, 2), (1, 7), (2, 7), (1, 8), (1, 13), (2, 13), (7, 13), (8, 13), (1, 14), (1, 15)])
 (.seq (.drw (sq 52 [La 2 6, Mv 7, Io (.call 344 [(true, .t 52), (false, .t 53)]), Mv 0, Mv 7, Ia 3 55 56, Fa 2 57, Ld 1 58, Io (.frz (.call 345 [(false, .t 54), (false, .t 59)]))] (Mv 60 51 :: (sq 61 [Xt 51 0, Xt 51 1] (sq 8 [Mv 61, Mv 62] [])))) [(0, 7), (2, 7)])
 (.seq (Rs (sq 63 [Mv 9, Nt 63] [])
 (Ct 64 (Rs [Io (.build [.nil, .nil] []) 65, Sv [some 115, some 130] 4 65, Kb false 5]
 .ret)
 .skip))
 (.reg (sq 66 [Fa 0 6, Ld 1 66, Mv 7, Mv 8, Ia 3 67 68, Fa 1 70] [Sv [some 100] 71 69])))))))
 (.reg (sq 22 [Mv 7, Bk .add 22 1] [Mv 23 7])))))))
 (.seq (Rs (sq 72 [La 2 6, Ca 33 [72], Nt 73] [])
 (Ct 74 (Rs [Io (.build [.nil, .nil] []) 75, Sv [some 115, some 130] 4 75, Kb false 5]
 .ret)
 .skip))
 (Rs [La 2 6 76, Sv [some 115, some 130] 4 76, Kb true 5]
 .ret)))))), lcF []⟩
def ks_eh9 : List (List (Option Nat)) := [[some 115, some 130], [none]]
def gl_eh9_1 : List Entry → Nat → (List Commit) → (List Head) → Option ((Repo × Bool) ⊕ ((List Commit) × (List Head)))
 | [], k87, v80, v83 => some (.inr (v80, v83))
 | x88 :: l89, k87, v80, v83 => (gf_fg9 x88.up (k87 : Int)).bind fun x96 => if (!x96) = true then (some (.inl ((⟨[], []⟩ : Repo), false))) else (if fits ([] ++ x88.up).length = true then if fits (v80 ++ ([(⟨([] ++ x88.up), [], x88.note⟩ : Commit)] : (List Commit))).length = true then (gf_fi9 (⟨(v80 ++ ([(⟨([] ++ x88.up), [], x88.note⟩ : Commit)] : (List Commit))), v83⟩ : Repo) (k87 : Int)).bind fun x106 => (gf_ed9 x106.1 x88.diff).bind fun x108 => if (!x108.2) = true then (some (.inl ((⟨[], []⟩ : Repo), false))) else ((idx x106.2.commits (k87 : Int)).bind fun x112 => gl_eh9_1 l89 (k87 + 1) (List.set x106.2.commits (k87 : Int).toNat (⟨x112.up, x108.1, x112.note⟩ : Commit)) x106.2.heads) else none else none)
def gf_eh9 (a0 : (List Entry)) (a1 : (List Head)) : Option (Repo × Bool) := if fits ([] ++ a1).length = true then if (decide ((a0.length : Int) > 14)) = true then (some ((⟨[], []⟩ : Repo), false)) else (if fits a0.length = true then ((gl_eh9_1 a0 0 [] ([] ++ a1)).bind fun q => match q with | .inl r => some r | .inr q78 => (gf_ei9 (⟨q78.1, q78.2⟩ : Repo)).bind fun x121 => if (!x121) = true then (some ((⟨[], []⟩ : Repo), false)) else (some ((⟨q78.1, q78.2⟩ : Repo), true))) else none) else none
def c_eh9 : Con := ⟨(List Entry) × (List Head), (Repo × Bool), 287, fun a => [.ro (List.map (eEntry false) a.1), .ro (List.map eHead a.2)], fun a => gf_eh9 a.1 a.2, fun a r => ⟨[(true, eRepoZ r.1), (false, [.v (.bool r.2)])], []⟩, fun a => []⟩
/-! laws.markChangeS -/
def if_ce9 : IFn := ⟨109, [.inl 4],
 (Rs [Ki 0 4]
 (.seq (Rs [Ki 0 5]
 (blkC 0 (.loop (.seq (Rs (sq 6 [Mv 5, Mv 0, Ln 7, Bb .lss 6 8] [])
 (Ct 9 .skip
 (.exit 0)))
 (.seq (.block 1 (Rs (sq 12 [Mv 0, Mv 5, Mv 1, Ca 166 [14], Ia 11 12 13, Fa 0 16] [Sv [none] 17 15])
 (Rs (sq 18 [Mv 1, Bk .add 18 1] [Mv 19 1])
 (Rs (sq 20 [Mv 0, Mv 5, Mv 1, Bk .rem 22 3, Bk .eql 23 0, Ia 11 20 21, Fa 1 25] [Sv [none] 26 24])
 (Rs (sq 27 [Mv 1, Bk .add 27 1] [Mv 28 1])
 (seqC (.reg (sq 29 [Mv 0, Mv 5, Mv 1, Ca 166 [31], Ia 11 29 30, Fa 2 33, Fa 0 34] [Sv [none] 35 32]))
 (Rs (sq 36 [Mv 1, Bk .add 36 1] [Mv 37 1])
 (Rs (sq 38 [Mv 0, Mv 5, Mv 1, Ia 11 38 39, Fa 2 41, Fa 1 42, Fa 0 43] [Sv [none] 44 40])
 (Rs (sq 45 [Mv 1, Bk .add 45 1] [Mv 46 1])
 (Rs (sq 47 [Mv 0, Mv 5, Ia 11 47 48, Fa 2 49, Fa 1 50, Fa 1 51, Ld 1 52, Mv 1, Io (.shut (.t 52) (.call 167 [(true, .t 53), (false, .t 54)]))] [Mv 55 1])
 (Rs (sq 56 [Mv 0, Mv 5, Ia 11 56 57, Fa 2 58, Fa 3 59, Ld 1 60, Mv 1, Io (.shut (.t 60) (.call 168 [(true, .t 61), (false, .t 62)]))] [Mv 63 1])
 (Rs (sq 64 [Mv 0, Mv 5, Mv 1, Bk .rem 66 3, Bk .eql 67 0, Ia 11 64 65, Fa 6 69] [Sv [none] 70 68])
 (Rs (sq 71 [Mv 1, Bk .add 71 1] [Mv 72 1])
 (seqC (.reg (sq 73 [Mv 0, Mv 5, Mv 1, Ca 166 [75], Ia 11 73 74, Fa 7 77, Fa 0 78] [Sv [none] 79 76]))
 (Rs (sq 80 [Mv 1, Bk .add 80 1] [Mv 81 1])
 (Rs (sq 82 [Mv 0, Mv 5, Mv 1, Ia 11 82 83, Fa 7 85, Fa 1 86, Fa 0 87] [Sv [none] 88 84])
 (Rs (sq 89 [Mv 1, Bk .add 89 1] [Mv 90 1])
 (Rs (sq 91 [Mv 0, Mv 5, Ia 11 91 92, Fa 7 93, Fa 1 94, Fa 1 95, Ld 1 96, Mv 1, Io (.shut (.t 96) (.call 167 [(true, .t 97), (false, .t 98)]))] [Mv 99 1])
 (.reg (sq 100 [Mv 0, Mv 5, Ia 11 100 101, Fa 7 102, Fa 3 103, Ld 1 104, Mv 1, Io (.shut (.t 104) (.call 168 [(true, .t 105), (false, .t 106)]))] [Mv 107 1]))))))))))))))))))))
 (.reg (sq 10 [Mv 5, Bk .add 10 1] [Mv 11 5])))))))
 (Rs [Mv 1 108, Mv 108 4]
 .ret))), lcF []⟩
def ks_ce9 : List (List (Option Nat)) := [[none]]
def gl_ce9_1 : Nat → Int → Int → (List Change) → Option (Int × (List Change))
 | 0, _, _, _ => none
 | n152 + 1, v149, v150, v151 => if (decide (v150 < (v151.length : Int))) = true then ((gf_cn9 v149).bind fun x153 => (idx v151 v150).bind fun x155 => (idx (List.set v151 v150.toNat (⟨x153, x155.had, x155.was, x155.has, x155.now⟩ : Change)) v150).bind fun x157 => (((gf_cn9 (IntKind.i64.wrap ((IntKind.i64.wrap (v149 + 1)) + 1))).bind fun x160 => (idx (List.set (List.set v151 v150.toNat (⟨x153, x155.had, x155.was, x155.has, x155.now⟩ : Change)) v150.toNat (⟨x157.id, ((Int.tmod (IntKind.i64.wrap (v149 + 1)) 3) == 0), x157.was, x157.has, x157.now⟩ : Change)) v150).bind fun x162 => some (List.set (List.set (List.set v151 v150.toNat (⟨x153, x155.had, x155.was, x155.has, x155.now⟩ : Change)) v150.toNat (⟨x157.id, ((Int.tmod (IntKind.i64.wrap (v149 + 1)) 3) == 0), x157.was, x157.has, x157.now⟩ : Change)) v150.toNat (⟨x162.id, x162.had, ⟨x160, x162.was.shape, x162.was.tags⟩, x162.has, x162.now⟩ : Change)) : Option (List Change))).bind fun q159 => (idx q159 v150).bind fun x165 => (idx (List.set q159 v150.toNat (⟨x165.id, x165.had, ⟨x165.was.id, ⟨(IntKind.i64.wrap ((IntKind.i64.wrap ((IntKind.i64.wrap (v149 + 1)) + 1)) + 1)), x165.was.shape.pts⟩, x165.was.tags⟩, x165.has, x165.now⟩ : Change)) v150).bind fun x167 => (gf_ck9 x167.was.shape.pts (IntKind.i64.wrap ((IntKind.i64.wrap ((IntKind.i64.wrap ((IntKind.i64.wrap (v149 + 1)) + 1)) + 1)) + 1))).bind fun x171 => (idx (List.set (List.set q159 v150.toNat (⟨x165.id, x165.had, ⟨x165.was.id, ⟨(IntKind.i64.wrap ((IntKind.i64.wrap ((IntKind.i64.wrap (v149 + 1)) + 1)) + 1)), x165.was.shape.pts⟩, x165.was.tags⟩, x165.has, x165.now⟩ : Change)) v150.toNat (⟨x167.id, x167.had, ⟨x167.was.id, ⟨x167.was.shape.kind, x171.2⟩, x167.was.tags⟩, x167.has, x167.now⟩ : Change)) v150).bind fun x173 => (gf_cm9 x173.was.tags x171.1).bind fun x177 => (idx (List.set (List.set (List.set q159 v150.toNat (⟨x165.id, x165.had, ⟨x165.was.id, ⟨(IntKind.i64.wrap ((IntKind.i64.wrap ((IntKind.i64.wrap (v149 + 1)) + 1)) + 1)), x165.was.shape.pts⟩, x165.was.tags⟩, x165.has, x165.now⟩ : Change)) v150.toNat (⟨x167.id, x167.had, ⟨x167.was.id, ⟨x167.was.shape.kind, x171.2⟩, x167.was.tags⟩, x167.has, x167.now⟩ : Change)) v150.toNat (⟨x173.id, x173.had, ⟨x173.was.id, x173.was.shape, x177.2⟩, x173.has, x173.now⟩ : Change)) v150).bind fun x179 => (((gf_cn9 (IntKind.i64.wrap (x177.1 + 1))).bind fun x182 => (idx (List.set (List.set (List.set (List.set q159 v150.toNat (⟨x165.id, x165.had, ⟨x165.was.id, ⟨(IntKind.i64.wrap ((IntKind.i64.wrap ((IntKind.i64.wrap (v149 + 1)) + 1)) + 1)), x165.was.shape.pts⟩, x165.was.tags⟩, x165.has, x165.now⟩ : Change)) v150.toNat (⟨x167.id, x167.had, ⟨x167.was.id, ⟨x167.was.shape.kind, x171.2⟩, x167.was.tags⟩, x167.has, x167.now⟩ : Change)) v150.toNat (⟨x173.id, x173.had, ⟨x173.was.id, x173.was.shape, x177.2⟩, x173.has, x173.now⟩ : Change)) v150.toNat (⟨x179.id, x179.had, x179.was, ((Int.tmod x177.1 3) == 0), x179.now⟩ : Change)) v150).bind fun x184 => some (List.set (List.set (List.set (List.set (List.set q159 v150.toNat (⟨x165.id, x165.had, ⟨x165.was.id, ⟨(IntKind.i64.wrap ((IntKind.i64.wrap ((IntKind.i64.wrap (v149 + 1)) + 1)) + 1)), x165.was.shape.pts⟩, x165.was.tags⟩, x165.has, x165.now⟩ : Change)) v150.toNat (⟨x167.id, x167.had, ⟨x167.was.id, ⟨x167.was.shape.kind, x171.2⟩, x167.was.tags⟩, x167.has, x167.now⟩ : Change)) v150.toNat (⟨x173.id, x173.had, ⟨x173.was.id, x173.was.shape, x177.2⟩, x173.has, x173.now⟩ : Change)) v150.toNat (⟨x179.id, x179.had, x179.was, ((Int.tmod x177.1 3) == 0), x179.now⟩ : Change)) v150.toNat (⟨x184.id, x184.had, x184.was, x184.has, ⟨x182, x184.now.shape, x184.now.tags⟩⟩ : Change)) : Option (List Change))).bind fun q181 => (idx q181 v150).bind fun x187 => (idx (List.set q181 v150.toNat (⟨x187.id, x187.had, x187.was, x187.has, ⟨x187.now.id, ⟨(IntKind.i64.wrap ((IntKind.i64.wrap (x177.1 + 1)) + 1)), x187.now.shape.pts⟩, x187.now.tags⟩⟩ : Change)) v150).bind fun x189 => (gf_ck9 x189.now.shape.pts (IntKind.i64.wrap ((IntKind.i64.wrap ((IntKind.i64.wrap (x177.1 + 1)) + 1)) + 1))).bind fun x193 => (idx (List.set (List.set q181 v150.toNat (⟨x187.id, x187.had, x187.was, x187.has, ⟨x187.now.id, ⟨(IntKind.i64.wrap ((IntKind.i64.wrap (x177.1 + 1)) + 1)), x187.now.shape.pts⟩, x187.now.tags⟩⟩ : Change)) v150.toNat (⟨x189.id, x189.had, x189.was, x189.has, ⟨x189.now.id, ⟨x189.now.shape.kind, x193.2⟩, x189.now.tags⟩⟩ : Change)) v150).bind fun x195 => (gf_cm9 x195.now.tags x193.1).bind fun x199 => gl_ce9_1 n152 x199.1 (IntKind.i64.wrap (v150 + 1)) (List.set (List.set (List.set q181 v150.toNat (⟨x187.id, x187.had, x187.was, x187.has, ⟨x187.now.id, ⟨(IntKind.i64.wrap ((IntKind.i64.wrap (x177.1 + 1)) + 1)), x187.now.shape.pts⟩, x187.now.tags⟩⟩ : Change)) v150.toNat (⟨x189.id, x189.had, x189.was, x189.has, ⟨x189.now.id, ⟨x189.now.shape.kind, x193.2⟩, x189.now.tags⟩⟩ : Change)) v150.toNat (⟨x195.id, x195.had, x195.was, x195.has, ⟨x195.now.id, x195.now.shape, x199.2⟩⟩ : Change))) else (some (v149, v151))
def gf_ce9 (a0 : (List Change)) (a1 : Int) : Option (Int × (List Change)) := (gl_ce9_1 rounds a1 0 a0).bind fun q148 => some (q148.1, q148.2)
def c_ce9 : Con := ⟨(List Change) × Int, (Int × (List Change)), 348, fun a => [.io 0 a.1.length 155, .v (.int .i64 a.2)], fun a => gf_ce9 a.1 a.2, fun a r => ⟨[(false, [.v (.int .i64 r.1)])], [some (List.map (eChange true) r.2)]⟩, fun a => [(false, 155, List.map (eChange true) a.1)]⟩
theorem l_ce9 {a0 : (List Change)} {a1 : Int} {r : (Int × (List Change))} (h : gf_ce9 a0 a1 = some r) : (r.2).length = (a0).length := by
 unfold gf_ce9 at h
 obtain ⟨q, h1, h2⟩ := bnd h
 have key := fuelLen (gl := gl_ce9_1) (fun _ _ _ => rfl) (fun n k i a q h => by
  simp only [gl_ce9_1] at h
  split at h
  ·obtain ⟨_, _, h⟩ := bnd h
   obtain ⟨_, _, h⟩ := bnd h
   obtain ⟨_, _, h⟩ := bnd h
   obtain ⟨_, hq, h⟩ := bnd h
   obtain ⟨_, _, hq⟩ := bnd hq
   obtain ⟨_, _, hq⟩ := bnd hq
   cases hq
   obtain ⟨_, _, h⟩ := bnd h
   obtain ⟨_, _, h⟩ := bnd h
   obtain ⟨_, _, h⟩ := bnd h
   obtain ⟨_, _, h⟩ := bnd h
   obtain ⟨_, _, h⟩ := bnd h
   obtain ⟨_, _, h⟩ := bnd h
   obtain ⟨_, hq, h⟩ := bnd h
   obtain ⟨_, _, hq⟩ := bnd hq
   obtain ⟨_, _, hq⟩ := bnd hq
   cases hq
   obtain ⟨_, _, h⟩ := bnd h
   obtain ⟨_, _, h⟩ := bnd h
   obtain ⟨_, _, h⟩ := bnd h
   obtain ⟨_, _, h⟩ := bnd h
   obtain ⟨_, _, h⟩ := bnd h
   exact .inl ⟨_, _, _, by simp, h⟩
  ·cases h
   exact .inr rfl) _ _ _ _ _ h1
 cases h2
 exact key

/-! laws.markEntryS -/
def if_cg9 : IFn := ⟨35, [.inl 4],
 (Rs [Ki 0 4]
 (.seq (Rs [Ki 0 5]
 (blkC 0 (.loop (.seq (Rs (sq 6 [Mv 5, Mv 0, Ln 7, Bb .lss 6 8] [])
 (Ct 9 .skip
 (.exit 0)))
 (.seq (.block 1 (Rs (sq 12 [Mv 0, Mv 5, Ia 3 12 13, Fa 0 14, Ld 1 15, Mv 1, Io (.shut (.t 15) (.call 169 [(true, .t 16), (false, .t 17)]))] [Mv 18 1])
 (Rs (sq 19 [Mv 0, Mv 5, Mv 1, Ca 166 [21], Ia 3 19 20, Fa 1 23] [Sv [none] 24 22])
 (Rs (sq 25 [Mv 1, Bk .add 25 1] [Mv 26 1])
 (.reg (sq 27 [Mv 0, Mv 5, Ia 3 27 28, Fa 2 29, Ld 1 30, Mv 1, Io (.shut (.t 30) (.call 348 [(true, .t 31), (false, .t 32)]))] [Mv 33 1]))))))
 (.reg (sq 10 [Mv 5, Bk .add 10 1] [Mv 11 5])))))))
 (Rs [Mv 1 34, Mv 34 4]
 .ret))), lcF []⟩
def ks_cg9 : List (List (Option Nat)) := [[none]]
def gl_cg9_1 : Nat → Int → Int → (List Entry) → Option (Int × (List Entry))
 | 0, _, _, _ => none
 | n56 + 1, v53, v54, v55 => if (decide (v54 < (v55.length : Int))) = true then ((idx v55 v54).bind fun x57 => (gf_cj9 x57.up v53).bind fun x61 => (gf_cn9 x61.1).bind fun x63 => (idx (List.set v55 v54.toNat (⟨x61.2, x57.note, x57.diff⟩ : Entry)) v54).bind fun x65 => (idx (List.set (List.set v55 v54.toNat (⟨x61.2, x57.note, x57.diff⟩ : Entry)) v54.toNat (⟨x65.up, x63, x65.diff⟩ : Entry)) v54).bind fun x67 => (gf_ce9 x67.diff (IntKind.i64.wrap (x61.1 + 1))).bind fun x71 => gl_cg9_1 n56 x71.1 (IntKind.i64.wrap (v54 + 1)) (List.set (List.set (List.set v55 v54.toNat (⟨x61.2, x57.note, x57.diff⟩ : Entry)) v54.toNat (⟨x65.up, x63, x65.diff⟩ : Entry)) v54.toNat (⟨x67.up, x67.note, x71.2⟩ : Entry))) else (some (v53, v55))
def gf_cg9 (a0 : (List Entry)) (a1 : Int) : Option (Int × (List Entry)) := (gl_cg9_1 rounds a1 0 a0).bind fun q52 => some (q52.1, q52.2)
def c_cg9 : Con := ⟨(List Entry) × Int, (Int × (List Entry)), 292, fun a => [.io 0 a.1.length 163, .v (.int .i64 a.2)], fun a => gf_cg9 a.1 a.2, fun a r => ⟨[(false, [.v (.int .i64 r.1)])], [some (List.map (eEntry true) r.2)]⟩, fun a => [(false, 163, List.map (eEntry true) a.1)]⟩
theorem l_cg9 {a0 : (List Entry)} {a1 : Int} {r : (Int × (List Entry))} (h : gf_cg9 a0 a1 = some r) : (r.2).length = (a0).length := by
 unfold gf_cg9 at h
 obtain ⟨q, h1, h2⟩ := bnd h
 have key := fuelLen (gl := gl_cg9_1) (fun _ _ _ => rfl) (fun n k i a q h => by
  simp only [gl_cg9_1] at h
  split at h
  ·simp only [Option.bind_eq_some_iff] at h
   obtain ⟨_, _, _, _, _, _, _, _, _, _, _, _, h⟩ := h
   exact .inl ⟨_, _, _, by simp, h⟩
  ·cases h
   exact .inr rfl) _ _ _ _ _ h1
 cases h2
 exact key

/-! laws.FnExactPackOpen -/
def if_bf9 : IFn := ⟨119, [.inl 4],
 (Rs [Kb false 4]
 (Rs [Ki 1048576 5]
 (Rs (sq 17 [Mv 0, Mv 5, Ca 189 [17, 18]] [Mv 19 5])
 (.seq (Rs (sq 20 [Mv 5, Bk .lss 20 0] [])
 (Ct 21 (Rs [Kb true 4]
 .ret)
 .skip))
 (Rs (sq 22 [Mv 1, Mv 5, Ca 11 [22, 23]] [Mv 24 5])
 (.seq (Rs (sq 25 [Mv 5, Bk .lss 25 0] [])
 (Ct 26 (Rs [Kb true 4]
 .ret)
 .skip))
 (seqC (.reg (sq 28 [Mv 0, Io (.frz (.call 190 [(false, .t 28)])), Mv 1, Io (.frz (.call 75 [(false, .t 30)])), Io (.frz (.call 287 [(false, .t 29), (false, .t 31)]))] (Mv 32 27 :: (sq 33 [Xt 27 0, Xt 27 1] [Io (.alloc 210 [.sl true 115 [], .sl true 130 []]) 6, Sv [some 115, some 130] 6 33, Mv 34 7]))))
 (Rs (sq 35 [Mv 0, Ca 190 [35]] [Mv 36 8])
 (Rs (sq 37 [Mv 1, Ca 75 [37]] [Mv 38 9])
 (Rs (sq 40 [Mv 8, Mv 9, Ca 286 [40, 41]] (Mv 42 39 :: (sq 43 [Xt 39 0, Xt 39 1] [Io (.alloc 210 [.sl true 115 [], .sl true 130 []]) 10, Sv [some 115, some 130] 10 43, Mv 44 11])))
 (.seq (Rs (sq 45 [La 2 10, La 2 6, Ca 183 [45, 46], Nt 47, Mv 48] (Sf 49 50 [Mv 11, Mv 7, Io (.eqs true false [1] (.t 50) (.t 51))] [Pk 49 52 53]))
 (Ct 53 (Rs [Kb false 4]
 .ret)
 .skip))
 (.seq (Rs (sq 54 [Mv 8, Mv 0, Ca 190 [55], Ca 193 [54, 56], Nt 57] [])
 (Ct 58 (Rs [Kb false 4]
 .ret)
 .skip))
 (.seq (Rs (sq 59 [Mv 9, Mv 1, Ca 75 [60], Ca 164 [59, 61], Nt 62] [])
 (Ct 63 (Rs [Kb false 4]
 .ret)
 .skip))
 (seqC (.reg [Ki 1 12])
 (Rs (sq 64 [Mv 8, Mv 12, Io (.call 292 [(true, .t 64), (false, .t 65)])] [Mv 66 12])
 (Rs (sq 67 [Mv 9, Mv 12, Io (.call 172 [(true, .t 67), (false, .t 68)])] [Mv 69 12])
 (.seq (Rs (sq 70 [Mv 12, Bk .lss 70 0, Mv 71] (Sf 72 73 [La 2 10, La 2 6, Ca 183 [73, 74], Nt 75] (sq 77 [Pk 72 76, Mv 77] (Sf 78 79 [Mv 11, Mv 7, Io (.eqs true false [1] (.t 79) (.t 80))] [Pk 78 81 82]))))
 (Ct 82 (Rs [Kb false 4]
 .ret)
 .skip))
 (Rs [Ki 1 13]
 (Rs (sq 83 [La 2 10, Mv 13, Io (.call 185 [(true, .t 83), (false, .t 84)])] [Mv 85 13])
 (Rs [Ki 1 14]
 (Rs (sq 86 [La 2 10, Mv 14, Ca 187 [86, 87]] [Mv 88 14])
 (.seq (Rs (sq 89 [Mv 14, Bk .lss 89 0] [])
 (Ct 90 (Rs [Kb false 4]
 .ret)
 .skip))
 (.seq (Rs (sq 91 [Mv 14, Mv 13, Bb .neq 91 92] [])
 (Ct 93 (Rs [Kb false 4]
 .ret)
 .skip))
 (Rs (sq 95 [Mv 0, Ca 190 [95], Mv 1, Ca 75 [97], Ca 286 [96, 98]] (Mv 99 94 :: (sq 100 [Xt 94 0, Xt 94 1] [Io (.alloc 210 [.sl true 115 [], .sl true 130 []]) 15, Sv [some 115, some 130] 15 100, Mv 101 16])))
 (.seq (Rs (sq 102 [La 2 15, La 2 6, Ca 183 [102, 103], Nt 104, Mv 105] (Sf 106 107 [Mv 16, Mv 7, Io (.eqs true false [1] (.t 107) (.t 108))] [Pk 106 109 110]))
 (Ct 110 (Rs [Kb false 4]
 .ret)
 .skip))
 (Rs [Ki 1 14]
 (Rs (sq 111 [La 2 10, Mv 14, Ca 187 [111, 112]] [Mv 113 14])
 (.seq (Rs (sq 114 [Mv 14, Bk .lss 114 0] [])
 (Ct 115 (Rs [Kb false 4]
 .ret)
 .skip))
 (.seq (Rs (sq 116 [Mv 14, Mv 13, Bb .neq 116 117] [])
 (Ct 118 (Rs [Kb false 4]
 .ret)
 .skip))
 (Rs [Kb true 4]
 .ret)))))))))))))))))))))))))))))), lcF []⟩
def ks_bf9 : List (List (Option Nat)) := [[none]]
def gf_bf9 (a0 : (List Entry)) (a1 : (List Head)) : Option Bool := (gf_cr9 a0 1048576).bind fun x1 => if (decide (x1 < 0)) = true then (some (true)) else ((gf_cu9 a1 x1).bind fun x3 => if (decide (x3 < 0)) = true then (some (true)) else ((((gf_dd9 a0).bind fun x6 => (gf_dg9 a1).bind fun x10 => (gf_eh9 x6 x10).bind fun x14 => some (x14.2, x14.1.commits, x14.1.heads) : Option (Bool × (List Commit) × (List Head)))).bind fun q5 => (gf_dd9 a0).bind fun x25 => (gf_dg9 a1).bind fun x29 => (gf_ag9 x25 x29).bind fun x33 => (gf_bt9 x33.1 (⟨q5.2.1, q5.2.2⟩ : Repo)).bind fun x40 => if (!x40) = true then (some (false)) else (if (!(x33.2 == q5.1)) = true then (some (false)) else ((gf_dd9 a0).bind fun x42 => (gf_bl9 x25 x42).bind fun x46 => if (!x46) = true then (some (false)) else ((gf_dg9 a1).bind fun x48 => (gf_bp9 x29 x48).bind fun x52 => if (!x52) = true then (some (false)) else (((some () : Option Unit)).bind fun q54 => (gf_cg9 x25 1).bind fun x55 => (gf_ci9 x29 x55.1).bind fun x57 => if (decide (x57.1 < 0)) = true then (some (false)) else ((gf_bt9 x33.1 (⟨q5.2.1, q5.2.2⟩ : Repo)).bind fun x59 => if (!x59) = true then (some (false)) else (if (!(x33.2 == q5.1)) = true then (some (false)) else ((gf_cl9 x33.1 1).bind fun x61 => (gf_cc9 x61.2 1).bind fun x63 => if (decide (x63 < 0)) = true then (some (false)) else (if (x63 != x61.1) = true then (some (false)) else ((gf_dd9 a0).bind fun x65 => (gf_dg9 a1).bind fun x69 => (gf_ag9 x65 x69).bind fun x73 => (gf_bt9 x73.1 (⟨q5.2.1, q5.2.2⟩ : Repo)).bind fun x80 => if (!x80) = true then (some (false)) else (if (!(x73.2 == q5.1)) = true then (some (false)) else ((gf_cc9 x61.2 1).bind fun x82 => if (decide (x82 < 0)) = true then (some (false)) else (if (x82 != x61.1) = true then (some (false)) else (some (true))))))))))))))))
def c_bf9 : Con := ⟨(List Entry) × (List Head), Bool, 294, fun a => [.ro (List.map (eEntry false) a.1), .ro (List.map eHead a.2)], fun a => gf_bf9 a.1 a.2, fun a r => ⟨[(false, [.v (.bool r)])], []⟩, fun a => []⟩
end Go.Proofs.AM
