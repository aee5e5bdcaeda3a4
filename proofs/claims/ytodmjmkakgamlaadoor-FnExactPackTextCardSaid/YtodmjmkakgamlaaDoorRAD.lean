/- Lemmas of the proof (RAD), on an abstract machine. Conditions: none. -/
import Derived.Test.YtodmjmkakgamlaaDoorSF
set_option linter.unusedVariables false
set_option maxRecDepth 100000
set_option maxHeartbeats 4000000
namespace Go.Proofs.AM
attribute [local irreducible] vwp vstps vstpLs vstp vdo vret kseq kblk kloop kend kcut kloop2 frzV renV shutK pfzV trnV unrV
/-! laws.szPtS -/
def if_bi9 : IFn := ⟨12, [.inl 4],
 (Rs [Ki 0 4]
 (Rs (sq 5 [Mv 1, Mv 0, Ln 6, Bb .sub 5 7] [Mv 8 1])
 (.seq (Rs (sq 9 [Mv 1, Bk .lss 9 0] [])
 (Ct 10 (Rs [Ki (-1) 4]
 .ret)
 .skip))
 (Rs [Mv 1 11, Mv 11 4]
 .ret)))), lcF []⟩
def ks_bi9 : List (List (Option Nat)) := [[none]]
def gf_bi9 (a0 : (List Pt)) (a1 : Int) : Option Int := if (decide ((IntKind.i64.wrap (a1 - (a0.length : Int))) < 0)) = true then (some ((-1))) else (some ((IntKind.i64.wrap (a1 - (a0.length : Int)))))
def c_bi9 : Con := ⟨(List Pt) × Int, Int, 1, fun a => [.ro (List.map ePt a.1), .v (.int .i64 a.2)], fun a => gf_bi9 a.1 a.2, fun a r => ⟨[(false, [.v (.int .i64 r)])], []⟩, fun a => []⟩
/-! laws.szTag -/
def if_bk9 : IFn := ⟨20, [.inl 4],
 (Rs [Io (.box 354 [none, none] (.t 0)) 2, Ki 0 4]
 (Rs (sq 5 [Mv 1, Fa 0 2, Ld 1 6, Ls 7, Bb .sub 5 8] [Mv 9 1])
 (.seq (Rs (sq 10 [Mv 1, Bk .lss 10 0] [])
 (Ct 11 (Rs [Ki (-1) 4]
 .ret)
 .skip))
 (Rs (sq 12 [Mv 1, Fa 1 2, Ld 1 13, Ls 14, Bb .sub 12 15] [Mv 16 1])
 (.seq (Rs (sq 17 [Mv 1, Bk .lss 17 0] [])
 (Ct 18 (Rs [Ki (-1) 4]
 .ret)
 .skip))
 (Rs [Mv 1 19, Mv 19 4]
 .ret)))))), lcF []⟩
def ks_bk9 : List (List (Option Nat)) := [[none]]
def gf_bk9 (a0 : Tag) (a1 : Int) : Option Int := if (decide ((IntKind.i64.wrap (a1 - (a0.key.size : Int))) < 0)) = true then (some ((-1))) else (if (decide ((IntKind.i64.wrap ((IntKind.i64.wrap (a1 - (a0.key.size : Int))) - (a0.val.size : Int))) < 0)) = true then (some ((-1))) else (some ((IntKind.i64.wrap ((IntKind.i64.wrap (a1 - (a0.key.size : Int))) - (a0.val.size : Int))))))
def c_bk9 : Con := ⟨Tag × Int, Int, 2, fun a => [.agg [.v (.string a.1.key), .v (.string a.1.val)], .v (.int .i64 a.2)], fun a => gf_bk9 a.1 a.2, fun a r => ⟨[(false, [.v (.int .i64 r)])], []⟩, fun a => []⟩
/-! laws.szShape -/
def if_bj9 : IFn := ⟨12, [.inl 4],
 (Rs [Io (.box 482 [none, some 338] (.t 0)) 2, Ki 0 4]
 (Rs (sq 5 [Fa 1 2, Ld 1 5, Mv 1, Ca 1 [6, 7]] [Mv 8 1])
 (.seq (Rs (sq 9 [Mv 1, Bk .lss 9 0] [])
 (Ct 10 (Rs [Ki (-1) 4]
 .ret)
 .skip))
 (Rs [Mv 1 11, Mv 11 4]
 .ret)))), lcF []⟩
def ks_bj9 : List (List (Option Nat)) := [[none]]
def gf_bj9 (a0 : Shape) (a1 : Int) : Option Int := (gf_bi9 a0.pts a1).bind fun x2 => if (decide (x2 < 0)) = true then (some ((-1))) else (some (x2))
def c_bj9 : Con := ⟨Shape × Int, Int, 3, fun a => [.agg [.v (.int .i64 a.1.kind), .ro (List.map ePt a.1.pts)], .v (.int .i64 a.2)], fun a => gf_bj9 a.1 a.2, fun a r => ⟨[(false, [.v (.int .i64 r)])], []⟩, fun a => []⟩
/-! laws.szTagS -/
def if_bl9 : IFn := ⟨27, [.inl 4],
 (Rs [Ki 0 4]
 (Rs (sq 6 [Mv 1, Mv 0, Ln 7, Bb .sub 6 8] [Mv 9 1])
 (.seq (Rs (sq 10 [Mv 1, Bk .lss 10 0] [])
 (Ct 11 (Rs [Ki (-1) 4]
 .ret)
 .skip))
 (.seq (Rs [Ki 0 5]
 (blkC 0 (.loop (.seq (Rs (sq 12 [Mv 5, Mv 0, Ln 13, Bb .lss 12 14] [])
 (Ct 15 .skip
 (.exit 0)))
 (.seq (.block 1 (Rs (sq 18 [Mv 0, Mv 5, Ia 2 18 19, La 2 20, Mv 1, Ca 2 [21, 22]] [Mv 23 1])
 (Rs (sq 24 [Mv 1, Bk .lss 24 0] [])
 (Ct 25 (Rs [Ki (-1) 4]
 .ret)
 .skip))))
 (.reg (sq 16 [Mv 5, Bk .add 16 1] [Mv 17 5])))))))
 (Rs [Mv 1 26, Mv 26 4]
 .ret))))), lcF []⟩
def ks_bl9 : List (List (Option Nat)) := [[none]]
def gl_bl9_1 : List Tag → Nat → Int → Option (Int ⊕ Int)
 | [], k18, v16 => some (.inr v16)
 | x19 :: l20, k18, v16 => (gf_bk9 x19 v16).bind fun x27 => if (decide (x27 < 0)) = true then (some (.inl ((-1)))) else (gl_bl9_1 l20 (k18 + 1) x27)
def gf_bl9 (a0 : (List Tag)) (a1 : Int) : Option Int := if (decide ((IntKind.i64.wrap (a1 - (a0.length : Int))) < 0)) = true then (some ((-1))) else (if fits a0.length = true then ((gl_bl9_1 a0 0 (IntKind.i64.wrap (a1 - (a0.length : Int)))).bind fun q => match q with | .inl r => some r | .inr q15 => some (q15)) else none)
def c_bl9 : Con := ⟨(List Tag) × Int, Int, 4, fun a => [.ro (List.map eTag a.1), .v (.int .i64 a.2)], fun a => gf_bl9 a.1 a.2, fun a r => ⟨[(false, [.v (.int .i64 r)])], []⟩, fun a => []⟩
/-! laws.szFeat -/
def if_bg9 : IFn := ⟨25, [.inl 4],
 (Rs [Io (.box 372 [none, none, some 338, some 354] (.t 0)) 2, Ki 0 4]
 (Rs (sq 5 [Mv 1, Fa 0 2, Ld 1 6, Ls 7, Bb .sub 5 8] [Mv 9 1])
 (.seq (Rs (sq 10 [Mv 1, Bk .lss 10 0] [])
 (Ct 11 (Rs [Ki (-1) 4]
 .ret)
 .skip))
 (Rs (sq 12 [Fa 1 2, La 2 12, Mv 1, Ca 3 [13, 14]] [Mv 15 1])
 (.seq (Rs (sq 16 [Mv 1, Bk .lss 16 0] [])
 (Ct 17 (Rs [Ki (-1) 4]
 .ret)
 .skip))
 (Rs (sq 18 [Fa 3 2, Ld 1 18, Mv 1, Ca 4 [19, 20]] [Mv 21 1])
 (.seq (Rs (sq 22 [Mv 1, Bk .lss 22 0] [])
 (Ct 23 (Rs [Ki (-1) 4]
 .ret)
 .skip))
 (Rs [Mv 1 24, Mv 24 4]
 .ret)))))))), lcF []⟩
def ks_bg9 : List (List (Option Nat)) := [[none]]
def gf_bg9 (a0 : Feat) (a1 : Int) : Option Int := if (decide ((IntKind.i64.wrap (a1 - (a0.id.size : Int))) < 0)) = true then (some ((-1))) else ((gf_bj9 a0.shape (IntKind.i64.wrap (a1 - (a0.id.size : Int)))).bind fun x2 => if (decide (x2 < 0)) = true then (some ((-1))) else ((gf_bl9 a0.tags x2).bind fun x4 => if (decide (x4 < 0)) = true then (some ((-1))) else (some (x4))))
def c_bg9 : Con := ⟨Feat × Int, Int, 5, fun a => [.agg [.v (.string a.1.id), .v (.int .i64 a.1.shape.kind), .ro (List.map ePt a.1.shape.pts), .ro (List.map eTag a.1.tags)], .v (.int .i64 a.2)], fun a => gf_bg9 a.1 a.2, fun a r => ⟨[(false, [.v (.int .i64 r)])], []⟩, fun a => []⟩
/-! laws.szIntS -/
def if_bh9 : IFn := ⟨12, [.inl 4],
 (Rs [Ki 0 4]
 (Rs (sq 5 [Mv 1, Mv 0, Ln 6, Bb .sub 5 7] [Mv 8 1])
 (.seq (Rs (sq 9 [Mv 1, Bk .lss 9 0] [])
 (Ct 10 (Rs [Ki (-1) 4]
 .ret)
 .skip))
 (Rs [Mv 1 11, Mv 11 4]
 .ret)))), lcF []⟩
def ks_bh9 : List (List (Option Nat)) := [[none]]
def gf_bh9 (a0 : (List Int)) (a1 : Int) : Option Int := if (decide ((IntKind.i64.wrap (a1 - (a0.length : Int))) < 0)) = true then (some ((-1))) else (some ((IntKind.i64.wrap (a1 - (a0.length : Int)))))
def c_bh9 : Con := ⟨(List Int) × Int, Int, 6, fun a => [.ro (List.map eInt a.1), .v (.int .i64 a.2)], fun a => gf_bh9 a.1 a.2, fun a r => ⟨[(false, [.v (.int .i64 r)])], []⟩, fun a => []⟩
/-! spec.l1Num -/
def if_ck9 : IFn := ⟨9, [.inl 2],
 (Rs [Kb false 2]
 (Rs (sq 3 [Mv 0, Bk .geq 3 (-1000), Mv 4] (Sg 5 6 [Mv 0, Bk .leq 6 1000] [Pf 5 7 8, Mv 8 2]))
 .ret)), lcF []⟩
def ks_ck9 : List (List (Option Nat)) := [[none]]
def gf_ck9 (a0 : Int) : Option Bool := if (decide (a0 ≥ (-1000))) = true then (some ((decide (a0 ≤ 1000)))) else (some (false))
def c_ck9 : Con := ⟨Int, Bool, 12, fun a => [.v (.int .i64 a)], fun a => gf_ck9 a, fun a r => ⟨[(false, [.v (.bool r)])], []⟩, fun a => []⟩
/-! spec.l1Pts -/
def if_cl9 : IFn := ⟨45, [.inl 2],
 (Rs [Kb false 2]
 (.seq (Rs [Ki 0 3]
 (blkC 0 (.loop (.seq (Rs (sq 4 [Mv 3, Mv 0, Ln 5, Bb .lss 4 6] [])
 (Ct 7 .skip
 (.exit 0)))
 (.seq (.block 1 (.seq (.drw (sq 10 [Mv 0, Mv 3, Ia 2 10 11, Fa 0 12, Ld 1 13, Ca 12 [14], Nt 15, Mv 16] (Sf 17 18 [Mv 0, Mv 3, Ia 2 18 19, Fa 1 20, Ld 1 21, Ca 12 [22], Nt 23] (sq 25 [Pk 17 24, Mv 25] (Sf 26 27 [Mv 3, Bk .gtr 27 0, Mv 28] (Sg 29 30 [Mv 0, Mv 3, Ia 2 30 31, La 2 32, Mv 0, Mv 3, Bk .sub 35 1, Ia 2 34 36, La 2 37, Io (.eqs false true [0, 0] (.t 33) (.t 38))] [Gf 26 (Pf 29 39 40), Pk 26 40 41]))))) [(23, 28)])
 (Ct 41 (Rs [Kb false 2]
 .ret)
 .skip)))
 (.reg (sq 8 [Mv 3, Bk .add 8 1] [Mv 9 3])))))))
 (Rs (sq 42 [Mv 0, Ln 42, Bk .leq 43 6] [Mv 44 2])
 .ret))), lcF []⟩
def ks_cl9 : List (List (Option Nat)) := [[none]]
def gl_cl9_1 (a0 : (List Pt)) : List Pt → Nat → Option (Bool ⊕ Unit)
 | [], k26 => some (.inr ())
 | x27 :: l28, k26 => (gf_ck9 x27.x).bind fun x35 => if (!x35) = true then (some (.inl (false))) else ((gf_ck9 x27.y).bind fun x37 => if (!x37) = true then (some (.inl (false))) else (if (decide ((k26 : Int) > 0)) = true then ((idx a0 (IntKind.i64.wrap ((k26 : Int) - 1))).bind fun x39 => if ((x27.x == x39.x) && ((x27.y == x39.y) && true)) = true then (some (.inl (false))) else (gl_cl9_1 a0 l28 (k26 + 1) )) else (gl_cl9_1 a0 l28 (k26 + 1) )))
def gf_cl9 (a0 : (List Pt)) : Option Bool := if fits a0.length = true then ((gl_cl9_1 a0 a0 0 ).bind fun q => match q with | .inl r => some r | .inr q24 => some ((decide ((a0.length : Int) ≤ 6)))) else none
def c_cl9 : Con := ⟨(List Pt), Bool, 13, fun a => [.ro (List.map ePt a)], fun a => gf_cl9 a, fun a r => ⟨[(false, [.v (.bool r)])], []⟩, fun a => []⟩
/-! spec.WordOk -/
def if_ci9 : IFn := ⟨28, [.inl 2],
 (Rs [Kb false 2]
 (.seq (Rs [Ki 0 3]
 (blkC 0 (.loop (.seq (Rs (sq 4 [Mv 3, Mv 0, Ls 5, Bb .lss 4 6] [])
 (Ct 7 .skip
 (.exit 0)))
 (.seq (.block 1 (Rs (sq 10 [Mv 0, Mv 3, Si 10 11, Io (.bin .lss (.t 12) (.c (.int .u8 97))), Mv 13] (Sf 14 15 [Mv 0, Mv 3, Si 15 16, Io (.bin .gtr (.t 17) (.c (.int .u8 122)))] [Pk 14 18 19]))
 (Ct 19 (Rs [Kb false 2]
 .ret)
 .skip)))
 (.reg (sq 8 [Mv 3, Bk .add 8 1] [Mv 9 3])))))))
 (Rs (sq 20 [Mv 0, Ls 20, Bk .geq 21 1, Mv 22] (Sg 23 24 [Mv 0, Ls 24, Bk .leq 25 6] [Pf 23 26 27, Mv 27 2]))
 .ret))), lcF []⟩
def ks_ci9 : List (List (Option Nat)) := [[none]]
def gl_ci9_1 : List UInt8 → Nat → Option (Bool ⊕ Unit)
 | [], k10 => some (.inr ())
 | x11 :: l12, k10 => if (decide ((x11.toNat : Int) < 97)) = true then (some (.inl (false))) else (if (decide ((x11.toNat : Int) > 122)) = true then (some (.inl (false))) else (gl_ci9_1 l12 (k10 + 1) ))
def gf_ci9 (a0 : Str) : Option Bool := if fits a0.size = true then ((gl_ci9_1 a0.data.toList 0 ).bind fun q => match q with | .inl r => some r | .inr q8 => if (decide ((a0.size : Int) ≥ 1)) = true then (some ((decide ((a0.size : Int) ≤ 6)))) else (some (false))) else none
def c_ci9 : Con := ⟨Str, Bool, 14, fun a => [.v (.string a)], fun a => gf_ci9 a, fun a r => ⟨[(false, [.v (.bool r)])], []⟩, fun a => []⟩
/-! spec.ShapeOk -/
def if_cf9 : IFn := ⟨38, [.inl 2],
 (Rs (sq 1 [Io (.box 226 [none, some 66] (.t 0)), Kb false] [])
 (Rs (sq 4 [Fa 1 1, Ld 1 4, Ln 5] [Mv 6 3])
 (.seq (Rs (sq 7 [Fa 1 1, Ld 1 7, Ca 13 [8], Nt 9] [])
 (Ct 10 (Rs [Kb false 2]
 .ret)
 .skip))
 (.seq (Rs (sq 11 [Fa 0 1, Ld 1 11] [])
 (.block 0 (Rs [Bk .eql 12 1 14, Mv 14 13]
 (Ct 13 (Rs (sq 15 [Mv 3, Bk .eql 15 1] [Mv 16 2])
 .ret)
 (Rs [Bk .eql 12 2 18, Mv 18 17]
 (Ct 17 (Rs (sq 19 [Mv 3, Bk .geq 19 2] [Mv 20 2])
 .ret)
 (Rs [Bk .eql 12 3 22, Mv 22 21]
 (Ct 21 (.seq (.drw (sq 23 [Mv 3, Bk .geq 23 3, Mv 24] (Sg 25 26 [Fa 1 1, Ld 1 26, Ik 2 27 0, La 2 28, Fa 1 1, Ld 1 30, Mv 3, Bk .sub 32 1, Ia 2 31 33, La 2 34, Io (.eqs true true [0, 0] (.t 29) (.t 35))] [Pf 25 36 37, Mv 37 2])) [(4, 8), (6, 8), (4, 12), (6, 12)])
 .ret)
 .skip))))))))
 (Rs [Kb false 2]
 .ret))))), lcF []⟩
def ks_cf9 : List (List (Option Nat)) := [[none]]
def gf_cf9 (a0 : Shape) : Option Bool := (gf_cl9 a0.pts).bind fun x2 => if (!x2) = true then (some (false)) else (if (a0.kind == 1) = true then (some (((a0.pts.length : Int) == 1))) else (if (a0.kind == 2) = true then (some ((decide ((a0.pts.length : Int) ≥ 2)))) else (if (a0.kind == 3) = true then (if (decide ((a0.pts.length : Int) ≥ 3)) = true then ((idx a0.pts 0).bind fun x4 => (idx a0.pts (IntKind.i64.wrap ((a0.pts.length : Int) - 1))).bind fun x6 => some ((!((x4.x == x6.x) && ((x4.y == x6.y) && true))))) else (some (false))) else (some (false)))))
def c_cf9 : Con := ⟨Shape, Bool, 15, fun a => [.agg [.v (.int .i64 a.kind), .ro (List.map ePt a.pts)]], fun a => gf_cf9 a, fun a r => ⟨[(false, [.v (.bool r)])], []⟩, fun a => []⟩
/-! spec.l2Tags -/
def if_cp9 : IFn := ⟨47, [.inl 2],
 (Rs [Kb false 2]
 (.seq (Rs [Ki 0 3]
 (blkC 0 (.loop (.seq (Rs (sq 4 [Mv 3, Mv 0, Ln 5, Bb .lss 4 6] [])
 (Ct 7 .skip
 (.exit 0)))
 (.seq (.block 1 (.seq (.drw (sq 10 [Mv 0, Mv 3, Ia 2 10 11, Fa 0 12, Ld 1 13, Ca 14 [14], Nt 15, Mv 16] (Sf 17 18 [Mv 0, Mv 3, Ia 2 18 19, Fa 1 20, Ld 1 21, Ca 14 [22], Nt 23] (sq 25 [Pk 17 24, Mv 25] (Sf 26 27 [Mv 3, Bk .gtr 27 0, Mv 28] (Sg 29 30 [Mv 0, Mv 3, Ia 2 30 31, Fa 0 32, Ld 1 33, Mv 0, Mv 3, Bk .sub 36 1, Ia 2 35 37, Fa 0 38, Ld 1 39, Bb .leq 34 40] [Gf 26 (Pf 29 41 42), Pk 26 42 43]))))) [(24, 30)])
 (Ct 43 (Rs [Kb false 2]
 .ret)
 .skip)))
 (.reg (sq 8 [Mv 3, Bk .add 8 1] [Mv 9 3])))))))
 (Rs (sq 44 [Mv 0, Ln 44, Bk .leq 45 4] [Mv 46 2])
 .ret))), lcF []⟩
def ks_cp9 : List (List (Option Nat)) := [[none]]
def gl_cp9_1 (a0 : (List Tag)) : List Tag → Nat → Option (Bool ⊕ Unit)
 | [], k26 => some (.inr ())
 | x27 :: l28, k26 => (gf_ci9 x27.key).bind fun x35 => if (!x35) = true then (some (.inl (false))) else ((gf_ci9 x27.val).bind fun x37 => if (!x37) = true then (some (.inl (false))) else (if (decide ((k26 : Int) > 0)) = true then ((idx a0 (IntKind.i64.wrap ((k26 : Int) - 1))).bind fun x39 => if (slt x27.key x39.key || seq x27.key x39.key) = true then (some (.inl (false))) else (gl_cp9_1 a0 l28 (k26 + 1) )) else (gl_cp9_1 a0 l28 (k26 + 1) )))
def gf_cp9 (a0 : (List Tag)) : Option Bool := if fits a0.length = true then ((gl_cp9_1 a0 a0 0 ).bind fun q => match q with | .inl r => some r | .inr q24 => some ((decide ((a0.length : Int) ≤ 4)))) else none
def c_cp9 : Con := ⟨(List Tag), Bool, 16, fun a => [.ro (List.map eTag a)], fun a => gf_cp9 a, fun a r => ⟨[(false, [.v (.bool r)])], []⟩, fun a => []⟩
/-! spec.FeatOk -/
def if_cb9 : IFn := ⟨16, [.inl 2],
 (Rs (sq 1 [Io (.box 100 [none, none, some 66, some 82] (.t 0)), Kb false] [])
 (Rs (sq 3 [Fa 0 1, Ld 1 3, Ca 14 [4], Mv 5] (Sg 6 7 [Fa 1 1, La 2 7, Ca 15 [8]] (sq 10 [Pf 6 9, Mv 10] (Sg 11 12 [Fa 3 1, Ld 1 12, Ca 16 [13]] [Pf 11 14 15, Mv 15 2]))))
 .ret)), lcF []⟩
def ks_cb9 : List (List (Option Nat)) := [[none]]
def gf_cb9 (a0 : Feat) : Option Bool := (gf_ci9 a0.id).bind fun x2 => if x2 = true then ((gf_cf9 a0.shape).bind fun x4 => if x4 = true then ((gf_cp9 a0.tags).bind fun x6 => some (x6)) else (some (false))) else (some (false))
def c_cb9 : Con := ⟨Feat, Bool, 17, fun a => [.agg [.v (.string a.id), .v (.int .i64 a.shape.kind), .ro (List.map ePt a.shape.pts), .ro (List.map eTag a.tags)]], fun a => gf_cb9 a, fun a r => ⟨[(false, [.v (.bool r)])], []⟩, fun a => []⟩
/-! spec.l1Same -/
def if_cm9 : IFn := ⟨26, [.inl 4],
 (Rs [Kb false 4]
 (.seq (Rs (sq 6 [Mv 0, Ln 6, Mv 1, Ln 8, Bb .neq 7 9] [])
 (Ct 10 (Rs [Kb false 4]
 .ret)
 .skip))
 (.seq (Rs [Ki 0 5]
 (blkC 0 (.loop (.seq (Rs (sq 11 [Mv 5, Mv 0, Ln 12, Bb .lss 11 13] [])
 (Ct 14 .skip
 (.exit 0)))
 (.seq (.block 1 (.seq (.drw (sq 17 [Mv 0, Mv 5, Ia 2 17 18, La 2 19, Mv 1, Mv 5, Ia 2 21 22, La 2 23, Io (.eqs true true [0, 0] (.t 20) (.t 24))] []) [(3, 7)])
 (Ct 25 (Rs [Kb false 4]
 .ret)
 .skip)))
 (.reg (sq 15 [Mv 5, Bk .add 15 1] [Mv 16 5])))))))
 (Rs [Kb true 4]
 .ret)))), lcF []⟩
def ks_cm9 : List (List (Option Nat)) := [[none]]
def gl_cm9_1 (a1 : (List Pt)) : List Pt → Nat → Option (Bool ⊕ Unit)
 | [], k16 => some (.inr ())
 | x17 :: l18, k16 => (idx a1 (k16 : Int)).bind fun x25 => if (!((x17.x == x25.x) && ((x17.y == x25.y) && true))) = true then (some (.inl (false))) else (gl_cm9_1 a1 l18 (k16 + 1) )
def gf_cm9 (a0 : (List Pt)) (a1 : (List Pt)) : Option Bool := if ((a0.length : Int) != (a1.length : Int)) = true then (some (false)) else (if fits a0.length = true then ((gl_cm9_1 a1 a0 0 ).bind fun q => match q with | .inl r => some r | .inr q14 => some (true)) else none)
def c_cm9 : Con := ⟨(List Pt) × (List Pt), Bool, 18, fun a => [.ro (List.map ePt a.1), .ro (List.map ePt a.2)], fun a => gf_cm9 a.1 a.2, fun a r => ⟨[(false, [.v (.bool r)])], []⟩, fun a => []⟩
/-! spec.ShapeSame -/
def if_cg9 : IFn := ⟨17, [.inl 4],
 (Rs (sq 2 [Io (.box 226 [none, some 66] (.t 0)), Io (.box 226 [none, some 66] (.t 1)), Kb false] [])
 (Rs (sq 5 [Fa 0 2, Ld 1 5, Fa 0 3, Ld 1 7, Bb .eql 6 8, Mv 9] (Sg 10 11 [Fa 1 2, Ld 1 11, Fa 1 3, Ld 1 13, Ca 18 [12, 14]] [Pf 10 15 16, Mv 16 4]))
 .ret)), lcF []⟩
def ks_cg9 : List (List (Option Nat)) := [[none]]
def gf_cg9 (a0 : Shape) (a1 : Shape) : Option Bool := if (a0.kind == a1.kind) = true then ((gf_cm9 a0.pts a1.pts).bind fun x3 => some (x3)) else (some (false))
def c_cg9 : Con := ⟨Shape × Shape, Bool, 19, fun a => [.agg [.v (.int .i64 a.1.kind), .ro (List.map ePt a.1.pts)], .agg [.v (.int .i64 a.2.kind), .ro (List.map ePt a.2.pts)]], fun a => gf_cg9 a.1 a.2, fun a r => ⟨[(false, [.v (.bool r)])], []⟩, fun a => []⟩
/-! spec.l2Same -/
def if_co9 : IFn := ⟨26, [.inl 4],
 (Rs [Kb false 4]
 (.seq (Rs (sq 6 [Mv 0, Ln 6, Mv 1, Ln 8, Bb .neq 7 9] [])
 (Ct 10 (Rs [Kb false 4]
 .ret)
 .skip))
 (.seq (Rs [Ki 0 5]
 (blkC 0 (.loop (.seq (Rs (sq 11 [Mv 5, Mv 0, Ln 12, Bb .lss 11 13] [])
 (Ct 14 .skip
 (.exit 0)))
 (.seq (.block 1 (.seq (.drw (sq 17 [Mv 0, Mv 5, Ia 2 17 18, La 2 19, Mv 1, Mv 5, Ia 2 21 22, La 2 23, Io (.eqs true true [2, 2] (.t 20) (.t 24))] []) [(3, 7)])
 (Ct 25 (Rs [Kb false 4]
 .ret)
 .skip)))
 (.reg (sq 15 [Mv 5, Bk .add 15 1] [Mv 16 5])))))))
 (Rs [Kb true 4]
 .ret)))), lcF []⟩
def ks_co9 : List (List (Option Nat)) := [[none]]
def gl_co9_1 (a1 : (List Tag)) : List Tag → Nat → Option (Bool ⊕ Unit)
 | [], k16 => some (.inr ())
 | x17 :: l18, k16 => (idx a1 (k16 : Int)).bind fun x25 => if (!((x17.key == x25.key) && ((x17.val == x25.val) && true))) = true then (some (.inl (false))) else (gl_co9_1 a1 l18 (k16 + 1) )
def gf_co9 (a0 : (List Tag)) (a1 : (List Tag)) : Option Bool := if ((a0.length : Int) != (a1.length : Int)) = true then (some (false)) else (if fits a0.length = true then ((gl_co9_1 a1 a0 0 ).bind fun q => match q with | .inl r => some r | .inr q14 => some (true)) else none)
def c_co9 : Con := ⟨(List Tag) × (List Tag), Bool, 20, fun a => [.ro (List.map eTag a.1), .ro (List.map eTag a.2)], fun a => gf_co9 a.1 a.2, fun a r => ⟨[(false, [.v (.bool r)])], []⟩, fun a => []⟩
/-! spec.FeatSame -/
def if_cc9 : IFn := ⟨24, [.inl 4],
 (Rs (sq 2 [Io (.box 100 [none, none, some 66, some 82] (.t 0)), Io (.box 100 [none, none, some 66, some 82] (.t 1)), Kb false] [])
 (Rs (sq 5 [Fa 0 2, Ld 1 5, Fa 0 3, Ld 1 7, Bb .eql 6 8, Mv 9] (Sg 10 11 [Fa 1 2, La 2 11, Fa 1 3, La 2 13, Ca 19 [12, 14]] (sq 16 [Pf 10 15, Mv 16] (Sg 17 18 [Fa 3 2, Ld 1 18, Fa 3 3, Ld 1 20, Ca 20 [19, 21]] [Pf 17 22 23, Mv 23 4]))))
 .ret)), lcF []⟩
def ks_cc9 : List (List (Option Nat)) := [[none]]
def gf_cc9 (a0 : Feat) (a1 : Feat) : Option Bool := if (seq a0.id a1.id) = true then ((gf_cg9 a0.shape a1.shape).bind fun x3 => if x3 = true then ((gf_co9 a0.tags a1.tags).bind fun x5 => some (x5)) else (some (false))) else (some (false))
def c_cc9 : Con := ⟨Feat × Feat, Bool, 21, fun a => [.agg [.v (.string a.1.id), .v (.int .i64 a.1.shape.kind), .ro (List.map ePt a.1.shape.pts), .ro (List.map eTag a.1.tags)], .agg [.v (.string a.2.id), .v (.int .i64 a.2.shape.kind), .ro (List.map ePt a.2.shape.pts), .ro (List.map eTag a.2.tags)]], fun a => gf_cc9 a.1 a.2, fun a r => ⟨[(false, [.v (.bool r)])], []⟩, fun a => []⟩
/-! laws.toPt -/
def if_bs9 : IFn := ⟨11, [.inr (2, 2)],
 (Rs (sq 1 [Io (.box 338 [none, none] (.t 0)), Io (.alloc 66 [.v (.int .i64 0), .v (.int .i64 0)])] [])
 (Rs [Io (.alloc 66 [.v (.int .i64 0), .v (.int .i64 0)]) 3]
 (Rs (sq 4 [Fa 0 1, Ld 1 4, Fa 0 3] [Sv [none] 6 5])
 (Rs (sq 7 [Fa 1 1, Ld 1 7, Fa 1 3] [Sv [none] 9 8])
 (Rs [La 2 3 10, Sv [none, none] 2 10]
 .ret))))), lcF []⟩
def ks_bs9 : List (List (Option Nat)) := [[none, none]]
def gf_bs9 (a0 : Pt) : Option Pt := some (a0)
def c_bs9 : Con := ⟨Pt, Pt, 64, fun a => [.agg [.v (.int .i64 a.x), .v (.int .i64 a.y)]], fun a => gf_bs9 a, fun a r => ⟨[(true, ePt r)], []⟩, fun a => []⟩
/-! laws.toPtS -/
def if_bt9 : IFn := ⟨23, [.inl 2],
 (Rs [Io (.mv (.c (.slice none 0 0))) 2]
 (Rs (sq 5 [Mv 0, Ln 5, Io (.mks 66 [.v (.int .i64 0), .v (.int .i64 0)] (.t 6) (.t 6))] [Mv 7 3])
 (.seq (Rs [Ki 0 4]
 (blkC 0 (.loop (.seq (Rs (sq 8 [Mv 4, Mv 0, Ln 9, Bb .lss 8 10] [])
 (Ct 11 .skip
 (.exit 0)))
 (.seq (.block 1 (.reg (sq 14 [Mv 3, Mv 4, Mv 0, Mv 4, Ia 2 16 17, La 2 18, Ca 64 [19], Ia 2 14 15] [Sv [none, none] 21 20])))
 (.reg (sq 12 [Mv 4, Bk .add 12 1] [Mv 13 4])))))))
 (Rs [Mv 3 22, Mv 22 2]
 .ret)))), lcF []⟩
def ks_bt9 : List (List (Option Nat)) := [[some 66]]
def gl_bt9_1 : List Pt → Nat → (List Pt) → Option (List Pt)
 | [], k31, v28 => some v28
 | x32 :: l33, k31, v28 => (gf_bs9 x32).bind fun x40 => (idx v28 (k31 : Int)).bind fun x42 => gl_bt9_1 l33 (k31 + 1) (List.set v28 (k31 : Int).toNat x40)
def gf_bt9 (a0 : (List Pt)) : Option (List Pt) := if (decide (0 ≤ (a0.length : Int)) && fits ((a0.length : Int)).toNat) = true then if fits a0.length = true then ((gl_bt9_1 a0 0 (List.replicate ((a0.length : Int)).toNat (⟨0, 0⟩ : Pt))).bind fun q26 => some (q26)) else none else none
def c_bt9 : Con := ⟨(List Pt), (List Pt), 65, fun a => [.ro (List.map ePt a)], fun a => gf_bt9 a, fun a r => ⟨[(false, [sl true 66 (List.map ePt r)])], []⟩, fun a => []⟩
/-! laws.toTag -/
def if_bv9 : IFn := ⟨11, [.inr (2, 2)],
 (Rs (sq 1 [Io (.box 354 [none, none] (.t 0)), Io (.alloc 82 [.v (.string ⟨#[]⟩), .v (.string ⟨#[]⟩)])] [])
 (Rs [Io (.alloc 82 [.v (.string ⟨#[]⟩), .v (.string ⟨#[]⟩)]) 3]
 (Rs (sq 4 [Fa 0 1, Ld 1 4, Fa 0 3] [Sv [none] 6 5])
 (Rs (sq 7 [Fa 1 1, Ld 1 7, Fa 1 3] [Sv [none] 9 8])
 (Rs [La 2 3 10, Sv [none, none] 2 10]
 .ret))))), lcF []⟩
def ks_bv9 : List (List (Option Nat)) := [[none, none]]
def gf_bv9 (a0 : Tag) : Option Tag := some (a0)
def c_bv9 : Con := ⟨Tag, Tag, 66, fun a => [.agg [.v (.string a.key), .v (.string a.val)]], fun a => gf_bv9 a, fun a r => ⟨[(true, eTag r)], []⟩, fun a => []⟩
/-! laws.toShape -/
def if_bu9 : IFn := ⟨12, [.inr (2, 2)],
 (Rs (sq 1 [Io (.box 482 [none, some 338] (.t 0)), Io (.alloc 226 [.v (.int .i64 0), .sl true 66 []])] [])
 (Rs [Io (.alloc 226 [.v (.int .i64 0), .sl true 66 []]) 3]
 (Rs (sq 4 [Fa 0 1, Ld 1 4, Fa 0 3] [Sv [none] 6 5])
 (Rs (sq 7 [Fa 1 1, Ld 1 7, Ca 65 [8], Fa 1 3] [Sv [some 66] 10 9])
 (Rs [La 2 3 11, Sv [none, some 66] 2 11]
 .ret))))), lcF []⟩
def ks_bu9 : List (List (Option Nat)) := [[none, some 66]]
def gf_bu9 (a0 : Shape) : Option Shape := (gf_bt9 a0.pts).bind fun x4 => some ((⟨a0.kind, x4⟩ : Shape))
def c_bu9 : Con := ⟨Shape, Shape, 67, fun a => [.agg [.v (.int .i64 a.kind), .ro (List.map ePt a.pts)]], fun a => gf_bu9 a, fun a r => ⟨[(true, eShape true r)], []⟩, fun a => []⟩
/-! laws.toTagS -/
def if_bw9 : IFn := ⟨23, [.inl 2],
 (Rs [Io (.mv (.c (.slice none 0 0))) 2]
 (Rs (sq 5 [Mv 0, Ln 5, Io (.mks 82 [.v (.string ⟨#[]⟩), .v (.string ⟨#[]⟩)] (.t 6) (.t 6))] [Mv 7 3])
 (.seq (Rs [Ki 0 4]
 (blkC 0 (.loop (.seq (Rs (sq 8 [Mv 4, Mv 0, Ln 9, Bb .lss 8 10] [])
 (Ct 11 .skip
 (.exit 0)))
 (.seq (.block 1 (.reg (sq 14 [Mv 3, Mv 4, Mv 0, Mv 4, Ia 2 16 17, La 2 18, Ca 66 [19], Ia 2 14 15] [Sv [none, none] 21 20])))
 (.reg (sq 12 [Mv 4, Bk .add 12 1] [Mv 13 4])))))))
 (Rs [Mv 3 22, Mv 22 2]
 .ret)))), lcF []⟩
def ks_bw9 : List (List (Option Nat)) := [[some 82]]
def gl_bw9_1 : List Tag → Nat → (List Tag) → Option (List Tag)
 | [], k31, v28 => some v28
 | x32 :: l33, k31, v28 => (gf_bv9 x32).bind fun x40 => (idx v28 (k31 : Int)).bind fun x42 => gl_bw9_1 l33 (k31 + 1) (List.set v28 (k31 : Int).toNat x40)
def gf_bw9 (a0 : (List Tag)) : Option (List Tag) := if (decide (0 ≤ (a0.length : Int)) && fits ((a0.length : Int)).toNat) = true then if fits a0.length = true then ((gl_bw9_1 a0 0 (List.replicate ((a0.length : Int)).toNat (⟨(⟨#[]⟩ : Str), (⟨#[]⟩ : Str)⟩ : Tag))).bind fun q26 => some (q26)) else none else none
def c_bw9 : Con := ⟨(List Tag), (List Tag), 68, fun a => [.ro (List.map eTag a)], fun a => gf_bw9 a, fun a r => ⟨[(false, [sl true 82 (List.map eTag r)])], []⟩, fun a => []⟩
/-! laws.toFeat -/
def if_bq9 : IFn := ⟨16, [.inr (2, 4)],
 (Rs (sq 1 [Io (.box 372 [none, none, some 338, some 354] (.t 0)), Io (.alloc 100 [.v (.string ⟨#[]⟩), .v (.int .i64 0), .sl true 66 [], .sl true 82 []])] [])
 (Rs [Io (.alloc 100 [.v (.string ⟨#[]⟩), .v (.int .i64 0), .sl true 66 [], .sl true 82 []]) 3]
 (Rs (sq 4 [Fa 0 1, Ld 1 4, Fa 0 3] [Sv [none] 6 5])
 (seqC (.reg (sq 7 [Fa 1 1, La 2 7, Ca 67 [8], Fa 1 3] [Sv [none, some 66] 10 9]))
 (Rs (sq 11 [Fa 3 1, Ld 1 11, Ca 68 [12], Fa 3 3] [Sv [some 82] 14 13])
 (Rs [La 4 3 15, Sv [none, none, some 66, some 82] 2 15]
 .ret)))))), lcF []⟩
def ks_bq9 : List (List (Option Nat)) := [[none, none, some 66, some 82]]
def gf_bq9 (a0 : Feat) : Option Feat := (((gf_bu9 a0.shape).bind fun x5 => some (x5.pts, x5.kind) : Option ((List Pt) × Int))).bind fun q4 => (gf_bw9 a0.tags).bind fun x14 => some ((⟨a0.id, ⟨q4.2, q4.1⟩, x14⟩ : Feat))
def c_bq9 : Con := ⟨Feat, Feat, 69, fun a => [.agg [.v (.string a.id), .v (.int .i64 a.shape.kind), .ro (List.map ePt a.shape.pts), .ro (List.map eTag a.tags)]], fun a => gf_bq9 a, fun a r => ⟨[(true, eFeat true r)], []⟩, fun a => []⟩
/-! laws.toIntS -/
def if_br9 : IFn := ⟨22, [.inl 2],
 (Rs [Io (.mv (.c (.slice none 0 0))) 2]
 (Rs (sq 5 [Mv 0, Ln 5, Io (.mks 17 [.v (.int .i64 0)] (.t 6) (.t 6))] [Mv 7 3])
 (.seq (Rs [Ki 0 4]
 (blkC 0 (.loop (.seq (Rs (sq 8 [Mv 4, Mv 0, Ln 9, Bb .lss 8 10] [])
 (Ct 11 .skip
 (.exit 0)))
 (.seq (.block 1 (.reg (sq 14 [Mv 3, Mv 4, Mv 0, Mv 4, Ia 1 16 17, Ld 1 18, Ia 1 14 15] [Sv [none] 20 19])))
 (.reg (sq 12 [Mv 4, Bk .add 12 1] [Mv 13 4])))))))
 (Rs [Mv 3 21, Mv 21 2]
 .ret)))), lcF []⟩
def ks_br9 : List (List (Option Nat)) := [[some 17]]
def gl_br9_1 : List Int → Nat → (List Int) → Option (List Int)
 | [], k25, v22 => some v22
 | x26 :: l27, k25, v22 => (idx v22 (k25 : Int)).bind fun x34 => gl_br9_1 l27 (k25 + 1) (List.set v22 (k25 : Int).toNat x26)
def gf_br9 (a0 : (List Int)) : Option (List Int) := if (decide (0 ≤ (a0.length : Int)) && fits ((a0.length : Int)).toNat) = true then if fits a0.length = true then ((gl_br9_1 a0 0 (List.replicate ((a0.length : Int)).toNat 0)).bind fun q20 => some (q20)) else none else none
def c_br9 : Con := ⟨(List Int), (List Int), 70, fun a => [.ro (List.map eInt a)], fun a => gf_br9 a, fun a r => ⟨[(false, [sl true 17 (List.map eInt r)])], []⟩, fun a => []⟩
/-! impl.within -/
def if_ap9 : IFn := ⟨15, [.inl 6],
 (Rs [Kb false 6]
 (Rs (sq 7 [Mv 0, Mv 1, Bb .geq 7 8, Mv 9] (Sg 10 11 [Mv 0, Mv 2, Bb .leq 11 12] [Pf 10 13 14, Mv 14 6]))
 .ret)), lcF []⟩
def ks_ap9 : List (List (Option Nat)) := [[none]]
def gf_ap9 (a0 : Int) (a1 : Int) (a2 : Int) : Option Bool := if (decide (a0 ≥ a1)) = true then (some ((decide (a0 ≤ a2)))) else (some (false))
def c_ap9 : Con := ⟨Int × Int × Int, Bool, 76, fun a => [.v (.int .i64 a.1), .v (.int .i64 a.2.1), .v (.int .i64 a.2.2)], fun a => gf_ap9 a.1 a.2.1 a.2.2, fun a r => ⟨[(false, [.v (.bool r)])], []⟩, fun a => []⟩
/-! impl.ptOk -/
def if_an9 : IFn := ⟨11, [.inl 2],
 (Rs (sq 1 [Io (.box 66 [none, none] (.t 0)), Kb false] [])
 (Rs (sq 3 [Fa 0 1, Ld 1 3, Io (.call 76 [(false, .t 4), (false, .c (.int .i64 (-1000))), (false, .c (.int .i64 1000))]), Mv 5] (Sg 6 7 [Fa 1 1, Ld 1 7, Io (.call 76 [(false, .t 8), (false, .c (.int .i64 (-1000))), (false, .c (.int .i64 1000))])] [Pf 6 9 10, Mv 10 2]))
 .ret)), lcF []⟩
def ks_an9 : List (List (Option Nat)) := [[none]]
def gf_an9 (a0 : Pt) : Option Bool := (gf_ap9 a0.x (-1000) 1000).bind fun x2 => if x2 = true then ((gf_ap9 a0.y (-1000) 1000).bind fun x4 => some (x4)) else (some (false))
def c_an9 : Con := ⟨Pt, Bool, 79, fun a => [.agg [.v (.int .i64 a.x), .v (.int .i64 a.y)]], fun a => gf_an9 a, fun a r => ⟨[(false, [.v (.bool r)])], []⟩, fun a => []⟩
/-! impl.WordOk -/
def if_al9 : IFn := ⟨23, [.inl 2],
 (Rs [Kb false 2]
 (.seq (Rs (sq 4 [Mv 0, Ls 4, Ki 0] [])
 (blkC 0 (.loop (Rs [Bb .lss 6 5 7]
 (.seq (Ct 7 .skip
 (.exit 0))
 (.seq (.block 1 (Rs [Mv 6 8, Mv 8 3]
 (Rs (sq 9 [Mv 0, Mv 3, Si 9 10, Io (.bin .lss (.t 11) (.c (.int .u8 97))), Mv 12] (Sf 13 14 [Mv 0, Mv 3, Si 14 15, Io (.bin .gtr (.t 16) (.c (.int .u8 122)))] [Pk 13 17 18]))
 (Ct 18 (Rs [Kb false 2]
 .ret)
 .skip))))
 (.reg [Bk .add 6 1 19, Mv 19 6])))))))
 (Rs (sq 20 [Mv 0, Ls 20, Io (.call 76 [(false, .t 21), (false, .c (.int .i64 1)), (false, .c (.int .i64 6))])] [Mv 22 2])
 .ret))), lcF []⟩
def ks_al9 : List (List (Option Nat)) := [[none]]
def gl_al9_1 : List UInt8 → Nat → Option (Bool ⊕ Unit)
 | [], k10 => some (.inr ())
 | x11 :: l12, k10 => if (decide ((x11.toNat : Int) < 97)) = true then (some (.inl (false))) else (if (decide ((x11.toNat : Int) > 122)) = true then (some (.inl (false))) else (gl_al9_1 l12 (k10 + 1) ))
def gf_al9 (a0 : Str) : Option Bool := if fits a0.size = true then ((gl_al9_1 a0.data.toList 0 ).bind fun q => match q with | .inl r => some r | .inr q8 => (gf_ap9 (a0.size : Int) 1 6).bind fun x19 => some (x19)) else none
def c_al9 : Con := ⟨Str, Bool, 80, fun a => [.v (.string a)], fun a => gf_al9 a, fun a r => ⟨[(false, [.v (.bool r)])], []⟩, fun a => []⟩
/-! impl.ShapeOk -/
def if_ai9 : IFn := ⟨62, [.inl 2],
 (Rs (sq 1 [Io (.box 226 [none, some 66] (.t 0)), Kb false] [])
 (.seq (Rs (sq 6 [Fa 1 1, Ld 1 6, Ln 7, Ki 0] [])
 (blkC 0 (.loop (Rs [Bb .lss 9 8 10]
 (.seq (Ct 10 .skip
 (.exit 0))
 (.seq (.block 1 (Rs (sq 11 [Mv 9, Ia 2 7 9, La 2 12] [Io (.alloc 66 [.v (.int .i64 0), .v (.int .i64 0)]) 4, Mv 11 3, Sv [none, none] 4 13])
 (.seq (.drw (sq 14 [La 2 4, Ca 79 [14], Nt 15, Mv 16] (Sf 17 18 [Mv 3, Bk .gtr 18 0, Mv 19] (Sg 20 21 [Fa 1 1, Ld 1 21, Mv 3, Bk .sub 23 1, Ia 2 22 24, La 2 25, La 2 4, Io (.eqs false true [0, 0] (.t 26) (.t 27))] [Gf 17 (Pf 20 28 29), Pk 17 29 30]))) [(8, 13), (12, 13)])
 (Ct 30 (Rs [Kb false 2]
 .ret)
 .skip))))
 (.reg [Bk .add 9 1 31, Mv 31 9])))))))
 (Rs (sq 32 [Fa 1 1, Ld 1 32, Ln 33] [Mv 34 5])
 (.seq (Rs (sq 35 [Fa 0 1, Ld 1 35] [])
 (.block 2 (Rs [Bk .eql 36 1 38, Mv 38 37]
 (Ct 37 (Rs (sq 39 [Mv 5, Bk .eql 39 1] [Mv 40 2])
 .ret)
 (Rs [Bk .eql 36 2 42, Mv 42 41]
 (Ct 41 (Rs (sq 43 [Mv 5, Io (.call 76 [(false, .t 43), (false, .c (.int .i64 2)), (false, .c (.int .i64 6))])] [Mv 44 2])
 .ret)
 (Rs [Bk .eql 36 3 46, Mv 46 45]
 (Ct 45 (.seq (.drw (sq 47 [Mv 5, Io (.call 76 [(false, .t 47), (false, .c (.int .i64 3)), (false, .c (.int .i64 6))]), Mv 48] (Sg 49 50 [Fa 1 1, Ld 1 50, Ik 2 51 0, La 2 52, Fa 1 1, Ld 1 54, Mv 5, Bk .sub 56 1, Ia 2 55 57, La 2 58, Io (.eqs true true [0, 0] (.t 53) (.t 59))] [Pf 49 60 61, Mv 61 2])) [(4, 8), (6, 8), (4, 12), (6, 12)])
 .ret)
 .skip))))))))
 (Rs [Kb false 2]
 .ret))))), lcF []⟩
def ks_ai9 : List (List (Option Nat)) := [[none]]
def gl_ai9_1 (a0 : Shape) : List Pt → Nat → Option (Bool ⊕ Unit)
 | [], k24 => some (.inr ())
 | x25 :: l26, k24 => (gf_an9 x25).bind fun x34 => if (!x34) = true then (some (.inl (false))) else (if (decide ((k24 : Int) > 0)) = true then ((idx a0.pts (IntKind.i64.wrap ((k24 : Int) - 1))).bind fun x36 => if ((x36.x == x25.x) && ((x36.y == x25.y) && true)) = true then (some (.inl (false))) else (gl_ai9_1 a0 l26 (k24 + 1) )) else (gl_ai9_1 a0 l26 (k24 + 1) ))
def gf_ai9 (a0 : Shape) : Option Bool := if fits a0.pts.length = true then ((gl_ai9_1 a0 a0.pts 0 ).bind fun q => match q with | .inl r => some r | .inr q22 => if (a0.kind == 1) = true then (some (((a0.pts.length : Int) == 1))) else (if (a0.kind == 2) = true then ((gf_ap9 (a0.pts.length : Int) 2 6).bind fun x38 => some (x38)) else (if (a0.kind == 3) = true then ((gf_ap9 (a0.pts.length : Int) 3 6).bind fun x40 => if x40 = true then ((idx a0.pts 0).bind fun x42 => (idx a0.pts (IntKind.i64.wrap ((a0.pts.length : Int) - 1))).bind fun x44 => some ((!((x42.x == x44.x) && ((x42.y == x44.y) && true))))) else (some (false))) else (some (false))))) else none
def c_ai9 : Con := ⟨Shape, Bool, 81, fun a => [.agg [.v (.int .i64 a.kind), .ro (List.map ePt a.pts)]], fun a => gf_ai9 a, fun a r => ⟨[(false, [.v (.bool r)])], []⟩, fun a => []⟩
/-! impl.FeatOk -/
def if_ae9 : IFn := ⟨54, [.inl 2],
 (Rs (sq 1 [Io (.box 100 [none, none, some 66, some 82] (.t 0)), Kb false] [])
 (.seq (Rs (sq 5 [Fa 3 1, Ld 1 5, Ln 6, Ki 0] [])
 (blkC 0 (.loop (Rs [Bb .lss 8 7 9]
 (.seq (Ct 9 .skip
 (.exit 0))
 (.seq (.block 1 (Rs (sq 10 [Mv 8, Ia 2 6 8, La 2 11] [Io (.alloc 82 [.v (.string ⟨#[]⟩), .v (.string ⟨#[]⟩)]) 4, Mv 10 3, Sv [none, none] 4 12])
 (.seq (.drw (sq 13 [Fa 0 4, Ld 1 13, Ca 80 [14], Nt 15, Mv 16] (Sf 17 18 [Fa 1 4, Ld 1 18, Ca 80 [19], Nt 20] (sq 22 [Pk 17 21, Mv 22] (Sf 23 24 [Mv 3, Bk .gtr 24 0, Mv 25] (Sg 26 27 [Fa 3 1, Ld 1 27, Mv 3, Bk .sub 29 1, Ia 2 28 30, Fa 0 31, Ld 1 32, Fa 0 4, Ld 1 34, Bb .geq 33 35] [Gf 23 (Pf 26 36 37), Pk 23 37 38]))))) [(15, 22), (20, 22)])
 (Ct 38 (Rs [Kb false 2]
 .ret)
 .skip))))
 (.reg [Bk .add 8 1 39, Mv 39 8])))))))
 (Rs (sq 40 [Fa 0 1, Ld 1 40, Ca 80 [41], Mv 42] (Sg 43 44 [Fa 1 1, La 2 44, Ca 81 [45]] (sq 47 [Pf 43 46, Mv 47] (Sg 48 49 [Fa 3 1, Ld 1 49, Ln 50, Bk .leq 51 4] [Pf 48 52 53, Mv 53 2]))))
 .ret))), lcF []⟩
def ks_ae9 : List (List (Option Nat)) := [[none]]
def gl_ae9_1 (a0 : Feat) : List Tag → Nat → Option (Bool ⊕ Unit)
 | [], k30 => some (.inr ())
 | x31 :: l32, k30 => (gf_al9 x31.key).bind fun x40 => if (!x40) = true then (some (.inl (false))) else ((gf_al9 x31.val).bind fun x42 => if (!x42) = true then (some (.inl (false))) else (if (decide ((k30 : Int) > 0)) = true then ((idx a0.tags (IntKind.i64.wrap ((k30 : Int) - 1))).bind fun x44 => if (!slt x44.key x31.key) = true then (some (.inl (false))) else (gl_ae9_1 a0 l32 (k30 + 1) )) else (gl_ae9_1 a0 l32 (k30 + 1) )))
def gf_ae9 (a0 : Feat) : Option Bool := if fits a0.tags.length = true then ((gl_ae9_1 a0 a0.tags 0 ).bind fun q => match q with | .inl r => some r | .inr q28 => (gf_al9 a0.id).bind fun x46 => if x46 = true then ((gf_ai9 a0.shape).bind fun x48 => if x48 = true then (some ((decide ((a0.tags.length : Int) ≤ 4)))) else (some (false))) else (some (false))) else none
def c_ae9 : Con := ⟨Feat, Bool, 82, fun a => [.agg [.v (.string a.id), .v (.int .i64 a.shape.kind), .ro (List.map ePt a.shape.pts), .ro (List.map eTag a.tags)]], fun a => gf_ae9 a, fun a r => ⟨[(false, [.v (.bool r)])], []⟩, fun a => []⟩
/-! slices.Equal[[]impl.Pt,impl.Pt] -/
def if_bx9 : IFn := ⟨26, [.inl 4],
 (Rs [Kb false 4]
 (.seq (Rs (sq 6 [Mv 0, Ln 6, Mv 1, Ln 8, Bb .neq 7 9] [])
 (Ct 10 (Rs [Kb false 4]
 .ret)
 .skip))
 (.seq (Rs (sq 11 [Mv 0, Ln 11, Ki 0] [])
 (blkC 0 (.loop (Rs [Bb .lss 13 12 14]
 (.seq (Ct 14 .skip
 (.exit 0))
 (.seq (.block 1 (Rs [Mv 13 15, Mv 15 5]
 (.seq (.drw (sq 16 [Mv 0, Mv 5, Ia 2 16 17, La 2 18, Mv 1, Mv 5, Ia 2 20 21, La 2 22, Io (.eqs true true [0, 0] (.t 19) (.t 23))] []) [(3, 7)])
 (Ct 24 (Rs [Kb false 4]
 .ret)
 .skip))))
 (.reg [Bk .add 13 1 25, Mv 25 13])))))))
 (Rs [Kb true 4]
 .ret)))), lcF []⟩
def ks_bx9 : List (List (Option Nat)) := [[none]]
def gl_bx9_1 (a1 : (List Pt)) : List Pt → Nat → Option (Bool ⊕ Unit)
 | [], k16 => some (.inr ())
 | x17 :: l18, k16 => (idx a1 (k16 : Int)).bind fun x25 => if (!((x17.x == x25.x) && ((x17.y == x25.y) && true))) = true then (some (.inl (false))) else (gl_bx9_1 a1 l18 (k16 + 1) )
def gf_bx9 (a0 : (List Pt)) (a1 : (List Pt)) : Option Bool := if ((a0.length : Int) != (a1.length : Int)) = true then (some (false)) else (if fits a0.length = true then ((gl_bx9_1 a1 a0 0 ).bind fun q => match q with | .inl r => some r | .inr q14 => some (true)) else none)
def c_bx9 : Con := ⟨(List Pt) × (List Pt), Bool, 127, fun a => [.ro (List.map ePt a.1), .ro (List.map ePt a.2)], fun a => gf_bx9 a.1 a.2, fun a r => ⟨[(false, [.v (.bool r)])], []⟩, fun a => []⟩
/-! impl.ShapeSame -/
def if_aj9 : IFn := ⟨17, [.inl 4],
 (Rs (sq 2 [Io (.box 226 [none, some 66] (.t 0)), Io (.box 226 [none, some 66] (.t 1)), Kb false] [])
 (Rs (sq 5 [Fa 0 2, Ld 1 5, Fa 0 3, Ld 1 7, Bb .eql 6 8, Mv 9] (Sg 10 11 [Fa 1 2, Ld 1 11, Fa 1 3, Ld 1 13, Ca 127 [12, 14]] [Pf 10 15 16, Mv 16 4]))
 .ret)), lcF []⟩
def ks_aj9 : List (List (Option Nat)) := [[none]]
def gf_aj9 (a0 : Shape) (a1 : Shape) : Option Bool := if (a0.kind == a1.kind) = true then ((gf_bx9 a0.pts a1.pts).bind fun x3 => some (x3)) else (some (false))
def c_aj9 : Con := ⟨Shape × Shape, Bool, 128, fun a => [.agg [.v (.int .i64 a.1.kind), .ro (List.map ePt a.1.pts)], .agg [.v (.int .i64 a.2.kind), .ro (List.map ePt a.2.pts)]], fun a => gf_aj9 a.1 a.2, fun a r => ⟨[(false, [.v (.bool r)])], []⟩, fun a => []⟩
/-! slices.Equal[[]impl.Tag,impl.Tag] -/
def if_by9 : IFn := ⟨26, [.inl 4],
 (Rs [Kb false 4]
 (.seq (Rs (sq 6 [Mv 0, Ln 6, Mv 1, Ln 8, Bb .neq 7 9] [])
 (Ct 10 (Rs [Kb false 4]
 .ret)
 .skip))
 (.seq (Rs (sq 11 [Mv 0, Ln 11, Ki 0] [])
 (blkC 0 (.loop (Rs [Bb .lss 13 12 14]
 (.seq (Ct 14 .skip
 (.exit 0))
 (.seq (.block 1 (Rs [Mv 13 15, Mv 15 5]
 (.seq (.drw (sq 16 [Mv 0, Mv 5, Ia 2 16 17, La 2 18, Mv 1, Mv 5, Ia 2 20 21, La 2 22, Io (.eqs true true [2, 2] (.t 19) (.t 23))] []) [(3, 7)])
 (Ct 24 (Rs [Kb false 4]
 .ret)
 .skip))))
 (.reg [Bk .add 13 1 25, Mv 25 13])))))))
 (Rs [Kb true 4]
 .ret)))), lcF []⟩
def ks_by9 : List (List (Option Nat)) := [[none]]
def gl_by9_1 (a1 : (List Tag)) : List Tag → Nat → Option (Bool ⊕ Unit)
 | [], k16 => some (.inr ())
 | x17 :: l18, k16 => (idx a1 (k16 : Int)).bind fun x25 => if (!((x17.key == x25.key) && ((x17.val == x25.val) && true))) = true then (some (.inl (false))) else (gl_by9_1 a1 l18 (k16 + 1) )
def gf_by9 (a0 : (List Tag)) (a1 : (List Tag)) : Option Bool := if ((a0.length : Int) != (a1.length : Int)) = true then (some (false)) else (if fits a0.length = true then ((gl_by9_1 a1 a0 0 ).bind fun q => match q with | .inl r => some r | .inr q14 => some (true)) else none)
def c_by9 : Con := ⟨(List Tag) × (List Tag), Bool, 129, fun a => [.ro (List.map eTag a.1), .ro (List.map eTag a.2)], fun a => gf_by9 a.1 a.2, fun a r => ⟨[(false, [.v (.bool r)])], []⟩, fun a => []⟩
/-! impl.FeatSame -/
def if_af9 : IFn := ⟨24, [.inl 4],
 (Rs (sq 2 [Io (.box 100 [none, none, some 66, some 82] (.t 0)), Io (.box 100 [none, none, some 66, some 82] (.t 1)), Kb false] [])
 (Rs (sq 5 [Fa 0 2, Ld 1 5, Fa 0 3, Ld 1 7, Bb .eql 6 8, Mv 9] (Sg 10 11 [Fa 1 2, La 2 11, Fa 1 3, La 2 13, Ca 128 [12, 14]] (sq 16 [Pf 10 15, Mv 16] (Sg 17 18 [Fa 3 2, Ld 1 18, Fa 3 3, Ld 1 20, Ca 129 [19, 21]] [Pf 17 22 23, Mv 23 4]))))
 .ret)), lcF []⟩
def ks_af9 : List (List (Option Nat)) := [[none]]
def gf_af9 (a0 : Feat) (a1 : Feat) : Option Bool := if (seq a0.id a1.id) = true then ((gf_aj9 a0.shape a1.shape).bind fun x3 => if x3 = true then ((gf_by9 a0.tags a1.tags).bind fun x5 => some (x5)) else (some (false))) else (some (false))
def c_af9 : Con := ⟨Feat × Feat, Bool, 130, fun a => [.agg [.v (.string a.1.id), .v (.int .i64 a.1.shape.kind), .ro (List.map ePt a.1.shape.pts), .ro (List.map eTag a.1.tags)], .agg [.v (.string a.2.id), .v (.int .i64 a.2.shape.kind), .ro (List.map ePt a.2.shape.pts), .ro (List.map eTag a.2.tags)]], fun a => gf_af9 a.1 a.2, fun a r => ⟨[(false, [.v (.bool r)])], []⟩, fun a => []⟩
/-! laws.eqPt -/
def if_ax9 : IFn := ⟨15, [.inl 4],
 (Rs (sq 2 [Io (.box 66 [none, none] (.t 0)), Io (.box 66 [none, none] (.t 1)), Kb false] [])
 (.seq (Rs (sq 5 [Fa 0 2, Ld 1 5, Fa 0 3, Ld 1 7, Bb .neq 6 8] [])
 (Ct 9 (Rs [Kb false 4]
 .ret)
 .skip))
 (.seq (Rs (sq 10 [Fa 1 2, Ld 1 10, Fa 1 3, Ld 1 12, Bb .neq 11 13] [])
 (Ct 14 (Rs [Kb false 4]
 .ret)
 .skip))
 (Rs [Kb true 4]
 .ret)))), lcF []⟩
def ks_ax9 : List (List (Option Nat)) := [[none]]
def gf_ax9 (a0 : Pt) (a1 : Pt) : Option Bool := if (a0.x != a1.x) = true then (some (false)) else (if (a0.y != a1.y) = true then (some (false)) else (some (true)))
def c_ax9 : Con := ⟨Pt × Pt, Bool, 153, fun a => [.agg [.v (.int .i64 a.1.x), .v (.int .i64 a.1.y)], .agg [.v (.int .i64 a.2.x), .v (.int .i64 a.2.y)]], fun a => gf_ax9 a.1 a.2, fun a r => ⟨[(false, [.v (.bool r)])], []⟩, fun a => []⟩
/-! laws.eqPtS -/
def if_ay9 : IFn := ⟨27, [.inl 4],
 (Rs [Kb false 4]
 (.seq (Rs (sq 6 [Mv 0, Ln 6, Mv 1, Ln 8, Bb .neq 7 9] [])
 (Ct 10 (Rs [Kb false 4]
 .ret)
 .skip))
 (.seq (Rs [Ki 0 5]
 (blkC 0 (.loop (.seq (Rs (sq 11 [Mv 5, Mv 0, Ln 12, Bb .lss 11 13] [])
 (Ct 14 .skip
 (.exit 0)))
 (.seq (.block 1 (.seq (.drw (sq 17 [Mv 0, Mv 5, Ia 2 17 18, La 2 19, Mv 1, Mv 5, Ia 2 21 22, La 2 23, Ca 153 [20, 24], Nt 25] []) [(3, 7)])
 (Ct 26 (Rs [Kb false 4]
 .ret)
 .skip)))
 (.reg (sq 15 [Mv 5, Bk .add 15 1] [Mv 16 5])))))))
 (Rs [Kb true 4]
 .ret)))), lcF []⟩
def ks_ay9 : List (List (Option Nat)) := [[none]]
def gl_ay9_1 (a1 : (List Pt)) : List Pt → Nat → Option (Bool ⊕ Unit)
 | [], k22 => some (.inr ())
 | x23 :: l24, k22 => (idx a1 (k22 : Int)).bind fun x31 => (gf_ax9 x23 x31).bind fun x33 => if (!x33) = true then (some (.inl (false))) else (gl_ay9_1 a1 l24 (k22 + 1) )
def gf_ay9 (a0 : (List Pt)) (a1 : (List Pt)) : Option Bool := if ((a0.length : Int) != (a1.length : Int)) = true then (some (false)) else (if fits a0.length = true then ((gl_ay9_1 a1 a0 0 ).bind fun q => match q with | .inl r => some r | .inr q20 => some (true)) else none)
def c_ay9 : Con := ⟨(List Pt) × (List Pt), Bool, 154, fun a => [.ro (List.map ePt a.1), .ro (List.map ePt a.2)], fun a => gf_ay9 a.1 a.2, fun a r => ⟨[(false, [.v (.bool r)])], []⟩, fun a => []⟩
/-! laws.eqTag -/
def if_ba9 : IFn := ⟨15, [.inl 4],
 (Rs (sq 2 [Io (.box 82 [none, none] (.t 0)), Io (.box 82 [none, none] (.t 1)), Kb false] [])
 (.seq (Rs (sq 5 [Fa 0 2, Ld 1 5, Fa 0 3, Ld 1 7, Bb .neq 6 8] [])
 (Ct 9 (Rs [Kb false 4]
 .ret)
 .skip))
 (.seq (Rs (sq 10 [Fa 1 2, Ld 1 10, Fa 1 3, Ld 1 12, Bb .neq 11 13] [])
 (Ct 14 (Rs [Kb false 4]
 .ret)
 .skip))
 (Rs [Kb true 4]
 .ret)))), lcF []⟩
def ks_ba9 : List (List (Option Nat)) := [[none]]
def gf_ba9 (a0 : Tag) (a1 : Tag) : Option Bool := if (!seq a0.key a1.key) = true then (some (false)) else (if (!seq a0.val a1.val) = true then (some (false)) else (some (true)))
def c_ba9 : Con := ⟨Tag × Tag, Bool, 155, fun a => [.agg [.v (.string a.1.key), .v (.string a.1.val)], .agg [.v (.string a.2.key), .v (.string a.2.val)]], fun a => gf_ba9 a.1 a.2, fun a r => ⟨[(false, [.v (.bool r)])], []⟩, fun a => []⟩
/-! laws.eqShape -/
def if_az9 : IFn := ⟨16, [.inl 4],
 (Rs (sq 2 [Io (.box 226 [none, some 66] (.t 0)), Io (.box 226 [none, some 66] (.t 1)), Kb false] [])
 (.seq (Rs (sq 5 [Fa 0 2, Ld 1 5, Fa 0 3, Ld 1 7, Bb .neq 6 8] [])
 (Ct 9 (Rs [Kb false 4]
 .ret)
 .skip))
 (.seq (Rs (sq 10 [Fa 1 2, Ld 1 10, Fa 1 3, Ld 1 12, Ca 154 [11, 13], Nt 14] [])
 (Ct 15 (Rs [Kb false 4]
 .ret)
 .skip))
 (Rs [Kb true 4]
 .ret)))), lcF []⟩
def ks_az9 : List (List (Option Nat)) := [[none]]
def gf_az9 (a0 : Shape) (a1 : Shape) : Option Bool := if (a0.kind != a1.kind) = true then (some (false)) else ((gf_ay9 a0.pts a1.pts).bind fun x3 => if (!x3) = true then (some (false)) else (some (true)))
def c_az9 : Con := ⟨Shape × Shape, Bool, 156, fun a => [.agg [.v (.int .i64 a.1.kind), .ro (List.map ePt a.1.pts)], .agg [.v (.int .i64 a.2.kind), .ro (List.map ePt a.2.pts)]], fun a => gf_az9 a.1 a.2, fun a r => ⟨[(false, [.v (.bool r)])], []⟩, fun a => []⟩
/-! laws.eqTagS -/
def if_bb9 : IFn := ⟨27, [.inl 4],
 (Rs [Kb false 4]
 (.seq (Rs (sq 6 [Mv 0, Ln 6, Mv 1, Ln 8, Bb .neq 7 9] [])
 (Ct 10 (Rs [Kb false 4]
 .ret)
 .skip))
 (.seq (Rs [Ki 0 5]
 (blkC 0 (.loop (.seq (Rs (sq 11 [Mv 5, Mv 0, Ln 12, Bb .lss 11 13] [])
 (Ct 14 .skip
 (.exit 0)))
 (.seq (.block 1 (.seq (.drw (sq 17 [Mv 0, Mv 5, Ia 2 17 18, La 2 19, Mv 1, Mv 5, Ia 2 21 22, La 2 23, Ca 155 [20, 24], Nt 25] []) [(3, 7)])
 (Ct 26 (Rs [Kb false 4]
 .ret)
 .skip)))
 (.reg (sq 15 [Mv 5, Bk .add 15 1] [Mv 16 5])))))))
 (Rs [Kb true 4]
 .ret)))), lcF []⟩
def ks_bb9 : List (List (Option Nat)) := [[none]]
def gl_bb9_1 (a1 : (List Tag)) : List Tag → Nat → Option (Bool ⊕ Unit)
 | [], k22 => some (.inr ())
 | x23 :: l24, k22 => (idx a1 (k22 : Int)).bind fun x31 => (gf_ba9 x23 x31).bind fun x33 => if (!x33) = true then (some (.inl (false))) else (gl_bb9_1 a1 l24 (k22 + 1) )
def gf_bb9 (a0 : (List Tag)) (a1 : (List Tag)) : Option Bool := if ((a0.length : Int) != (a1.length : Int)) = true then (some (false)) else (if fits a0.length = true then ((gl_bb9_1 a1 a0 0 ).bind fun q => match q with | .inl r => some r | .inr q20 => some (true)) else none)
def c_bb9 : Con := ⟨(List Tag) × (List Tag), Bool, 157, fun a => [.ro (List.map eTag a.1), .ro (List.map eTag a.2)], fun a => gf_bb9 a.1 a.2, fun a r => ⟨[(false, [.v (.bool r)])], []⟩, fun a => []⟩
/-! laws.eqFeat -/
def if_av9 : IFn := ⟨22, [.inl 4],
 (Rs (sq 2 [Io (.box 100 [none, none, some 66, some 82] (.t 0)), Io (.box 100 [none, none, some 66, some 82] (.t 1)), Kb false] [])
 (.seq (Rs (sq 5 [Fa 0 2, Ld 1 5, Fa 0 3, Ld 1 7, Bb .neq 6 8] [])
 (Ct 9 (Rs [Kb false 4]
 .ret)
 .skip))
 (.seq (Rs (sq 10 [Fa 1 2, La 2 10, Fa 1 3, La 2 12, Ca 156 [11, 13], Nt 14] [])
 (Ct 15 (Rs [Kb false 4]
 .ret)
 .skip))
 (.seq (Rs (sq 16 [Fa 3 2, Ld 1 16, Fa 3 3, Ld 1 18, Ca 157 [17, 19], Nt 20] [])
 (Ct 21 (Rs [Kb false 4]
 .ret)
 .skip))
 (Rs [Kb true 4]
 .ret))))), lcF []⟩
def ks_av9 : List (List (Option Nat)) := [[none]]
def gf_av9 (a0 : Feat) (a1 : Feat) : Option Bool := if (!seq a0.id a1.id) = true then (some (false)) else ((gf_az9 a0.shape a1.shape).bind fun x3 => if (!x3) = true then (some (false)) else ((gf_bb9 a0.tags a1.tags).bind fun x5 => if (!x5) = true then (some (false)) else (some (true))))
def c_av9 : Con := ⟨Feat × Feat, Bool, 158, fun a => [.agg [.v (.string a.1.id), .v (.int .i64 a.1.shape.kind), .ro (List.map ePt a.1.shape.pts), .ro (List.map eTag a.1.tags)], .agg [.v (.string a.2.id), .v (.int .i64 a.2.shape.kind), .ro (List.map ePt a.2.shape.pts), .ro (List.map eTag a.2.tags)]], fun a => gf_av9 a.1 a.2, fun a r => ⟨[(false, [.v (.bool r)])], []⟩, fun a => []⟩
/-! laws.eqIntS -/
def if_aw9 : IFn := ⟨26, [.inl 4],
 (Rs [Kb false 4]
 (.seq (Rs (sq 6 [Mv 0, Ln 6, Mv 1, Ln 8, Bb .neq 7 9] [])
 (Ct 10 (Rs [Kb false 4]
 .ret)
 .skip))
 (.seq (Rs [Ki 0 5]
 (blkC 0 (.loop (.seq (Rs (sq 11 [Mv 5, Mv 0, Ln 12, Bb .lss 11 13] [])
 (Ct 14 .skip
 (.exit 0)))
 (.seq (.block 1 (.seq (.drw (sq 17 [Mv 0, Mv 5, Ia 1 17 18, Ld 1 19, Mv 1, Mv 5, Ia 1 21 22, Ld 1 23, Bb .neq 20 24] []) [(3, 7)])
 (Ct 25 (Rs [Kb false 4]
 .ret)
 .skip)))
 (.reg (sq 15 [Mv 5, Bk .add 15 1] [Mv 16 5])))))))
 (Rs [Kb true 4]
 .ret)))), lcF []⟩
def ks_aw9 : List (List (Option Nat)) := [[none]]
def gl_aw9_1 (a1 : (List Int)) : List Int → Nat → Option (Bool ⊕ Unit)
 | [], k16 => some (.inr ())
 | x17 :: l18, k16 => (idx a1 (k16 : Int)).bind fun x25 => if (x17 != x25) = true then (some (.inl (false))) else (gl_aw9_1 a1 l18 (k16 + 1) )
def gf_aw9 (a0 : (List Int)) (a1 : (List Int)) : Option Bool := if ((a0.length : Int) != (a1.length : Int)) = true then (some (false)) else (if fits a0.length = true then ((gl_aw9_1 a1 a0 0 ).bind fun q => match q with | .inl r => some r | .inr q14 => some (true)) else none)
def c_aw9 : Con := ⟨(List Int) × (List Int), Bool, 159, fun a => [.ro (List.map eInt a.1), .ro (List.map eInt a.2)], fun a => gf_aw9 a.1 a.2, fun a r => ⟨[(false, [.v (.bool r)])], []⟩, fun a => []⟩
/-! laws.szChange -/
def if_bc9 : IFn := ⟨25, [.inl 4],
 (Rs [Io (.box 427 [none, none, none, none, some 338, some 354, none, none, none, some 338, some 354] (.t 0)) 2, Ki 0 4]
 (Rs (sq 5 [Mv 1, Fa 0 2, Ld 1 6, Ls 7, Bb .sub 5 8] [Mv 9 1])
 (.seq (Rs (sq 10 [Mv 1, Bk .lss 10 0] [])
 (Ct 11 (Rs [Ki (-1) 4]
 .ret)
 .skip))
 (Rs (sq 12 [Fa 2 2, La 4 12, Mv 1, Ca 5 [13, 14]] [Mv 15 1])
 (.seq (Rs (sq 16 [Mv 1, Bk .lss 16 0] [])
 (Ct 17 (Rs [Ki (-1) 4]
 .ret)
 .skip))
 (Rs (sq 18 [Fa 7 2, La 4 18, Mv 1, Ca 5 [19, 20]] [Mv 21 1])
 (.seq (Rs (sq 22 [Mv 1, Bk .lss 22 0] [])
 (Ct 23 (Rs [Ki (-1) 4]
 .ret)
 .skip))
 (Rs [Mv 1 24, Mv 24 4]
 .ret)))))))), lcF []⟩
def ks_bc9 : List (List (Option Nat)) := [[none]]
def gf_bc9 (a0 : Change) (a1 : Int) : Option Int := if (decide ((IntKind.i64.wrap (a1 - (a0.id.size : Int))) < 0)) = true then (some ((-1))) else ((gf_bg9 a0.was (IntKind.i64.wrap (a1 - (a0.id.size : Int)))).bind fun x2 => if (decide (x2 < 0)) = true then (some ((-1))) else ((gf_bg9 a0.now x2).bind fun x4 => if (decide (x4 < 0)) = true then (some ((-1))) else (some (x4))))
def c_bc9 : Con := ⟨Change × Int, Int, 194, fun a => [.agg [.v (.string a.1.id), .v (.bool a.1.had), .v (.string a.1.was.id), .v (.int .i64 a.1.was.shape.kind), .ro (List.map ePt a.1.was.shape.pts), .ro (List.map eTag a.1.was.tags), .v (.bool a.1.has), .v (.string a.1.now.id), .v (.int .i64 a.1.now.shape.kind), .ro (List.map ePt a.1.now.shape.pts), .ro (List.map eTag a.1.now.tags)], .v (.int .i64 a.2)], fun a => gf_bc9 a.1 a.2, fun a r => ⟨[(false, [.v (.int .i64 r)])], []⟩, fun a => []⟩
/-! laws.szChangeS -/
def if_bd9 : IFn := ⟨27, [.inl 4],
 (Rs [Ki 0 4]
 (Rs (sq 6 [Mv 1, Mv 0, Ln 7, Bb .sub 6 8] [Mv 9 1])
 (.seq (Rs (sq 10 [Mv 1, Bk .lss 10 0] [])
 (Ct 11 (Rs [Ki (-1) 4]
 .ret)
 .skip))
 (.seq (Rs [Ki 0 5]
 (blkC 0 (.loop (.seq (Rs (sq 12 [Mv 5, Mv 0, Ln 13, Bb .lss 12 14] [])
 (Ct 15 .skip
 (.exit 0)))
 (.seq (.block 1 (Rs (sq 18 [Mv 0, Mv 5, Ia 11 18 19, La 11 20, Mv 1, Ca 194 [21, 22]] [Mv 23 1])
 (Rs (sq 24 [Mv 1, Bk .lss 24 0] [])
 (Ct 25 (Rs [Ki (-1) 4]
 .ret)
 .skip))))
 (.reg (sq 16 [Mv 5, Bk .add 16 1] [Mv 17 5])))))))
 (Rs [Mv 1 26, Mv 26 4]
 .ret))))), lcF []⟩
def ks_bd9 : List (List (Option Nat)) := [[none]]
def gl_bd9_1 : List Change → Nat → Int → Option (Int ⊕ Int)
 | [], k18, v16 => some (.inr v16)
 | x19 :: l20, k18, v16 => (gf_bc9 x19 v16).bind fun x27 => if (decide (x27 < 0)) = true then (some (.inl ((-1)))) else (gl_bd9_1 l20 (k18 + 1) x27)
def gf_bd9 (a0 : (List Change)) (a1 : Int) : Option Int := if (decide ((IntKind.i64.wrap (a1 - (a0.length : Int))) < 0)) = true then (some ((-1))) else (if fits a0.length = true then ((gl_bd9_1 a0 0 (IntKind.i64.wrap (a1 - (a0.length : Int)))).bind fun q => match q with | .inl r => some r | .inr q15 => some (q15)) else none)
def c_bd9 : Con := ⟨(List Change) × Int, Int, 195, fun a => [.ro (List.map (eChange false) a.1), .v (.int .i64 a.2)], fun a => gf_bd9 a.1 a.2, fun a r => ⟨[(false, [.v (.int .i64 r)])], []⟩, fun a => []⟩
/-! laws.szEntry -/
def if_be9 : IFn := ⟨25, [.inl 4],
 (Rs [Io (.box 435 [some 17, none, some 427] (.t 0)) 2, Ki 0 4]
 (Rs (sq 5 [Fa 0 2, Ld 1 5, Mv 1, Ca 6 [6, 7]] [Mv 8 1])
 (.seq (Rs (sq 9 [Mv 1, Bk .lss 9 0] [])
 (Ct 10 (Rs [Ki (-1) 4]
 .ret)
 .skip))
 (Rs (sq 11 [Mv 1, Fa 1 2, Ld 1 12, Ls 13, Bb .sub 11 14] [Mv 15 1])
 (.seq (Rs (sq 16 [Mv 1, Bk .lss 16 0] [])
 (Ct 17 (Rs [Ki (-1) 4]
 .ret)
 .skip))
 (Rs (sq 18 [Fa 2 2, Ld 1 18, Mv 1, Ca 195 [19, 20]] [Mv 21 1])
 (.seq (Rs (sq 22 [Mv 1, Bk .lss 22 0] [])
 (Ct 23 (Rs [Ki (-1) 4]
 .ret)
 .skip))
 (Rs [Mv 1 24, Mv 24 4]
 .ret)))))))), lcF []⟩
def ks_be9 : List (List (Option Nat)) := [[none]]
def gf_be9 (a0 : Entry) (a1 : Int) : Option Int := (gf_bh9 a0.up a1).bind fun x2 => if (decide (x2 < 0)) = true then (some ((-1))) else (if (decide ((IntKind.i64.wrap (x2 - (a0.note.size : Int))) < 0)) = true then (some ((-1))) else ((gf_bd9 a0.diff (IntKind.i64.wrap (x2 - (a0.note.size : Int)))).bind fun x4 => if (decide (x4 < 0)) = true then (some ((-1))) else (some (x4))))
def c_be9 : Con := ⟨Entry × Int, Int, 196, fun a => [.agg [.ro (List.map eInt a.1.up), .v (.string a.1.note), .ro (List.map (eChange false) a.1.diff)], .v (.int .i64 a.2)], fun a => gf_be9 a.1 a.2, fun a r => ⟨[(false, [.v (.int .i64 r)])], []⟩, fun a => []⟩
/-! laws.szEntryS -/
def if_bf9 : IFn := ⟨27, [.inl 4],
 (Rs [Ki 0 4]
 (Rs (sq 6 [Mv 1, Mv 0, Ln 7, Bb .sub 6 8] [Mv 9 1])
 (.seq (Rs (sq 10 [Mv 1, Bk .lss 10 0] [])
 (Ct 11 (Rs [Ki (-1) 4]
 .ret)
 .skip))
 (.seq (Rs [Ki 0 5]
 (blkC 0 (.loop (.seq (Rs (sq 12 [Mv 5, Mv 0, Ln 13, Bb .lss 12 14] [])
 (Ct 15 .skip
 (.exit 0)))
 (.seq (.block 1 (Rs (sq 18 [Mv 0, Mv 5, Ia 3 18 19, La 3 20, Mv 1, Ca 196 [21, 22]] [Mv 23 1])
 (Rs (sq 24 [Mv 1, Bk .lss 24 0] [])
 (Ct 25 (Rs [Ki (-1) 4]
 .ret)
 .skip))))
 (.reg (sq 16 [Mv 5, Bk .add 16 1] [Mv 17 5])))))))
 (Rs [Mv 1 26, Mv 26 4]
 .ret))))), lcF []⟩
def ks_bf9 : List (List (Option Nat)) := [[none]]
def gl_bf9_1 : List Entry → Nat → Int → Option (Int ⊕ Int)
 | [], k18, v16 => some (.inr v16)
 | x19 :: l20, k18, v16 => (gf_be9 x19 v16).bind fun x27 => if (decide (x27 < 0)) = true then (some (.inl ((-1)))) else (gl_bf9_1 l20 (k18 + 1) x27)
def gf_bf9 (a0 : (List Entry)) (a1 : Int) : Option Int := if (decide ((IntKind.i64.wrap (a1 - (a0.length : Int))) < 0)) = true then (some ((-1))) else (if fits a0.length = true then ((gl_bf9_1 a0 0 (IntKind.i64.wrap (a1 - (a0.length : Int)))).bind fun q => match q with | .inl r => some r | .inr q15 => some (q15)) else none)
def c_bf9 : Con := ⟨(List Entry) × Int, Int, 189, fun a => [.ro (List.map (eEntry false) a.1), .v (.int .i64 a.2)], fun a => gf_bf9 a.1 a.2, fun a r => ⟨[(false, [.v (.int .i64 r)])], []⟩, fun a => []⟩
/-! laws.toChange -/
def if_bm9 : IFn := ⟨22, [.inr (2, 11)],
 (Rs (sq 1 [Io (.box 427 [none, none, none, none, some 338, some 354, none, none, none, some 338, some 354] (.t 0)), Io (.alloc 155 [.v (.string ⟨#[]⟩), .v (.bool false), .v (.string ⟨#[]⟩), .v (.int .i64 0), .sl true 66 [], .sl true 82 [], .v (.bool false), .v (.string ⟨#[]⟩), .v (.int .i64 0), .sl true 66 [], .sl true 82 []])] [])
 (seqC (.reg [Io (.alloc 155 [.v (.string ⟨#[]⟩), .v (.bool false), .v (.string ⟨#[]⟩), .v (.int .i64 0), .sl true 66 [], .sl true 82 [], .v (.bool false), .v (.string ⟨#[]⟩), .v (.int .i64 0), .sl true 66 [], .sl true 82 []]) 3])
 (Rs (sq 4 [Fa 0 1, Ld 1 4, Fa 0 3] [Sv [none] 6 5])
 (Rs (sq 7 [Fa 1 1, Ld 1 7, Fa 1 3] [Sv [none] 9 8])
 (seqC (.reg (sq 10 [Fa 2 1, La 4 10, Ca 69 [11], Fa 2 3] [Sv [none, none, some 66, some 82] 13 12]))
 (Rs (sq 14 [Fa 6 1, Ld 1 14, Fa 6 3] [Sv [none] 16 15])
 (Rs (sq 17 [Fa 7 1, La 4 17, Ca 69 [18], Fa 7 3] [Sv [none, none, some 66, some 82] 20 19])
 (Rs [La 11 3 21, Sv [none, none, none, none, some 66, some 82, none, none, none, some 66, some 82] 2 21]
 .ret)))))))), lcF []⟩
def ks_bm9 : List (List (Option Nat)) := [[none, none, none, none, some 66, some 82, none, none, none, some 66, some 82]]
def gf_bm9 (a0 : Change) : Option Change := ((some () : Option Unit)).bind fun q3 => (((gf_bq9 a0.was).bind fun x15 => some (x15.shape.pts, x15.tags, x15.id, x15.shape.kind) : Option ((List Pt) × (List Tag) × Str × Int))).bind fun q14 => (gf_bq9 a0.now).bind fun x30 => some ((⟨a0.id, a0.had, ⟨q14.2.2.1, ⟨q14.2.2.2, q14.1⟩, q14.2.1⟩, a0.has, x30⟩ : Change))
def c_bm9 : Con := ⟨Change, Change, 197, fun a => [.agg [.v (.string a.id), .v (.bool a.had), .v (.string a.was.id), .v (.int .i64 a.was.shape.kind), .ro (List.map ePt a.was.shape.pts), .ro (List.map eTag a.was.tags), .v (.bool a.has), .v (.string a.now.id), .v (.int .i64 a.now.shape.kind), .ro (List.map ePt a.now.shape.pts), .ro (List.map eTag a.now.tags)]], fun a => gf_bm9 a, fun a r => ⟨[(true, eChange true r)], []⟩, fun a => []⟩
/-! laws.toChangeS -/
def if_bn9 : IFn := ⟨23, [.inl 2],
 (Rs [Io (.mv (.c (.slice none 0 0))) 2]
 (Rs (sq 5 [Mv 0, Ln 5, Io (.mks 155 [.v (.string ⟨#[]⟩), .v (.bool false), .v (.string ⟨#[]⟩), .v (.int .i64 0), .sl true 66 [], .sl true 82 [], .v (.bool false), .v (.string ⟨#[]⟩), .v (.int .i64 0), .sl true 66 [], .sl true 82 []] (.t 6) (.t 6))] [Mv 7 3])
 (.seq (Rs [Ki 0 4]
 (blkC 0 (.loop (.seq (Rs (sq 8 [Mv 4, Mv 0, Ln 9, Bb .lss 8 10] [])
 (Ct 11 .skip
 (.exit 0)))
 (.seq (.block 1 (.reg (sq 14 [Mv 3, Mv 4, Mv 0, Mv 4, Ia 11 16 17, La 11 18, Ca 197 [19], Ia 11 14 15] [Sv [none, none, none, none, some 66, some 82, none, none, none, some 66, some 82] 21 20])))
 (.reg (sq 12 [Mv 4, Bk .add 12 1] [Mv 13 4])))))))
 (Rs [Mv 3 22, Mv 22 2]
 .ret)))), lcF []⟩
def ks_bn9 : List (List (Option Nat)) := [[some 155]]
def gl_bn9_1 : List Change → Nat → (List Change) → Option (List Change)
 | [], k55, v52 => some v52
 | x56 :: l57, k55, v52 => (gf_bm9 x56).bind fun x64 => (idx v52 (k55 : Int)).bind fun x74 => gl_bn9_1 l57 (k55 + 1) (List.set v52 (k55 : Int).toNat x64)
def gf_bn9 (a0 : (List Change)) : Option (List Change) := if (decide (0 ≤ (a0.length : Int)) && fits ((a0.length : Int)).toNat) = true then if fits a0.length = true then ((gl_bn9_1 a0 0 (List.replicate ((a0.length : Int)).toNat (⟨(⟨#[]⟩ : Str), false, ⟨(⟨#[]⟩ : Str), ⟨0, []⟩, []⟩, false, ⟨(⟨#[]⟩ : Str), ⟨0, []⟩, []⟩⟩ : Change))).bind fun q50 => some (q50)) else none else none
def c_bn9 : Con := ⟨(List Change), (List Change), 198, fun a => [.ro (List.map (eChange false) a)], fun a => gf_bn9 a, fun a r => ⟨[(false, [sl true 155 (List.map (eChange true) r)])], []⟩, fun a => []⟩
/-! laws.toEntry -/
def if_bo9 : IFn := ⟨16, [.inr (2, 3)],
 (Rs (sq 1 [Io (.box 435 [some 17, none, some 427] (.t 0)), Io (.alloc 163 [.sl true 17 [], .v (.string ⟨#[]⟩), .sl true 155 []])] [])
 (Rs [Io (.alloc 163 [.sl true 17 [], .v (.string ⟨#[]⟩), .sl true 155 []]) 3]
 (seqC (.reg (sq 4 [Fa 0 1, Ld 1 4, Ca 70 [5], Fa 0 3] [Sv [some 17] 7 6]))
 (Rs (sq 8 [Fa 1 1, Ld 1 8, Fa 1 3] [Sv [none] 10 9])
 (Rs (sq 11 [Fa 2 1, Ld 1 11, Ca 198 [12], Fa 2 3] [Sv [some 155] 14 13])
 (Rs [La 3 3 15, Sv [some 17, none, some 155] 2 15]
 .ret)))))), lcF []⟩
def ks_bo9 : List (List (Option Nat)) := [[some 17, none, some 155]]
def gf_bo9 (a0 : Entry) : Option Entry := (((gf_br9 a0.up).bind fun x5 => some x5 : Option (List Int))).bind fun q4 => (gf_bn9 a0.diff).bind fun x13 => some ((⟨q4, a0.note, x13⟩ : Entry))
def c_bo9 : Con := ⟨Entry, Entry, 199, fun a => [.agg [.ro (List.map eInt a.up), .v (.string a.note), .ro (List.map (eChange false) a.diff)]], fun a => gf_bo9 a, fun a r => ⟨[(true, eEntry true r)], []⟩, fun a => []⟩
/-! laws.toEntryS -/
def if_bp9 : IFn := ⟨23, [.inl 2],
 (Rs [Io (.mv (.c (.slice none 0 0))) 2]
 (Rs (sq 5 [Mv 0, Ln 5, Io (.mks 163 [.sl true 17 [], .v (.string ⟨#[]⟩), .sl true 155 []] (.t 6) (.t 6))] [Mv 7 3])
 (.seq (Rs [Ki 0 4]
 (blkC 0 (.loop (.seq (Rs (sq 8 [Mv 4, Mv 0, Ln 9, Bb .lss 8 10] [])
 (Ct 11 .skip
 (.exit 0)))
 (.seq (.block 1 (.reg (sq 14 [Mv 3, Mv 4, Mv 0, Mv 4, Ia 3 16 17, La 3 18, Ca 199 [19], Ia 3 14 15] [Sv [some 17, none, some 155] 21 20])))
 (.reg (sq 12 [Mv 4, Bk .add 12 1] [Mv 13 4])))))))
 (Rs [Mv 3 22, Mv 22 2]
 .ret)))), lcF []⟩
def ks_bp9 : List (List (Option Nat)) := [[some 163]]
def gl_bp9_1 : List Entry → Nat → (List Entry) → Option (List Entry)
 | [], k43, v40 => some v40
 | x44 :: l45, k43, v40 => (gf_bo9 x44).bind fun x52 => (idx v40 (k43 : Int)).bind fun x58 => gl_bp9_1 l45 (k43 + 1) (List.set v40 (k43 : Int).toNat x52)
def gf_bp9 (a0 : (List Entry)) : Option (List Entry) := if (decide (0 ≤ (a0.length : Int)) && fits ((a0.length : Int)).toNat) = true then if fits a0.length = true then ((gl_bp9_1 a0 0 (List.replicate ((a0.length : Int)).toNat (⟨[], (⟨#[]⟩ : Str), []⟩ : Entry))).bind fun q38 => some (q38)) else none else none
def c_bp9 : Con := ⟨(List Entry), (List Entry), 190, fun a => [.ro (List.map (eEntry false) a)], fun a => gf_bp9 a, fun a r => ⟨[(false, [sl true 163 (List.map (eEntry true) r)])], []⟩, fun a => []⟩
/-! laws.eqChange -/
def if_ar9 : IFn := ⟨32, [.inl 4],
 (Rs (sq 2 [Io (.box 155 [none, none, none, none, some 66, some 82, none, none, none, some 66, some 82] (.t 0)), Io (.box 155 [none, none, none, none, some 66, some 82, none, none, none, some 66, some 82] (.t 1)), Kb false] [])
 (.seq (Rs (sq 5 [Fa 0 2, Ld 1 5, Fa 0 3, Ld 1 7, Bb .neq 6 8] [])
 (Ct 9 (Rs [Kb false 4]
 .ret)
 .skip))
 (.seq (Rs (sq 10 [Fa 1 2, Ld 1 10, Fa 1 3, Ld 1 12, Io (.eqs true false [1] (.t 11) (.t 13))] [])
 (Ct 14 (Rs [Kb false 4]
 .ret)
 .skip))
 (.seq (Rs (sq 15 [Fa 2 2, La 4 15, Fa 2 3, La 4 17, Ca 158 [16, 18], Nt 19] [])
 (Ct 20 (Rs [Kb false 4]
 .ret)
 .skip))
 (.seq (Rs (sq 21 [Fa 6 2, Ld 1 21, Fa 6 3, Ld 1 23, Io (.eqs true false [1] (.t 22) (.t 24))] [])
 (Ct 25 (Rs [Kb false 4]
 .ret)
 .skip))
 (.seq (Rs (sq 26 [Fa 7 2, La 4 26, Fa 7 3, La 4 28, Ca 158 [27, 29], Nt 30] [])
 (Ct 31 (Rs [Kb false 4]
 .ret)
 .skip))
 (Rs [Kb true 4]
 .ret))))))), lcF []⟩
def ks_ar9 : List (List (Option Nat)) := [[none]]
def gf_ar9 (a0 : Change) (a1 : Change) : Option Bool := if (!seq a0.id a1.id) = true then (some (false)) else (if (!(a0.had == a1.had)) = true then (some (false)) else ((gf_av9 a0.was a1.was).bind fun x3 => if (!x3) = true then (some (false)) else (if (!(a0.has == a1.has)) = true then (some (false)) else ((gf_av9 a0.now a1.now).bind fun x5 => if (!x5) = true then (some (false)) else (some (true))))))
def c_ar9 : Con := ⟨Change × Change, Bool, 200, fun a => [.agg [.v (.string a.1.id), .v (.bool a.1.had), .v (.string a.1.was.id), .v (.int .i64 a.1.was.shape.kind), .ro (List.map ePt a.1.was.shape.pts), .ro (List.map eTag a.1.was.tags), .v (.bool a.1.has), .v (.string a.1.now.id), .v (.int .i64 a.1.now.shape.kind), .ro (List.map ePt a.1.now.shape.pts), .ro (List.map eTag a.1.now.tags)], .agg [.v (.string a.2.id), .v (.bool a.2.had), .v (.string a.2.was.id), .v (.int .i64 a.2.was.shape.kind), .ro (List.map ePt a.2.was.shape.pts), .ro (List.map eTag a.2.was.tags), .v (.bool a.2.has), .v (.string a.2.now.id), .v (.int .i64 a.2.now.shape.kind), .ro (List.map ePt a.2.now.shape.pts), .ro (List.map eTag a.2.now.tags)]], fun a => gf_ar9 a.1 a.2, fun a r => ⟨[(false, [.v (.bool r)])], []⟩, fun a => []⟩
/-! laws.eqChangeS -/
def if_as9 : IFn := ⟨27, [.inl 4],
 (Rs [Kb false 4]
 (.seq (Rs (sq 6 [Mv 0, Ln 6, Mv 1, Ln 8, Bb .neq 7 9] [])
 (Ct 10 (Rs [Kb false 4]
 .ret)
 .skip))
 (.seq (Rs [Ki 0 5]
 (blkC 0 (.loop (.seq (Rs (sq 11 [Mv 5, Mv 0, Ln 12, Bb .lss 11 13] [])
 (Ct 14 .skip
 (.exit 0)))
 (.seq (.block 1 (.seq (.drw (sq 17 [Mv 0, Mv 5, Ia 11 17 18, La 11 19, Mv 1, Mv 5, Ia 11 21 22, La 11 23, Ca 200 [20, 24], Nt 25] []) [(3, 7)])
 (Ct 26 (Rs [Kb false 4]
 .ret)
 .skip)))
 (.reg (sq 15 [Mv 5, Bk .add 15 1] [Mv 16 5])))))))
 (Rs [Kb true 4]
 .ret)))), lcF []⟩
def ks_as9 : List (List (Option Nat)) := [[none]]
def gl_as9_1 (a1 : (List Change)) : List Change → Nat → Option (Bool ⊕ Unit)
 | [], k22 => some (.inr ())
 | x23 :: l24, k22 => (idx a1 (k22 : Int)).bind fun x31 => (gf_ar9 x23 x31).bind fun x33 => if (!x33) = true then (some (.inl (false))) else (gl_as9_1 a1 l24 (k22 + 1) )
def gf_as9 (a0 : (List Change)) (a1 : (List Change)) : Option Bool := if ((a0.length : Int) != (a1.length : Int)) = true then (some (false)) else (if fits a0.length = true then ((gl_as9_1 a1 a0 0 ).bind fun q => match q with | .inl r => some r | .inr q20 => some (true)) else none)
def c_as9 : Con := ⟨(List Change) × (List Change), Bool, 201, fun a => [.ro (List.map (eChange false) a.1), .ro (List.map (eChange false) a.2)], fun a => gf_as9 a.1 a.2, fun a r => ⟨[(false, [.v (.bool r)])], []⟩, fun a => []⟩
/-! laws.eqEntry -/
def if_at9 : IFn := ⟨22, [.inl 4],
 (Rs (sq 2 [Io (.box 163 [some 17, none, some 155] (.t 0)), Io (.box 163 [some 17, none, some 155] (.t 1)), Kb false] [])
 (.seq (Rs (sq 5 [Fa 0 2, Ld 1 5, Fa 0 3, Ld 1 7, Ca 159 [6, 8], Nt 9] [])
 (Ct 10 (Rs [Kb false 4]
 .ret)
 .skip))
 (.seq (Rs (sq 11 [Fa 1 2, Ld 1 11, Fa 1 3, Ld 1 13, Bb .neq 12 14] [])
 (Ct 15 (Rs [Kb false 4]
 .ret)
 .skip))
 (.seq (Rs (sq 16 [Fa 2 2, Ld 1 16, Fa 2 3, Ld 1 18, Ca 201 [17, 19], Nt 20] [])
 (Ct 21 (Rs [Kb false 4]
 .ret)
 .skip))
 (Rs [Kb true 4]
 .ret))))), lcF []⟩
def ks_at9 : List (List (Option Nat)) := [[none]]
def gf_at9 (a0 : Entry) (a1 : Entry) : Option Bool := (gf_aw9 a0.up a1.up).bind fun x3 => if (!x3) = true then (some (false)) else (if (!seq a0.note a1.note) = true then (some (false)) else ((gf_as9 a0.diff a1.diff).bind fun x5 => if (!x5) = true then (some (false)) else (some (true))))
def c_at9 : Con := ⟨Entry × Entry, Bool, 202, fun a => [.agg [.ro (List.map eInt a.1.up), .v (.string a.1.note), .ro (List.map (eChange false) a.1.diff)], .agg [.ro (List.map eInt a.2.up), .v (.string a.2.note), .ro (List.map (eChange false) a.2.diff)]], fun a => gf_at9 a.1 a.2, fun a r => ⟨[(false, [.v (.bool r)])], []⟩, fun a => []⟩
/-! laws.eqEntryS -/
def if_au9 : IFn := ⟨27, [.inl 4],
 (Rs [Kb false 4]
 (.seq (Rs (sq 6 [Mv 0, Ln 6, Mv 1, Ln 8, Bb .neq 7 9] [])
 (Ct 10 (Rs [Kb false 4]
 .ret)
 .skip))
 (.seq (Rs [Ki 0 5]
 (blkC 0 (.loop (.seq (Rs (sq 11 [Mv 5, Mv 0, Ln 12, Bb .lss 11 13] [])
 (Ct 14 .skip
 (.exit 0)))
 (.seq (.block 1 (.seq (.drw (sq 17 [Mv 0, Mv 5, Ia 3 17 18, La 3 19, Mv 1, Mv 5, Ia 3 21 22, La 3 23, Ca 202 [20, 24], Nt 25] []) [(3, 7)])
 (Ct 26 (Rs [Kb false 4]
 .ret)
 .skip)))
 (.reg (sq 15 [Mv 5, Bk .add 15 1] [Mv 16 5])))))))
 (Rs [Kb true 4]
 .ret)))), lcF []⟩
def ks_au9 : List (List (Option Nat)) := [[none]]
def gl_au9_1 (a1 : (List Entry)) : List Entry → Nat → Option (Bool ⊕ Unit)
 | [], k22 => some (.inr ())
 | x23 :: l24, k22 => (idx a1 (k22 : Int)).bind fun x31 => (gf_at9 x23 x31).bind fun x33 => if (!x33) = true then (some (.inl (false))) else (gl_au9_1 a1 l24 (k22 + 1) )
def gf_au9 (a0 : (List Entry)) (a1 : (List Entry)) : Option Bool := if ((a0.length : Int) != (a1.length : Int)) = true then (some (false)) else (if fits a0.length = true then ((gl_au9_1 a1 a0 0 ).bind fun q => match q with | .inl r => some r | .inr q20 => some (true)) else none)
def c_au9 : Con := ⟨(List Entry) × (List Entry), Bool, 193, fun a => [.ro (List.map (eEntry false) a.1), .ro (List.map (eEntry false) a.2)], fun a => gf_au9 a.1 a.2, fun a r => ⟨[(false, [.v (.bool r)])], []⟩, fun a => []⟩
/-! spec.l12Dec -/
def if_cj9 : IFn := ⟨31, [.inl 2],
 (Rs [Io (.mv (.c (.string ⟨#[]⟩))) 2]
 (.seq (Rs (sq 4 [Mv 0, Bk .lss 4 (-9223372036854775807)] [])
 (Ct 5 (Rs [Io (.mv (.c (.string ⟨#[45, 57, 50, 50, 51, 51, 55, 50, 48, 51, 54, 56, 53, 52, 55, 55, 53, 56, 48, 56]⟩))) 2]
 .ret)
 .skip))
 (.seq (Rs (sq 6 [Mv 0, Bk .lss 6 0] [])
 (Ct 7 (Rs (sq 8 [Mv 0, Io (.un .neg (.t 8)), Ca 337 [9], Io (.bin .add (.c (.string ⟨#[45]⟩)) (.t 10))] [Mv 11 2])
 .ret)
 .skip))
 (Rs [Io (.mv (.c (.string ⟨#[]⟩))) 3]
 (seqC (.block 0 (.loop (.seq (Rs (sq 12 [Mv 0, Bk .gtr 12 9] [])
 (Ct 13 .skip
 (.exit 0)))
 (.block 1 (Rs (sq 14 [Mv 0, Bk .rem 14 10, Io (.bin .add (.c (.int .i64 48)) (.t 15)), Io (.conv .u8 (.t 16)), Io (.lit 257 [none] [.v (.int .u8 0)] 1 [(0, .t 17)]), Io (.bytes (.t 18)), Mv 3, Bb .add 19 20] [Mv 21 3])
 (.reg (sq 22 [Mv 0, Bk .quo 22 10] [Mv 23 0])))))))
 (Rs (sq 24 [Mv 0, Io (.bin .add (.c (.int .i64 48)) (.t 24)), Io (.conv .u8 (.t 25)), Io (.lit 257 [none] [.v (.int .u8 0)] 1 [(0, .t 26)]), Io (.bytes (.t 27)), Mv 3, Bb .add 28 29] [Mv 30 2])
 .ret)))))), lcF []⟩
def ks_cj9 : List (List (Option Nat)) := [[none]]
def gl_cj9_1 : Nat → Int → Str → Option (Int × Str)
 | 0, _, _ => none
 | n16 + 1, v14, v15 => if (decide (v14 > 9)) = true then ((cat (bstr ([(IntKind.u8.wrap (IntKind.i64.wrap (48 + (Int.tmod v14 10))))] : (List Int))) v15).bind fun x18 => gl_cj9_1 n16 (IntKind.i64.wrap (Int.tdiv v14 10)) x18) else (some (v14, v15))
def gb_cj9 (rec : Int → Option Str) (a0 : Int) : Option Str := if (decide (a0 < (-9223372036854775807))) = true then (some ((⟨#[45, 57, 50, 50, 51, 51, 55, 50, 48, 51, 54, 56, 53, 52, 55, 55, 53, 56, 48, 56]⟩ : Str))) else (if (decide (a0 < 0)) = true then ((rec (IntKind.i64.wrap (0 - a0))).bind fun x1 => (cat (⟨#[45]⟩ : Str) x1).bind fun x3 => some (x3)) else ((gl_cj9_1 rounds a0 (⟨#[]⟩ : Str)).bind fun q13 => (cat (bstr ([(IntKind.u8.wrap (IntKind.i64.wrap (48 + q13.1)))] : (List Int))) q13.2).bind fun x23 => some (x23)))
def gf_cj9 : Nat → Int → Option Str
 | 0 => fun _ => none
 | fuel + 1 => gb_cj9 (gf_cj9 fuel)
def c_cj9 (fuel : Nat) : Con := ⟨Int, Str, 337, fun a => [.v (.int .i64 a)], fun a => gf_cj9 fuel a, fun a r => ⟨[(false, [.v (.string r)])], []⟩, fun a => []⟩
/-! spec.l4One -/
def if_cq9 : IFn := ⟨88, [.inl 2],
 (Rs (sq 1 [Io (.box 155 [none, none, none, none, some 66, some 82, none, none, none, some 66, some 82] (.t 0)), Kb false] [])
 (seqC (Rs (sq 3 [Fa 0 1, Ld 1 3, Ca 14 [4], Nt 5, Mv 6] (Sf 7 8 [Fa 1 1, Ld 1 8, Nt 9, Mv 10] (Sg 11 12 [Fa 6 1, Ld 1 12, Nt 13] (Gf 7 (Pf 11 14 15) :: (sq 16 [Pk 7 15, Mv 16] (Sf 17 18 [Fa 1 1, Ld 1 18, Mv 19] (Sg 20 21 [Fa 6 1, Ld 1 21] (Sf 17 23 [Pf 20 22, Mv 23] (Sg 24 25 [Fa 2 1, La 4 25, Fa 7 1, La 4 27, Ca 21 [26, 28]] [Gf 17 (Pf 24 29 30), Pk 17 30 31])))))))))
 (Ct 31 (Rs [Kb false 2]
 .ret)
 .skip))
 (seqC (Rs (sq 32 [Fa 1 1, Ld 1 32, Nt 33, Mv 34] (Sg 35 36 [Fa 2 1, La 4 36, Io (.build [.v (.string ⟨#[]⟩), .v (.int .i64 0), .nil, .nil] []), Ca 21 [37, 38], Nt 39] (sq 41 [Pf 35 40, Mv 41] (Sf 42 43 [Fa 6 1, Ld 1 43, Nt 44, Mv 45] (Sg 46 47 [Fa 7 1, La 4 47, Io (.build [.v (.string ⟨#[]⟩), .v (.int .i64 0), .nil, .nil] []), Ca 21 [48, 49], Nt 50] [Gf 42 (Pf 46 51 52), Pk 42 52 53])))))
 (Ct 53 (Rs [Kb false 2]
 .ret)
 .skip))
 (Rs (sq 54 [Fa 1 1, Ld 1 54, Nt 55, Mv 56] (Sf 57 58 [Fa 2 1, La 4 58, Ca 17 [59], Mv 60] (Sg 61 62 [Fa 2 1, Fa 0 62, Ld 1 63, Fa 0 1, Ld 1 65, Bb .eql 64 66] (Gf 57 (Pf 61 67 68) :: (sq 69 [Pk 57 68, Mv 69] (Sg 70 71 [Fa 6 1, Ld 1 71, Nt 72, Mv 73] (Sf 74 75 [Fa 7 1, La 4 75, Ca 17 [76], Mv 77] (Sg 78 79 [Fa 7 1, Fa 0 79, Ld 1 80, Fa 0 1, Ld 1 82, Bb .eql 81 83] [Gf 74 (Pf 78 84 85), Gt 70 (Pk 74 85 86), Pf 70 86 87, Mv 87 2]))))))))
 .ret)))), lcF []⟩
def ks_cq9 : List (List (Option Nat)) := [[none]]
def gf_cq9 (a0 : Change) : Option Bool := (((gf_ci9 a0.id).bind fun x9 => if (!x9) = true then (some (.inl (false))) else (if (!a0.had) = true then (if (!a0.has) = true then (some (.inl (false))) else (if a0.had = true then (if a0.has = true then ((gf_cc9 a0.was a0.now).bind fun x11 => if x11 = true then (some (.inl (false))) else (some (.inr (true, true)))) else (some (.inr (true, false)))) else (some (.inr (false, a0.has))))) else (if a0.had = true then (if a0.has = true then ((gf_cc9 a0.was a0.now).bind fun x13 => if x13 = true then (some (.inl (false))) else (some (.inr (true, true)))) else (some (.inr (true, false)))) else (some (.inr (false, a0.has))))) : Option (Bool ⊕ (Bool × Bool)))).bind fun q => match q with | .inl r => some r | .inr q8 => ((if (!q8.1) = true then ((gf_cc9 a0.was (⟨(⟨#[]⟩ : Str), ⟨0, []⟩, []⟩ : Feat)).bind fun x25 => if (!x25) = true then (some (.inl (false))) else (if (!q8.2) = true then ((gf_cc9 a0.now (⟨(⟨#[]⟩ : Str), ⟨0, []⟩, []⟩ : Feat)).bind fun x27 => if (!x27) = true then (some (.inl (false))) else (some (.inr ()))) else (some (.inr ())))) else (if (!q8.2) = true then ((gf_cc9 a0.now (⟨(⟨#[]⟩ : Str), ⟨0, []⟩, []⟩ : Feat)).bind fun x29 => if (!x29) = true then (some (.inl (false))) else (some (.inr ()))) else (some (.inr ()))) : Option (Bool ⊕ Unit))).bind fun q => match q with | .inl r => some r | .inr q24 => if (!q8.1) = true then (if (!q8.2) = true then (some (true)) else ((gf_cb9 a0.now).bind fun x31 => if x31 = true then (some ((seq a0.now.id a0.id))) else (some (false)))) else ((gf_cb9 a0.was).bind fun x33 => if x33 = true then (if (seq a0.was.id a0.id) = true then (if (!q8.2) = true then (some (true)) else ((gf_cb9 a0.now).bind fun x35 => if x35 = true then (some ((seq a0.now.id a0.id))) else (some (false)))) else (some (false))) else (some (false)))
def c_cq9 : Con := ⟨Change, Bool, 388, fun a => [.agg [.v (.string a.id), .v (.bool a.had), .v (.string a.was.id), .v (.int .i64 a.was.shape.kind), .ro (List.map ePt a.was.shape.pts), .ro (List.map eTag a.was.tags), .v (.bool a.has), .v (.string a.now.id), .v (.int .i64 a.now.shape.kind), .ro (List.map ePt a.now.shape.pts), .ro (List.map eTag a.now.tags)]], fun a => gf_cq9 a, fun a r => ⟨[(false, [.v (.bool r)])], []⟩, fun a => []⟩
/-! spec.DiffOk -/
def if_bz9 : IFn := ⟨37, [.inl 2],
 (Rs [Kb false 2]
 (.seq (Rs [Ki 0 3]
 (blkC 0 (.loop (.seq (Rs (sq 4 [Mv 3, Mv 0, Ln 5, Bb .lss 4 6] [])
 (Ct 7 .skip
 (.exit 0)))
 (.seq (.block 1 (.seq (.drw (sq 10 [Mv 0, Mv 3, Ia 11 10 11, La 11 12, Ca 388 [13], Nt 14, Mv 15] (Sf 16 17 [Mv 3, Bk .gtr 17 0, Mv 18] (Sg 19 20 [Mv 0, Mv 3, Ia 11 20 21, Fa 0 22, Ld 1 23, Mv 0, Mv 3, Bk .sub 26 1, Ia 11 25 27, Fa 0 28, Ld 1 29, Bb .leq 24 30] [Gf 16 (Pf 19 31 32), Pk 16 32 33]))) [(14, 20)])
 (Ct 33 (Rs [Kb false 2]
 .ret)
 .skip)))
 (.reg (sq 8 [Mv 3, Bk .add 8 1] [Mv 9 3])))))))
 (Rs (sq 34 [Mv 0, Ln 34, Bk .leq 35 16] [Mv 36 2])
 .ret))), lcF []⟩
def ks_bz9 : List (List (Option Nat)) := [[none]]
def gl_bz9_1 (a0 : (List Change)) : List Change → Nat → Option (Bool ⊕ Unit)
 | [], k20 => some (.inr ())
 | x21 :: l22, k20 => (gf_cq9 x21).bind fun x29 => if (!x29) = true then (some (.inl (false))) else (if (decide ((k20 : Int) > 0)) = true then ((idx a0 (IntKind.i64.wrap ((k20 : Int) - 1))).bind fun x31 => if (slt x21.id x31.id || seq x21.id x31.id) = true then (some (.inl (false))) else (gl_bz9_1 a0 l22 (k20 + 1) )) else (gl_bz9_1 a0 l22 (k20 + 1) ))
def gf_bz9 (a0 : (List Change)) : Option Bool := if fits a0.length = true then ((gl_bz9_1 a0 a0 0 ).bind fun q => match q with | .inl r => some r | .inr q18 => some ((decide ((a0.length : Int) ≤ 16)))) else none
def c_bz9 : Con := ⟨(List Change), Bool, 368, fun a => [.ro (List.map (eChange false) a)], fun a => gf_bz9 a, fun a r => ⟨[(false, [.v (.bool r)])], []⟩, fun a => []⟩
/-! spec.l1Word -/
def if_cn9 : IFn := ⟨7, [.inl 2],
 (Rs [Io (.mv (.c (.string ⟨#[]⟩))) 2]
 (Rs (sq 3 [Io (.lit 49 [none] [.v (.string ⟨#[]⟩)] 4 [(0, .c (.string ⟨#[]⟩)), (1, .c (.string ⟨#[100, 111, 116]⟩)), (2, .c (.string ⟨#[108, 105, 110, 101]⟩)), (3, .c (.string ⟨#[114, 105, 110, 103]⟩))]), Mv 0, Ia 1 3 4, Ld 1 5] [Mv 6 2])
 .ret)), lcF []⟩
def ks_cn9 : List (List (Option Nat)) := [[none]]
def gf_cn9 (a0 : Int) : Option Str := (idx [(⟨#[]⟩ : Str), (⟨#[100, 111, 116]⟩ : Str), (⟨#[108, 105, 110, 101]⟩ : Str), (⟨#[114, 105, 110, 103]⟩ : Str)] a0).bind fun x2 => some (x2)
def c_cn9 : Con := ⟨Int, Str, 403, fun a => [.v (.int .i64 a)], fun a => gf_cn9 a, fun a r => ⟨[(false, [.v (.string r)])], []⟩, fun a => []⟩
/-! spec.ShapeText -/
def if_ch9 : IFn := ⟨38, [.inl 2],
 (Rs (sq 1 [Io (.box 226 [none, some 66] (.t 0)), Io (.mv (.c (.string ⟨#[]⟩)))] [])
 (.seq (Rs (sq 5 [La 2 1, Ca 15 [5], Nt 6] [])
 (Ct 7 (Rs [Io (.mv (.c (.string ⟨#[]⟩))) 2]
 .ret)
 .skip))
 (Rs (sq 8 [Fa 0 1, Ld 1 8, Ca 403 [9]] [Mv 10 3])
 (.seq (Rs [Ki 0 4]
 (blkC 0 (.loop (.seq (Rs (sq 11 [Mv 4, Fa 1 1, Ld 1 12, Ln 13, Bb .lss 11 14] [])
 (Ct 15 .skip
 (.exit 0)))
 (.seq (.block 1 (.drw (sq 18 [Mv 3, Io (.bin .add (.t 18) (.c (.string ⟨#[32]⟩))), Fa 1 1, Ld 1 20, Mv 4, Ia 2 21 22, Fa 0 23, Ld 1 24, Ca 337 [25], Bb .add 19 26, Io (.bin .add (.t 27) (.c (.string ⟨#[44]⟩))), Fa 1 1, Ld 1 29, Mv 4, Ia 2 30 31, Fa 1 32, Ld 1 33, Ca 337 [34], Bb .add 28 35] [Mv 36 3]) [(3, 12), (7, 12), (8, 12), (3, 16), (7, 16), (8, 16)]))
 (.reg (sq 16 [Mv 4, Bk .add 16 1] [Mv 17 4])))))))
 (Rs [Mv 3 37, Mv 37 2]
 .ret))))), lcF []⟩
def ks_ch9 : List (List (Option Nat)) := [[none]]
def gl_ch9_1 : List Pt → Nat → Str → Option Str
 | [], k53, v51 => some v51
 | x54 :: l55, k53, v51 => (cat v51 (⟨#[32]⟩ : Str)).bind fun x62 => (gf_cj9 rounds x54.x).bind fun x64 => (cat x62 x64).bind fun x66 => (cat x66 (⟨#[44]⟩ : Str)).bind fun x68 => (gf_cj9 rounds x54.y).bind fun x70 => (cat x68 x70).bind fun x72 => gl_ch9_1 l55 (k53 + 1) x72
def gf_ch9 (a0 : Shape) : Option Str := (gf_cf9 a0).bind fun x2 => if (!x2) = true then (some ((⟨#[]⟩ : Str))) else ((gf_cn9 a0.kind).bind fun x4 => if fits a0.pts.length = true then ((gl_ch9_1 a0.pts 0 x4).bind fun q50 => some (q50)) else none)
def c_ch9 : Con := ⟨Shape, Str, 398, fun a => [.agg [.v (.int .i64 a.kind), .ro (List.map ePt a.pts)]], fun a => gf_ch9 a, fun a r => ⟨[(false, [.v (.string r)])], []⟩, fun a => []⟩
/-! spec.FeatText -/
def if_cd9 : IFn := ⟨40, [.inl 2],
 (Rs (sq 1 [Io (.box 100 [none, none, some 66, some 82] (.t 0)), Io (.mv (.c (.string ⟨#[]⟩)))] [])
 (.seq (Rs (sq 5 [La 4 1, Ca 17 [5], Nt 6] [])
 (Ct 7 (Rs [Io (.mv (.c (.string ⟨#[]⟩))) 2]
 .ret)
 .skip))
 (.seq (.drw (sq 8 [Fa 0 1, Ld 1 8, Io (.bin .add (.t 9) (.c (.string ⟨#[32]⟩))), Fa 1 1, La 2 11, Ca 398 [12], Bb .add 10 13] [Mv 14 3]) [(1, 4), (1, 5)])
 (.seq (Rs [Ki 0 4]
 (blkC 0 (.loop (.seq (Rs (sq 15 [Mv 4, Fa 3 1, Ld 1 16, Ln 17, Bb .lss 15 18] [])
 (Ct 19 .skip
 (.exit 0)))
 (.seq (.block 1 (.drw (sq 22 [Mv 3, Io (.bin .add (.t 22) (.c (.string ⟨#[32]⟩))), Fa 3 1, Ld 1 24, Mv 4, Ia 2 25 26, Fa 0 27, Ld 1 28, Bb .add 23 29, Io (.bin .add (.t 30) (.c (.string ⟨#[61]⟩))), Fa 3 1, Ld 1 32, Mv 4, Ia 2 33 34, Fa 1 35, Ld 1 36, Bb .add 31 37] [Mv 38 3]) [(3, 11), (7, 11), (3, 15), (7, 15)]))
 (.reg (sq 20 [Mv 4, Bk .add 20 1] [Mv 21 4])))))))
 (Rs [Mv 3 39, Mv 39 2]
 .ret))))), lcF []⟩
def ks_cd9 : List (List (Option Nat)) := [[none]]
def gl_cd9_1 : List Tag → Nat → Str → Option Str
 | [], k45, v43 => some v43
 | x46 :: l47, k45, v43 => (cat v43 (⟨#[32]⟩ : Str)).bind fun x54 => (cat x54 x46.key).bind fun x56 => (cat x56 (⟨#[61]⟩ : Str)).bind fun x58 => (cat x58 x46.val).bind fun x60 => gl_cd9_1 l47 (k45 + 1) x60
def gf_cd9 (a0 : Feat) : Option Str := (gf_cb9 a0).bind fun x2 => if (!x2) = true then (some ((⟨#[]⟩ : Str))) else ((cat a0.id (⟨#[32]⟩ : Str)).bind fun x4 => (gf_ch9 a0.shape).bind fun x6 => (cat x4 x6).bind fun x8 => if fits a0.tags.length = true then ((gl_cd9_1 a0.tags 0 x8).bind fun q42 => some (q42)) else none)
def c_cd9 : Con := ⟨Feat, Str, 389, fun a => [.agg [.v (.string a.id), .v (.int .i64 a.shape.kind), .ro (List.map ePt a.shape.pts), .ro (List.map eTag a.tags)]], fun a => gf_cd9 a, fun a r => ⟨[(false, [.v (.string r)])], []⟩, fun a => []⟩
/-! spec.l4Word -/
def if_cr9 : IFn := ⟨9, [.inl 4],
 (Rs [Io (.box 100 [none, none, some 66, some 82] (.t 0)) 2, Io (.mv (.c (.string ⟨#[]⟩))) 4]
 (.seq (Rs (sq 5 [Mv 1, Nt 5] [])
 (Ct 6 (Rs [Io (.mv (.c (.string ⟨#[45]⟩))) 4]
 .ret)
 .skip))
 (Rs (sq 7 [La 4 2, Ca 389 [7]] [Mv 8 4])
 .ret))), lcF []⟩
def ks_cr9 : List (List (Option Nat)) := [[none]]
def gf_cr9 (a0 : Feat) (a1 : Bool) : Option Str := if (!a1) = true then (some ((⟨#[45]⟩ : Str))) else ((gf_cd9 a0).bind fun x2 => some (x2))
def c_cr9 : Con := ⟨Feat × Bool, Str, 369, fun a => [.agg [.v (.string a.1.id), .v (.int .i64 a.1.shape.kind), .ro (List.map ePt a.1.shape.pts), .ro (List.map eTag a.1.tags)], .v (.bool a.2)], fun a => gf_cr9 a.1 a.2, fun a r => ⟨[(false, [.v (.string r)])], []⟩, fun a => []⟩
/-! spec.DiffText -/
def if_ca9 : IFn := ⟨50, [.inl 2],
 (Rs [Io (.mv (.c (.string ⟨#[]⟩))) 2]
 (Rs [Io (.mv (.c (.string ⟨#[]⟩))) 3]
 (.seq (Rs [Ki 0 4]
 (blkC 0 (.loop (.seq (Rs (sq 5 [Mv 4, Mv 0, Ln 6, Bb .lss 5 7, Mv 8] (Sg 9 10 [Mv 0, Ca 368 [10]] [Pf 9 11 12]))
 (Ct 12 .skip
 (.exit 0)))
 (.seq (.block 1 (.drw (sq 15 [Mv 3, Mv 0, Mv 4, Ia 11 16 17, Fa 0 18, Ld 1 19, Bb .add 15 20, Io (.bin .add (.t 21) (.c (.string ⟨#[58, 32]⟩))), Mv 0, Mv 4, Ia 11 23 24, Fa 2 25, La 4 26, Mv 0, Mv 4, Ia 11 28 29, Fa 1 30, Ld 1 31, Ca 369 [27, 32], Bb .add 22 33, Io (.bin .add (.t 34) (.c (.string ⟨#[32, 62, 32]⟩))), Mv 0, Mv 4, Ia 11 36 37, Fa 7 38, La 4 39, Mv 0, Mv 4, Ia 11 41 42, Fa 6 43, Ld 1 44, Ca 369 [40, 45], Bb .add 35 46, Io (.bin .add (.t 47) (.c (.string ⟨#[10]⟩)))] [Mv 48 3]) [(5, 12), (5, 17), (12, 17), (5, 18), (5, 25), (12, 25), (17, 25), (18, 25), (5, 30), (12, 30), (17, 30), (18, 30), (25, 30), (5, 31)]))
 (.reg (sq 13 [Mv 4, Bk .add 13 1] [Mv 14 4])))))))
 (Rs [Mv 3 49, Mv 49 2]
 .ret)))), lcF []⟩
def ks_ca9 : List (List (Option Nat)) := [[none]]
def gl_ca9_1 (a0 : (List Change)) : List Change → Nat → Str → Option Str
 | [], k66, v64 => some v64
 | x67 :: l68, k66, v64 => (gf_bz9 a0).bind fun x75 => if x75 = true then ((cat v64 x67.id).bind fun x77 => (cat x77 (⟨#[58, 32]⟩ : Str)).bind fun x79 => (gf_cr9 x67.was x67.had).bind fun x81 => (cat x79 x81).bind fun x83 => (cat x83 (⟨#[32, 62, 32]⟩ : Str)).bind fun x85 => (gf_cr9 x67.now x67.has).bind fun x87 => (cat x85 x87).bind fun x89 => (cat x89 (⟨#[10]⟩ : Str)).bind fun x91 => gl_ca9_1 a0 l68 (k66 + 1) x91) else (some v64)
def gf_ca9 (a0 : (List Change)) : Option Str := if fits a0.length = true then ((gl_ca9_1 a0 a0 0 (⟨#[]⟩ : Str)).bind fun q63 => some (q63)) else none
def c_ca9 : Con := ⟨(List Change), Str, 338, fun a => [.ro (List.map (eChange false) a)], fun a => gf_ca9 a, fun a r => ⟨[(false, [.v (.string r)])], []⟩, fun a => []⟩
/-! spec.PackText -/
def if_ce9 : IFn := ⟨55, [.inl 2],
 (Rs [Io (.mv (.c (.string ⟨#[]⟩))) 2]
 (Rs [Io (.mv (.c (.string ⟨#[]⟩))) 3]
 (.seq (Rs [Ki 0 4]
 (blkC 0 (.loop (.seq (Rs (sq 6 [Mv 4, Mv 0, Ln 7, Bb .lss 6 8] [])
 (Ct 9 .skip
 (.exit 0)))
 (.seq (.block 1 (Rs (sq 12 [Mv 3, Mv 4, Ca 337 [13], Bb .add 12 14] [Mv 15 3])
 (.seq (Rs [Ki 0 5]
 (blkC 2 (.loop (.seq (Rs (sq 16 [Mv 5, Mv 0, Mv 4, Ia 3 17 18, Fa 0 19, Ld 1 20, Ln 21, Bb .lss 16 22] [])
 (Ct 23 .skip
 (.exit 2)))
 (.seq (.block 3 (.reg (sq 26 [Mv 3, Io (.bin .add (.t 26) (.c (.string ⟨#[32]⟩))), Mv 0, Mv 4, Ia 3 28 29, Fa 0 30, Ld 1 31, Mv 5, Ia 1 32 33, Ld 1 34, Ca 337 [35], Bb .add 27 36] [Mv 37 3])))
 (.reg (sq 24 [Mv 5, Bk .add 24 1] [Mv 25 5])))))))
 (.drw (sq 38 [Mv 3, Io (.bin .add (.t 38) (.c (.string ⟨#[32]⟩))), Mv 0, Mv 4, Ia 3 40 41, Fa 1 42, Ld 1 43, Bb .add 39 44, Io (.bin .add (.t 45) (.c (.string ⟨#[10]⟩))), Mv 0, Mv 4, Ia 3 47 48, Fa 2 49, Ld 1 50, Ca 338 [51], Bb .add 46 52] [Mv 53 3]) [(6, 13), (6, 14)]))))
 (.reg (sq 10 [Mv 4, Bk .add 10 1] [Mv 11 4])))))))
 (Rs [Mv 3 54, Mv 54 2]
 .ret)))), lcF []⟩
def ks_ce9 : List (List (Option Nat)) := [[none]]
def gl_ce9_5 : List Int → Nat → Str → Option Str
 | [], k237, v235 => some v235
 | x238 :: l239, k237, v235 => (cat v235 (⟨#[32]⟩ : Str)).bind fun x246 => (gf_cj9 rounds x238).bind fun x248 => (cat x246 x248).bind fun x250 => gl_ce9_5 l239 (k237 + 1) x250
def gl_ce9_4 : List Entry → Nat → Str → Option Str
 | [], k195, v193 => some v193
 | x196 :: l197, k195, v193 => (gf_cj9 rounds (k195 : Int)).bind fun x204 => (cat v193 x204).bind fun x206 => if fits x196.up.length = true then ((gl_ce9_5 x196.up 0 x206).bind fun q234 => (cat q234 (⟨#[32]⟩ : Str)).bind fun x253 => (cat x253 x196.note).bind fun x255 => (cat x255 (⟨#[10]⟩ : Str)).bind fun x257 => (gf_ca9 x196.diff).bind fun x259 => (cat x257 x259).bind fun x261 => gl_ce9_4 l197 (k195 + 1) x261) else none
def gf_ce9 (a0 : (List Entry)) : Option Str := if fits a0.length = true then ((gl_ce9_4 a0 0 (⟨#[]⟩ : Str)).bind fun q192 => some (q192)) else none
def c_ce9 : Con := ⟨(List Entry), Str, 260, fun a => [.ro (List.map (eEntry false) a)], fun a => gf_ce9 a, fun a r => ⟨[(false, [.v (.string r)])], []⟩, fun a => []⟩
/-! strconv.Itoa -/

def gf_cs9 (a0 : Int) : Option Str := itoaF a0
def c_cs9 : Con := itoaCon 339/-! (impl.Change).same -/
def if_aa9 : IFn := ⟨15, [.inl 2],
 (Rs (sq 1 [Io (.box 155 [none, none, none, none, some 66, some 82, none, none, none, some 66, some 82] (.t 0)), Kb false] [])
 (Rs (sq 3 [Fa 1 1, Ld 1 3, Fa 6 1, Ld 1 5, Io (.eqs false false [1] (.t 4) (.t 6)), Mv 7] (Sg 8 9 [Fa 2 1, La 4 9, Fa 7 1, La 4 11, Ca 130 [10, 12]] [Pf 8 13 14, Mv 14 2]))
 .ret)), lcF []⟩
def ks_aa9 : List (List (Option Nat)) := [[none]]
def gf_aa9 (a0 : Change) : Option Bool := if (a0.had == a0.has) = true then ((gf_af9 a0.was a0.now).bind fun x2 => some (x2)) else (some (false))
def c_aa9 : Con := ⟨Change, Bool, 350, fun a => [.agg [.v (.string a.id), .v (.bool a.had), .v (.string a.was.id), .v (.int .i64 a.was.shape.kind), .ro (List.map ePt a.was.shape.pts), .ro (List.map eTag a.was.tags), .v (.bool a.has), .v (.string a.now.id), .v (.int .i64 a.now.shape.kind), .ro (List.map ePt a.now.shape.pts), .ro (List.map eTag a.now.tags)]], fun a => gf_aa9 a, fun a r => ⟨[(false, [.v (.bool r)])], []⟩, fun a => []⟩
/-! impl.noFeat -/
def if_am9 : IFn := ⟨25, [.inl 2],
 (Rs (sq 1 [Io (.box 100 [none, none, some 66, some 82] (.t 0)), Kb false] [])
 (Rs (sq 3 [Fa 0 1, Ld 1 3, Io (.bin .eql (.t 4) (.c (.string ⟨#[]⟩))), Mv 5] (Sg 6 7 [Fa 1 1, Fa 0 7, Ld 1 8, Bk .eql 9 0] (sq 11 [Pf 6 10, Mv 11] (Sg 12 13 [Fa 1 1, Fa 1 13, Ld 1 14, Ln 15, Bk .eql 16 0] (sq 18 [Pf 12 17, Mv 18] (Sg 19 20 [Fa 3 1, Ld 1 20, Ln 21, Bk .eql 22 0] [Pf 19 23 24, Mv 24 2]))))))
 .ret)), lcF []⟩
def ks_am9 : List (List (Option Nat)) := [[none]]
def gf_am9 (a0 : Feat) : Option Bool := if (seq a0.id (⟨#[]⟩ : Str)) = true then (if (a0.shape.kind == 0) = true then (if ((a0.shape.pts.length : Int) == 0) = true then (some (((a0.tags.length : Int) == 0))) else (some (false))) else (some (false))) else (some (false))
def c_am9 : Con := ⟨Feat, Bool, 393, fun a => [.agg [.v (.string a.id), .v (.int .i64 a.shape.kind), .ro (List.map ePt a.shape.pts), .ro (List.map eTag a.tags)]], fun a => gf_am9 a, fun a r => ⟨[(false, [.v (.bool r)])], []⟩, fun a => []⟩
/-! impl.sideOk -/
def if_ao9 : IFn := ⟨19, [.inl 6],
 (Rs (sq 5 [Io (.box 100 [none, none, some 66, some 82] (.t 2)), Kb false] [])
 (.seq (Rs (sq 7 [Mv 1, Nt 7] [])
 (Ct 8 (Rs (sq 9 [La 4 5, Ca 393 [9]] [Mv 10 6])
 .ret)
 .skip))
 (Rs (sq 11 [La 4 5, Ca 82 [11], Mv 12] (Sg 13 14 [Fa 0 5, Ld 1 14, Mv 0, Bb .eql 15 16] [Pf 13 17 18, Mv 18 6]))
 .ret))), lcF []⟩
def ks_ao9 : List (List (Option Nat)) := [[none]]
def gf_ao9 (a0 : Str) (a1 : Bool) (a2 : Feat) : Option Bool := if (!a1) = true then ((gf_am9 a2).bind fun x2 => some (x2)) else ((gf_ae9 a2).bind fun x4 => if x4 = true then (some ((seq a2.id a0))) else (some (false)))
def c_ao9 : Con := ⟨Str × Bool × Feat, Bool, 376, fun a => [.v (.string a.1), .v (.bool a.2.1), .agg [.v (.string a.2.2.id), .v (.int .i64 a.2.2.shape.kind), .ro (List.map ePt a.2.2.shape.pts), .ro (List.map eTag a.2.2.tags)]], fun a => gf_ao9 a.1 a.2.1 a.2.2, fun a r => ⟨[(false, [.v (.bool r)])], []⟩, fun a => []⟩
/-! impl.DiffOk -/
def if_ab9 : IFn := ⟨59, [.inl 2],
 (Rs [Kb false 2]
 (.seq (Rs (sq 5 [Mv 0, Ln 5, Ki 0] [])
 (blkC 0 (.loop (Rs [Bb .lss 7 6 8]
 (.seq (Ct 8 .skip
 (.exit 0))
 (.seq (.block 1 (Rs (sq 9 [Mv 7, Ia 11 5 7, La 11 10] [Io (.alloc 155 [.v (.string ⟨#[]⟩), .v (.bool false), .v (.string ⟨#[]⟩), .v (.int .i64 0), .sl true 66 [], .sl true 82 [], .v (.bool false), .v (.string ⟨#[]⟩), .v (.int .i64 0), .sl true 66 [], .sl true 82 []]) 4, Mv 9 3, Sv [none, none, none, none, some 66, some 82, none, none, none, some 66, some 82] 4 11])
 (.seq (.drw (sq 12 [Fa 0 4, Ld 1 12, Ca 80 [13], Nt 14, Mv 15] (Sf 16 17 [Mv 3, Bk .gtr 17 0, Mv 18] (Sg 19 20 [Mv 0, Mv 3, Bk .sub 21 1, Ia 11 20 22, Fa 0 23, Ld 1 24, Fa 0 4, Ld 1 26, Bb .geq 25 27] (Gf 16 (Pf 19 28 29) :: (sq 30 [Pk 16 29, Mv 30] (Sf 31 32 [Fa 0 4, Ld 1 32, Fa 1 4, Ld 1 34, Fa 2 4, La 4 36, Ca 376 [33, 35, 37], Nt 38] (sq 40 [Pk 31 39, Mv 40] (Sf 41 42 [Fa 0 4, Ld 1 42, Fa 6 4, Ld 1 44, Fa 7 4, La 4 46, Ca 376 [43, 45, 47], Nt 48] (sq 50 [Pk 41 49, Mv 50] (Sf 51 52 [La 11 4, Ca 350 [52]] [Pk 51 53 54])))))))))) [(13, 15), (21, 23), (21, 25), (23, 25), (31, 33), (31, 35), (33, 35)])
 (Ct 54 (Rs [Kb false 2]
 .ret)
 .skip))))
 (.reg [Bk .add 7 1 55, Mv 55 7])))))))
 (Rs (sq 56 [Mv 0, Ln 56, Bk .leq 57 16] [Mv 58 2])
 .ret))), lcF []⟩
def ks_ab9 : List (List (Option Nat)) := [[none]]
def gl_ab9_1 (a0 : (List Change)) : List Change → Nat → Option (Bool ⊕ Unit)
 | [], k53 => some (.inr ())
 | x54 :: l55, k53 => (gf_al9 x54.id).bind fun x63 => if (!x63) = true then (some (.inl (false))) else (if (decide ((k53 : Int) > 0)) = true then ((idx a0 (IntKind.i64.wrap ((k53 : Int) - 1))).bind fun x65 => if (!slt x65.id x54.id) = true then (some (.inl (false))) else ((gf_ao9 x54.id x54.had x54.was).bind fun x67 => if (!x67) = true then (some (.inl (false))) else ((gf_ao9 x54.id x54.has x54.now).bind fun x69 => if (!x69) = true then (some (.inl (false))) else ((gf_aa9 x54).bind fun x71 => if x71 = true then (some (.inl (false))) else (gl_ab9_1 a0 l55 (k53 + 1) ))))) else ((gf_ao9 x54.id x54.had x54.was).bind fun x73 => if (!x73) = true then (some (.inl (false))) else ((gf_ao9 x54.id x54.has x54.now).bind fun x75 => if (!x75) = true then (some (.inl (false))) else ((gf_aa9 x54).bind fun x77 => if x77 = true then (some (.inl (false))) else (gl_ab9_1 a0 l55 (k53 + 1) )))))
def gf_ab9 (a0 : (List Change)) : Option Bool := if fits a0.length = true then ((gl_ab9_1 a0 a0 0 ).bind fun q => match q with | .inl r => some r | .inr q51 => some ((decide ((a0.length : Int) ≤ 16)))) else none
def c_ab9 : Con := ⟨(List Change), Bool, 352, fun a => [.ro (List.map (eChange false) a)], fun a => gf_ab9 a, fun a r => ⟨[(false, [.v (.bool r)])], []⟩, fun a => []⟩
/-! (impl.Shape).text -/
def if_ak9 : IFn := ⟨31, [.inl 2],
 (Rs (sq 1 [Io (.box 226 [none, some 66] (.t 0)), Io (.mv (.c (.string ⟨#[]⟩)))] [])
 (Rs (sq 6 [Io (.load 1 false (.g shNames)), Fa 0 1, Ld 1 7, Ia 1 6 8, Ld 1 9] [Mv 10 3])
 (.seq (Rs (sq 11 [Fa 1 1, Ld 1 11, Ln 12, Ki 0] [])
 (blkC 0 (.loop (Rs [Bb .lss 14 13 15]
 (.seq (Ct 15 .skip
 (.exit 0))
 (.seq (.block 1 (Rs (sq 16 [Ia 2 12 14, La 2 16] [Io (.alloc 66 [.v (.int .i64 0), .v (.int .i64 0)]) 5, Sv [none, none] 5 17])
 (.drw (sq 18 [Mv 3, Fa 0 5, Ld 1 19, Ca 339 [20], Io (.bin .add (.c (.string ⟨#[32]⟩)) (.t 21)), Io (.bin .add (.t 22) (.c (.string ⟨#[44]⟩))), Fa 1 5, Ld 1 24, Ca 339 [25], Bb .add 23 26, Bb .add 18 27] [Mv 28 3]) [(2, 7), (3, 7)])))
 (.reg [Bk .add 14 1 29, Mv 29 14])))))))
 (Rs [Mv 3 30, Mv 30 2]
 .ret)))), lcF []⟩
def ks_ak9 : List (List (Option Nat)) := [[none]]
def gl_ak9_1 : List Pt → Nat → Str → Option Str
 | [], k54, v52 => some v52
 | x55 :: l56, k54, v52 => (gf_cs9 x55.x).bind fun x64 => (cat (⟨#[32]⟩ : Str) x64).bind fun x66 => (cat x66 (⟨#[44]⟩ : Str)).bind fun x68 => (gf_cs9 x55.y).bind fun x70 => (cat x68 x70).bind fun x72 => (cat v52 x72).bind fun x74 => gl_ak9_1 l56 (k54 + 1) x74
def gf_ak9 (a0 : Shape) : Option Str := (idx shNames a0.kind).bind fun x2 => if fits a0.pts.length = true then ((gl_ak9_1 a0.pts 0 x2).bind fun q51 => some (q51)) else none
def c_ak9 : Con := ⟨Shape, Str, 392, fun a => [.agg [.v (.int .i64 a.kind), .ro (List.map ePt a.pts)]], fun a => gf_ak9 a, fun a r => ⟨[(false, [.v (.string r)])], []⟩, fun a => []⟩
/-! impl.FeatText -/
def if_ag9 : IFn := ⟨34, [.inl 2],
 (Rs (sq 1 [Io (.box 100 [none, none, some 66, some 82] (.t 0)), Io (.mv (.c (.string ⟨#[]⟩)))] [])
 (.seq (Rs (sq 6 [La 4 1, Ca 82 [6], Nt 7] [])
 (Ct 8 (Rs [Io (.mv (.c (.string ⟨#[]⟩))) 2]
 .ret)
 .skip))
 (.seq (.drw (sq 9 [Fa 0 1, Ld 1 9, Io (.bin .add (.t 10) (.c (.string ⟨#[32]⟩))), Fa 1 1, La 2 12, Ca 392 [13], Bb .add 11 14] [Mv 15 3]) [(1, 4), (1, 5)])
 (.seq (Rs (sq 16 [Fa 3 1, Ld 1 16, Ln 17, Ki 0] [])
 (blkC 0 (.loop (Rs [Bb .lss 19 18 20]
 (.seq (Ct 20 .skip
 (.exit 0))
 (.seq (.block 1 (Rs (sq 21 [Ia 2 17 19, La 2 21] [Io (.alloc 82 [.v (.string ⟨#[]⟩), .v (.string ⟨#[]⟩)]) 5, Sv [none, none] 5 22])
 (.reg (sq 23 [Mv 3, Fa 0 5, Ld 1 24, Io (.bin .add (.c (.string ⟨#[32]⟩)) (.t 25)), Io (.bin .add (.t 26) (.c (.string ⟨#[61]⟩))), Fa 1 5, Ld 1 28, Bb .add 27 29, Bb .add 23 30] [Mv 31 3]))))
 (.reg [Bk .add 19 1 32, Mv 32 19])))))))
 (Rs [Mv 3 33, Mv 33 2]
 .ret))))), lcF []⟩
def ks_ag9 : List (List (Option Nat)) := [[none]]
def gl_ag9_1 : List Tag → Nat → Str → Option Str
 | [], k48, v46 => some v46
 | x49 :: l50, k48, v46 => (cat (⟨#[32]⟩ : Str) x49.key).bind fun x58 => (cat x58 (⟨#[61]⟩ : Str)).bind fun x60 => (cat x60 x49.val).bind fun x62 => (cat v46 x62).bind fun x64 => gl_ag9_1 l50 (k48 + 1) x64
def gf_ag9 (a0 : Feat) : Option Str := (gf_ae9 a0).bind fun x2 => if (!x2) = true then (some ((⟨#[]⟩ : Str))) else ((cat a0.id (⟨#[32]⟩ : Str)).bind fun x4 => (gf_ak9 a0.shape).bind fun x6 => (cat x4 x6).bind fun x8 => if fits a0.tags.length = true then ((gl_ag9_1 a0.tags 0 x8).bind fun q45 => some (q45)) else none)
def c_ag9 : Con := ⟨Feat, Str, 391, fun a => [.agg [.v (.string a.id), .v (.int .i64 a.shape.kind), .ro (List.map ePt a.shape.pts), .ro (List.map eTag a.tags)]], fun a => gf_ag9 a, fun a r => ⟨[(false, [.v (.string r)])], []⟩, fun a => []⟩
/-! impl.DiffText$1 -/
def if_ad9 : IFn := ⟨9, [.inl 4],
 (Rs (sq 3 [Io (.box 100 [none, none, some 66, some 82] (.t 1)), Io (.mv (.c (.string ⟨#[]⟩)))] [])
 (.seq (Rs (sq 5 [Mv 0, Nt 5] [])
 (Ct 6 (Rs [Io (.mv (.c (.string ⟨#[45]⟩))) 4]
 .ret)
 .skip))
 (Rs (sq 7 [La 4 3, Ca 391 [7]] [Mv 8 4])
 .ret))), lcF []⟩
def ks_ad9 : List (List (Option Nat)) := [[none]]
def gf_ad9 (a0 : Bool) (a1 : Feat) : Option Str := if (!a0) = true then (some ((⟨#[45]⟩ : Str))) else ((gf_ag9 a1).bind fun x2 => some (x2))
def c_ad9 : Con := ⟨Bool × Feat, Str, 371, fun a => [.v (.bool a.1), .agg [.v (.string a.2.id), .v (.int .i64 a.2.shape.kind), .ro (List.map ePt a.2.shape.pts), .ro (List.map eTag a.2.tags)]], fun a => gf_ad9 a.1 a.2, fun a r => ⟨[(false, [.v (.string r)])], []⟩, fun a => []⟩
/-! impl.DiffText -/
def if_ac9 : IFn := ⟨39, [.inl 2],
 (Rs [Io (.mv (.c (.string ⟨#[]⟩))) 2]
 (.seq (Rs (sq 7 [Mv 0, Ca 352 [7], Nt 8] [])
 (Ct 9 (Rs [Io (.mv (.c (.string ⟨#[]⟩))) 2]
 .ret)
 .skip))
 (Rs [Io (.mv (.f 371)) 3]
 (Rs [Io (.mv (.c (.string ⟨#[]⟩))) 4]
 (.seq (Rs (sq 10 [Mv 0, Ln 10, Ki 0] [])
 (blkC 0 (.loop (Rs [Bb .lss 12 11 13]
 (.seq (Ct 13 .skip
 (.exit 0))
 (.seq (.block 1 (Rs (sq 14 [Ia 11 10 12, La 11 14] [Io (.alloc 155 [.v (.string ⟨#[]⟩), .v (.bool false), .v (.string ⟨#[]⟩), .v (.int .i64 0), .sl true 66 [], .sl true 82 [], .v (.bool false), .v (.string ⟨#[]⟩), .v (.int .i64 0), .sl true 66 [], .sl true 82 []]) 6, Sv [none, none, none, none, some 66, some 82, none, none, none, some 66, some 82] 6 15])
 (.drw (sq 16 [Mv 4, Fa 0 6, Ld 1 17, Io (.bin .add (.t 18) (.c (.string ⟨#[58, 32]⟩))), Mv 3, Fa 1 6, Ld 1 21, Fa 2 6, La 4 23, Io (.calld (.t 20) [(false, .t 22), (false, .t 24)]), Bb .add 19 25, Io (.bin .add (.t 26) (.c (.string ⟨#[32, 62, 32]⟩))), Mv 3, Fa 6 6, Ld 1 29, Fa 7 6, La 4 31, Io (.calld (.t 28) [(false, .t 30), (false, .t 32)]), Bb .add 27 33, Io (.bin .add (.t 34) (.c (.string ⟨#[10]⟩))), Bb .add 16 35] [Mv 36 4]) [(2, 6), (2, 8), (6, 8), (2, 9), (2, 14), (6, 14), (8, 14), (9, 14), (2, 16), (6, 16), (8, 16), (9, 16), (14, 16), (2, 17)])))
 (.reg [Bk .add 12 1 37, Mv 37 12])))))))
 (Rs [Mv 4 38, Mv 38 2]
 .ret)))))), lcF []⟩
def ks_ac9 : List (List (Option Nat)) := [[none]]
def gl_ad9 : List Change → Nat → Str → Option Str
 | [], k65, v63 => some v63
 | x66 :: l67, k65, v63 => (cat x66.id (⟨#[58, 32]⟩ : Str)).bind fun x75 => (gf_ad9 x66.had x66.was).bind fun x77 => (cat x75 x77).bind fun x79 => (cat x79 (⟨#[32, 62, 32]⟩ : Str)).bind fun x81 => (gf_ad9 x66.has x66.now).bind fun x83 => (cat x81 x83).bind fun x85 => (cat x85 (⟨#[10]⟩ : Str)).bind fun x87 => (cat v63 x87).bind fun x89 => gl_ad9 l67 (k65 + 1) x89
def gf_ac9 (a0 : (List Change)) : Option Str := (gf_ab9 a0).bind fun x1 => if (!x1) = true then (some ((⟨#[]⟩ : Str))) else (if fits a0.length = true then ((gl_ad9 a0 0 (⟨#[]⟩ : Str)).bind fun q62 => some (q62)) else none)
def c_ac9 : Con := ⟨(List Change), Str, 340, fun a => [.ro (List.map (eChange false) a)], fun a => gf_ac9 a, fun a r => ⟨[(false, [.v (.string r)])], []⟩, fun a => []⟩
/-! impl.PackText -/
def if_ah9 : IFn := ⟨44, [.inl 2],
 (Rs [Io (.mv (.c (.string ⟨#[]⟩))) 2]
 (Rs [Io (.mv (.c (.string ⟨#[]⟩))) 3]
 (.seq (Rs (sq 8 [Mv 0, Ln 8, Ki 0] [])
 (blkC 0 (.loop (Rs [Bb .lss 10 9 11]
 (.seq (Ct 11 .skip
 (.exit 0))
 (.seq (.block 1 (Rs (sq 12 [Mv 10, Ia 3 8 10, La 3 13] [Io (.alloc 163 [.sl true 17 [], .v (.string ⟨#[]⟩), .sl true 155 []]) 5, Mv 12 4, Sv [some 17, none, some 155] 5 14])
 (Rs (sq 15 [Mv 3, Mv 4, Ca 339 [16], Bb .add 15 17] [Mv 18 3])
 (.seq (Rs (sq 19 [Fa 0 5, Ld 1 19, Ln 20, Ki 0] [])
 (blkC 2 (.loop (Rs [Bb .lss 22 21 23]
 (.seq (Ct 23 .skip
 (.exit 2))
 (.seq (.block 3 (Rs (sq 24 [Ia 1 20 22, Ld 1 24] [Mv 25 7])
 (.reg (sq 26 [Mv 3, Mv 7, Ca 339 [27], Io (.bin .add (.c (.string ⟨#[32]⟩)) (.t 28)), Bb .add 26 29] [Mv 30 3]))))
 (.reg [Bk .add 22 1 31, Mv 31 22])))))))
 (.drw (sq 32 [Mv 3, Fa 1 5, Ld 1 33, Io (.bin .add (.c (.string ⟨#[32]⟩)) (.t 34)), Io (.bin .add (.t 35) (.c (.string ⟨#[10]⟩))), Fa 2 5, Ld 1 37, Ca 340 [38], Bb .add 36 39, Bb .add 32 40] [Mv 41 3]) [(2, 6), (2, 7)])))))
 (.reg [Bk .add 10 1 42, Mv 42 10])))))))
 (Rs [Mv 3 43, Mv 43 2]
 .ret)))), lcF []⟩
def ks_ah9 : List (List (Option Nat)) := [[none]]
def gl_ah9_5 : List Int → Nat → Str → Option Str
 | [], k235, v233 => some v233
 | x236 :: l237, k235, v233 => (gf_cs9 x236).bind fun x244 => (cat (⟨#[32]⟩ : Str) x244).bind fun x246 => (cat v233 x246).bind fun x248 => gl_ah9_5 l237 (k235 + 1) x248
def gl_ah9_4 : List Entry → Nat → Str → Option Str
 | [], k192, v190 => some v190
 | x193 :: l194, k192, v190 => (gf_cs9 (k192 : Int)).bind fun x202 => (cat v190 x202).bind fun x204 => if fits x193.up.length = true then ((gl_ah9_5 x193.up 0 x204).bind fun q232 => (cat (⟨#[32]⟩ : Str) x193.note).bind fun x251 => (cat x251 (⟨#[10]⟩ : Str)).bind fun x253 => (gf_ac9 x193.diff).bind fun x255 => (cat x253 x255).bind fun x257 => (cat q232 x257).bind fun x259 => gl_ah9_4 l194 (k192 + 1) x259) else none
def gf_ah9 (a0 : (List Entry)) : Option Str := if fits a0.length = true then ((gl_ah9_4 a0 0 (⟨#[]⟩ : Str)).bind fun q189 => some (q189)) else none
def c_ah9 : Con := ⟨(List Entry), Str, 261, fun a => [.ro (List.map (eEntry false) a)], fun a => gf_ah9 a, fun a r => ⟨[(false, [.v (.string r)])], []⟩, fun a => []⟩
/-! laws.FnExactPackText -/
def if_aq9 : IFn := ⟨27, [.inl 2],
 (Rs [Kb false 2]
 (Rs [Ki 1048576 3]
 (Rs (sq 7 [Mv 0, Mv 3, Ca 189 [7, 8]] [Mv 9 3])
 (.seq (Rs (sq 10 [Mv 3, Bk .lss 10 0] [])
 (Ct 11 (Rs [Kb true 2]
 .ret)
 .skip))
 (Rs (sq 12 [Mv 0, Ca 190 [12], Ca 260 [13]] [Mv 14 4])
 (Rs (sq 15 [Mv 0, Ca 190 [15]] [Mv 16 5])
 (Rs (sq 17 [Mv 5, Ca 261 [17]] [Mv 18 6])
 (.seq (Rs (sq 19 [Mv 6, Mv 4, Bb .neq 19 20] [])
 (Ct 21 (Rs [Kb false 2]
 .ret)
 .skip))
 (.seq (Rs (sq 22 [Mv 5, Mv 0, Ca 190 [23], Ca 193 [22, 24], Nt 25] [])
 (Ct 26 (Rs [Kb false 2]
 .ret)
 .skip))
 (Rs [Kb true 2]
 .ret)))))))))), lcF []⟩
def ks_aq9 : List (List (Option Nat)) := [[none]]
def gf_aq9 (a0 : (List Entry)) : Option Bool := (gf_bf9 a0 1048576).bind fun x1 => if (decide (x1 < 0)) = true then (some (true)) else ((gf_bp9 a0).bind fun x3 => (gf_ce9 x3).bind fun x7 => (gf_bp9 a0).bind fun x9 => (gf_ah9 x9).bind fun x13 => if (!seq x13 x7) = true then (some (false)) else ((gf_bp9 a0).bind fun x15 => (gf_au9 x9 x15).bind fun x19 => if (!x19) = true then (some (false)) else (some (true))))
def c_aq9 : Con := ⟨(List Entry), Bool, 259, fun a => [.ro (List.map (eEntry false) a)], fun a => gf_aq9 a, fun a r => ⟨[(false, [.v (.bool r)])], []⟩, fun a => []⟩
end Go.Proofs.AM
