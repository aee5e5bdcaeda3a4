/- Lemmas of the proof (RID), on an abstract machine. Conditions: none. -/
import Derived.Test.YtodmjmkakgamlaaGreatDoorSF
set_option linter.unusedVariables false
set_option maxRecDepth 100000
set_option maxHeartbeats 4000000
namespace Go.Proofs.AM
attribute [local irreducible] vwp vstps vstpLs vstp vdo vret kseq kblk kloop kend kcut kloop2 frzV renV shutK pfzV trnV unrV
/-! spec.l1Num -/
def if_da9 : IFn := ⟨9, [.inl 2],
 (Rs [Kb false 2]
 (Rs (sq 3 [Mv 0, Bk .geq 3 (-1000), Mv 4] (Sg 5 6 [Mv 0, Bk .leq 6 1000] [Pf 5 7 8, Mv 8 2]))
 .ret)), lcF []⟩
def ks_da9 : List (List (Option Nat)) := [[none]]
def gf_da9 (a0 : Int) : Option Bool := if (decide (a0 ≥ (-1000))) = true then (some ((decide (a0 ≤ 1000)))) else (some (false))
def c_da9 : Con := ⟨Int, Bool, 12, fun a => [.v (.int .i64 a)], fun a => gf_da9 a, fun a r => ⟨[(false, [.v (.bool r)])], []⟩, fun a => []⟩
/-! spec.l1Pts -/
def if_dc9 : IFn := ⟨45, [.inl 2],
 (Rs [Kb false 2]
 (.seq (Rs [Ki 0 3]
 (blkC 0 (.loop (.seq (Rs (sq 4 [Mv 3, Mv 0, Ln 5, Bb .lss 4 6] [])
 (Ct 7 .skip
 (.exit 0)))
 (.seq (.block 1 (.seq (.drw (sq 10 [Mv 0, Mv 3, Ia 2 10 11, Fa 0 12, Ld 1 13, Ca 12 [14], Nt 15, Mv 16] (Sf 17 18 [Mv 0, Mv 3, Ia 2 18 19, Fa 1 20, Ld 1 21, Ca 12 [22], Nt 23] (sq 25 [Pk 17 24, Mv 25] (Sf 26 27 [Mv 3, Bk .gtr 27 0, Mv 28] (Sg 29 30 [Mv 0, Mv 3, Ia 2 30 31, La 2 32, Mv 0, Mv 3, Bk .sub 35 1, Ia 2 34 36, La 2 37, Io (.eqs false true [0, 0] (.t 33) (.t 38))] [Gf 26 (Pf 29 39 40), Pk 26 40 41]))))) [(23, 28)])
 (Ct 41 (Rs [Kb false 2]
 .ret)
 .skip)))
 (.reg (sq 8 [Mv 3, Bk .add 8 1] [Mv 9 3])))))))
 (Rs (sq 42 [Mv 0, Ln 42, Bk .leq 43 6] [Mv 44 2])
 .ret))), lcF []⟩
def ks_dc9 : List (List (Option Nat)) := [[none]]
def gl_dc9_1 (a0 : (List Pt)) : List Pt → Nat → Option (Bool ⊕ Unit)
 | [], k26 => some (.inr ())
 | x27 :: l28, k26 => (gf_da9 x27.x).bind fun x35 => if (!x35) = true then (some (.inl (false))) else ((gf_da9 x27.y).bind fun x37 => if (!x37) = true then (some (.inl (false))) else (if (decide ((k26 : Int) > 0)) = true then ((idx a0 (IntKind.i64.wrap ((k26 : Int) - 1))).bind fun x39 => if ((x27.x == x39.x) && ((x27.y == x39.y) && true)) = true then (some (.inl (false))) else (gl_dc9_1 a0 l28 (k26 + 1) )) else (gl_dc9_1 a0 l28 (k26 + 1) )))
def gf_dc9 (a0 : (List Pt)) : Option Bool := if fits a0.length = true then ((gl_dc9_1 a0 a0 0 ).bind fun q => match q with | .inl r => some r | .inr q24 => some ((decide ((a0.length : Int) ≤ 6)))) else none
def c_dc9 : Con := ⟨(List Pt), Bool, 13, fun a => [.ro (List.map ePt a)], fun a => gf_dc9 a, fun a r => ⟨[(false, [.v (.bool r)])], []⟩, fun a => []⟩
/-! spec.WordOk -/
def if_cr9 : IFn := ⟨28, [.inl 2],
 (Rs [Kb false 2]
 (.seq (Rs [Ki 0 3]
 (blkC 0 (.loop (.seq (Rs (sq 4 [Mv 3, Mv 0, Ls 5, Bb .lss 4 6] [])
 (Ct 7 .skip
 (.exit 0)))
 (.seq (.block 1 (Rs (sq 10 [Mv 0, Mv 3, Si 10 11, Io (.bin .lss (.t 12) (.c (.int .u8 97))), Mv 13] (Sf 14 15 [Mv 0, Mv 3, Si 15 16, Io (.bin .gtr (.t 17) (.c (.int .u8 122)))] [Pk 14 18 19]))
 (Ct 19 (Rs [Kb false 2]
 .ret)
 .skip)))
 (.reg (sq 8 [Mv 3, Bk .add 8 1] [Mv 9 3])))))))
 (Rs (sq 20 [Mv 0, Ls 20, Bk .geq 21 1, Mv 22] (Sg 23 24 [Mv 0, Ls 24, Bk .leq 25 6] [Pf 23 26 27, Mv 27 2]))
 .ret))), lcF []⟩
def ks_cr9 : List (List (Option Nat)) := [[none]]
def gl_cr9_1 : List UInt8 → Nat → Option (Bool ⊕ Unit)
 | [], k10 => some (.inr ())
 | x11 :: l12, k10 => if (decide ((x11.toNat : Int) < 97)) = true then (some (.inl (false))) else (if (decide ((x11.toNat : Int) > 122)) = true then (some (.inl (false))) else (gl_cr9_1 l12 (k10 + 1) ))
def gf_cr9 (a0 : Str) : Option Bool := if fits a0.size = true then ((gl_cr9_1 a0.data.toList 0 ).bind fun q => match q with | .inl r => some r | .inr q8 => if (decide ((a0.size : Int) ≥ 1)) = true then (some ((decide ((a0.size : Int) ≤ 6)))) else (some (false))) else none
def c_cr9 : Con := ⟨Str, Bool, 14, fun a => [.v (.string a)], fun a => gf_cr9 a, fun a r => ⟨[(false, [.v (.bool r)])], []⟩, fun a => []⟩
/-! spec.ShapeOk -/
def if_cm9 : IFn := ⟨38, [.inl 2],
 (Rs (sq 1 [Io (.box 226 [none, some 66] (.t 0)), Kb false] [])
 (Rs (sq 4 [Fa 1 1, Ld 1 4, Ln 5] [Mv 6 3])
 (.seq (Rs (sq 7 [Fa 1 1, Ld 1 7, Ca 13 [8], Nt 9] [])
 (Ct 10 (Rs [Kb false 2]
 .ret)
 .skip))
 (.seq (Rs (sq 11 [Fa 0 1, Ld 1 11] [])
 (.block 0 (Rs [Bk .eql 12 1 14, Mv 14 13]
 (Ct 13 (Rs (sq 15 [Mv 3, Bk .eql 15 1] [Mv 16 2])
 .ret)
 (Rs [Bk .eql 12 2 18, Mv 18 17]
 (Ct 17 (Rs (sq 19 [Mv 3, Bk .geq 19 2] [Mv 20 2])
 .ret)
 (Rs [Bk .eql 12 3 22, Mv 22 21]
 (Ct 21 (.seq (.drw (sq 23 [Mv 3, Bk .geq 23 3, Mv 24] (Sg 25 26 [Fa 1 1, Ld 1 26, Ik 2 27 0, La 2 28, Fa 1 1, Ld 1 30, Mv 3, Bk .sub 32 1, Ia 2 31 33, La 2 34, Io (.eqs true true [0, 0] (.t 29) (.t 35))] [Pf 25 36 37, Mv 37 2])) [(4, 8), (6, 8), (4, 12), (6, 12)])
 .ret)
 .skip))))))))
 (Rs [Kb false 2]
 .ret))))), lcF []⟩
def ks_cm9 : List (List (Option Nat)) := [[none]]
def gf_cm9 (a0 : Shape) : Option Bool := (gf_dc9 a0.pts).bind fun x2 => if (!x2) = true then (some (false)) else (if (a0.kind == 1) = true then (some (((a0.pts.length : Int) == 1))) else (if (a0.kind == 2) = true then (some ((decide ((a0.pts.length : Int) ≥ 2)))) else (if (a0.kind == 3) = true then (if (decide ((a0.pts.length : Int) ≥ 3)) = true then ((idx a0.pts 0).bind fun x4 => (idx a0.pts (IntKind.i64.wrap ((a0.pts.length : Int) - 1))).bind fun x6 => some ((!((x4.x == x6.x) && ((x4.y == x6.y) && true))))) else (some (false))) else (some (false)))))
def c_cm9 : Con := ⟨Shape, Bool, 15, fun a => [.agg [.v (.int .i64 a.kind), .ro (List.map ePt a.pts)]], fun a => gf_cm9 a, fun a r => ⟨[(false, [.v (.bool r)])], []⟩, fun a => []⟩
/-! spec.l2Tags -/
def if_dn9 : IFn := ⟨47, [.inl 2],
 (Rs [Kb false 2]
 (.seq (Rs [Ki 0 3]
 (blkC 0 (.loop (.seq (Rs (sq 4 [Mv 3, Mv 0, Ln 5, Bb .lss 4 6] [])
 (Ct 7 .skip
 (.exit 0)))
 (.seq (.block 1 (.seq (.drw (sq 10 [Mv 0, Mv 3, Ia 2 10 11, Fa 0 12, Ld 1 13, Ca 14 [14], Nt 15, Mv 16] (Sf 17 18 [Mv 0, Mv 3, Ia 2 18 19, Fa 1 20, Ld 1 21, Ca 14 [22], Nt 23] (sq 25 [Pk 17 24, Mv 25] (Sf 26 27 [Mv 3, Bk .gtr 27 0, Mv 28] (Sg 29 30 [Mv 0, Mv 3, Ia 2 30 31, Fa 0 32, Ld 1 33, Mv 0, Mv 3, Bk .sub 36 1, Ia 2 35 37, Fa 0 38, Ld 1 39, Bb .leq 34 40] [Gf 26 (Pf 29 41 42), Pk 26 42 43]))))) [(24, 30)])
 (Ct 43 (Rs [Kb false 2]
 .ret)
 .skip)))
 (.reg (sq 8 [Mv 3, Bk .add 8 1] [Mv 9 3])))))))
 (Rs (sq 44 [Mv 0, Ln 44, Bk .leq 45 4] [Mv 46 2])
 .ret))), lcF []⟩
def ks_dn9 : List (List (Option Nat)) := [[none]]
def gl_dn9_1 (a0 : (List Tag)) : List Tag → Nat → Option (Bool ⊕ Unit)
 | [], k26 => some (.inr ())
 | x27 :: l28, k26 => (gf_cr9 x27.key).bind fun x35 => if (!x35) = true then (some (.inl (false))) else ((gf_cr9 x27.val).bind fun x37 => if (!x37) = true then (some (.inl (false))) else (if (decide ((k26 : Int) > 0)) = true then ((idx a0 (IntKind.i64.wrap ((k26 : Int) - 1))).bind fun x39 => if (slt x27.key x39.key || seq x27.key x39.key) = true then (some (.inl (false))) else (gl_dn9_1 a0 l28 (k26 + 1) )) else (gl_dn9_1 a0 l28 (k26 + 1) )))
def gf_dn9 (a0 : (List Tag)) : Option Bool := if fits a0.length = true then ((gl_dn9_1 a0 a0 0 ).bind fun q => match q with | .inl r => some r | .inr q24 => some ((decide ((a0.length : Int) ≤ 4)))) else none
def c_dn9 : Con := ⟨(List Tag), Bool, 16, fun a => [.ro (List.map eTag a)], fun a => gf_dn9 a, fun a r => ⟨[(false, [.v (.bool r)])], []⟩, fun a => []⟩
/-! spec.FeatOk -/
def if_ce9 : IFn := ⟨16, [.inl 2],
 (Rs (sq 1 [Io (.box 100 [none, none, some 66, some 82] (.t 0)), Kb false] [])
 (Rs (sq 3 [Fa 0 1, Ld 1 3, Ca 14 [4], Mv 5] (Sg 6 7 [Fa 1 1, La 2 7, Ca 15 [8]] (sq 10 [Pf 6 9, Mv 10] (Sg 11 12 [Fa 3 1, Ld 1 12, Ca 16 [13]] [Pf 11 14 15, Mv 15 2]))))
 .ret)), lcF []⟩
def ks_ce9 : List (List (Option Nat)) := [[none]]
def gf_ce9 (a0 : Feat) : Option Bool := (gf_cr9 a0.id).bind fun x2 => if x2 = true then ((gf_cm9 a0.shape).bind fun x4 => if x4 = true then ((gf_dn9 a0.tags).bind fun x6 => some (x6)) else (some (false))) else (some (false))
def c_ce9 : Con := ⟨Feat, Bool, 17, fun a => [.agg [.v (.string a.id), .v (.int .i64 a.shape.kind), .ro (List.map ePt a.shape.pts), .ro (List.map eTag a.tags)]], fun a => gf_ce9 a, fun a r => ⟨[(false, [.v (.bool r)])], []⟩, fun a => []⟩
/-! spec.l1Same -/
def if_dd9 : IFn := ⟨26, [.inl 4],
 (Rs [Kb false 4]
 (.seq (Rs (sq 6 [Mv 0, Ln 6, Mv 1, Ln 8, Bb .neq 7 9] [])
 (Ct 10 (Rs [Kb false 4]
 .ret)
 .skip))
 (.seq (Rs [Ki 0 5]
 (blkC 0 (.loop (.seq (Rs (sq 11 [Mv 5, Mv 0, Ln 12, Bb .lss 11 13] [])
 (Ct 14 .skip
 (.exit 0)))
 (.seq (.block 1 (.seq (.drw (sq 17 [Mv 0, Mv 5, Ia 2 17 18, La 2 19, Mv 1, Mv 5, Ia 2 21 22, La 2 23, Io (.eqs true true [0, 0] (.t 20) (.t 24))] []) [(3, 7)])
 (Ct 25 (Rs [Kb false 4]
 .ret)
 .skip)))
 (.reg (sq 15 [Mv 5, Bk .add 15 1] [Mv 16 5])))))))
 (Rs [Kb true 4]
 .ret)))), lcF []⟩
def ks_dd9 : List (List (Option Nat)) := [[none]]
def gl_dd9_1 (a1 : (List Pt)) : List Pt → Nat → Option (Bool ⊕ Unit)
 | [], k16 => some (.inr ())
 | x17 :: l18, k16 => (idx a1 (k16 : Int)).bind fun x25 => if (!((x17.x == x25.x) && ((x17.y == x25.y) && true))) = true then (some (.inl (false))) else (gl_dd9_1 a1 l18 (k16 + 1) )
def gf_dd9 (a0 : (List Pt)) (a1 : (List Pt)) : Option Bool := if ((a0.length : Int) != (a1.length : Int)) = true then (some (false)) else (if fits a0.length = true then ((gl_dd9_1 a1 a0 0 ).bind fun q => match q with | .inl r => some r | .inr q14 => some (true)) else none)
def c_dd9 : Con := ⟨(List Pt) × (List Pt), Bool, 18, fun a => [.ro (List.map ePt a.1), .ro (List.map ePt a.2)], fun a => gf_dd9 a.1 a.2, fun a r => ⟨[(false, [.v (.bool r)])], []⟩, fun a => []⟩
/-! spec.ShapeSame -/
def if_cn9 : IFn := ⟨17, [.inl 4],
 (Rs (sq 2 [Io (.box 226 [none, some 66] (.t 0)), Io (.box 226 [none, some 66] (.t 1)), Kb false] [])
 (Rs (sq 5 [Fa 0 2, Ld 1 5, Fa 0 3, Ld 1 7, Bb .eql 6 8, Mv 9] (Sg 10 11 [Fa 1 2, Ld 1 11, Fa 1 3, Ld 1 13, Ca 18 [12, 14]] [Pf 10 15 16, Mv 16 4]))
 .ret)), lcF []⟩
def ks_cn9 : List (List (Option Nat)) := [[none]]
def gf_cn9 (a0 : Shape) (a1 : Shape) : Option Bool := if (a0.kind == a1.kind) = true then ((gf_dd9 a0.pts a1.pts).bind fun x3 => some (x3)) else (some (false))
def c_cn9 : Con := ⟨Shape × Shape, Bool, 19, fun a => [.agg [.v (.int .i64 a.1.kind), .ro (List.map ePt a.1.pts)], .agg [.v (.int .i64 a.2.kind), .ro (List.map ePt a.2.pts)]], fun a => gf_cn9 a.1 a.2, fun a r => ⟨[(false, [.v (.bool r)])], []⟩, fun a => []⟩
/-! spec.l2Same -/
def if_dm9 : IFn := ⟨26, [.inl 4],
 (Rs [Kb false 4]
 (.seq (Rs (sq 6 [Mv 0, Ln 6, Mv 1, Ln 8, Bb .neq 7 9] [])
 (Ct 10 (Rs [Kb false 4]
 .ret)
 .skip))
 (.seq (Rs [Ki 0 5]
 (blkC 0 (.loop (.seq (Rs (sq 11 [Mv 5, Mv 0, Ln 12, Bb .lss 11 13] [])
 (Ct 14 .skip
 (.exit 0)))
 (.seq (.block 1 (.seq (.drw (sq 17 [Mv 0, Mv 5, Ia 2 17 18, La 2 19, Mv 1, Mv 5, Ia 2 21 22, La 2 23, Io (.eqs true true [2, 2] (.t 20) (.t 24))] []) [(3, 7)])
 (Ct 25 (Rs [Kb false 4]
 .ret)
 .skip)))
 (.reg (sq 15 [Mv 5, Bk .add 15 1] [Mv 16 5])))))))
 (Rs [Kb true 4]
 .ret)))), lcF []⟩
def ks_dm9 : List (List (Option Nat)) := [[none]]
def gl_dm9_1 (a1 : (List Tag)) : List Tag → Nat → Option (Bool ⊕ Unit)
 | [], k16 => some (.inr ())
 | x17 :: l18, k16 => (idx a1 (k16 : Int)).bind fun x25 => if (!((x17.key == x25.key) && ((x17.val == x25.val) && true))) = true then (some (.inl (false))) else (gl_dm9_1 a1 l18 (k16 + 1) )
def gf_dm9 (a0 : (List Tag)) (a1 : (List Tag)) : Option Bool := if ((a0.length : Int) != (a1.length : Int)) = true then (some (false)) else (if fits a0.length = true then ((gl_dm9_1 a1 a0 0 ).bind fun q => match q with | .inl r => some r | .inr q14 => some (true)) else none)
def c_dm9 : Con := ⟨(List Tag) × (List Tag), Bool, 20, fun a => [.ro (List.map eTag a.1), .ro (List.map eTag a.2)], fun a => gf_dm9 a.1 a.2, fun a r => ⟨[(false, [.v (.bool r)])], []⟩, fun a => []⟩
/-! spec.FeatSame -/
def if_cf9 : IFn := ⟨24, [.inl 4],
 (Rs (sq 2 [Io (.box 100 [none, none, some 66, some 82] (.t 0)), Io (.box 100 [none, none, some 66, some 82] (.t 1)), Kb false] [])
 (Rs (sq 5 [Fa 0 2, Ld 1 5, Fa 0 3, Ld 1 7, Bb .eql 6 8, Mv 9] (Sg 10 11 [Fa 1 2, La 2 11, Fa 1 3, La 2 13, Ca 19 [12, 14]] (sq 16 [Pf 10 15, Mv 16] (Sg 17 18 [Fa 3 2, Ld 1 18, Fa 3 3, Ld 1 20, Ca 20 [19, 21]] [Pf 17 22 23, Mv 23 4]))))
 .ret)), lcF []⟩
def ks_cf9 : List (List (Option Nat)) := [[none]]
def gf_cf9 (a0 : Feat) (a1 : Feat) : Option Bool := if (seq a0.id a1.id) = true then ((gf_cn9 a0.shape a1.shape).bind fun x3 => if x3 = true then ((gf_dm9 a0.tags a1.tags).bind fun x5 => some (x5)) else (some (false))) else (some (false))
def c_cf9 : Con := ⟨Feat × Feat, Bool, 21, fun a => [.agg [.v (.string a.1.id), .v (.int .i64 a.1.shape.kind), .ro (List.map ePt a.1.shape.pts), .ro (List.map eTag a.1.tags)], .agg [.v (.string a.2.id), .v (.int .i64 a.2.shape.kind), .ro (List.map ePt a.2.shape.pts), .ro (List.map eTag a.2.tags)]], fun a => gf_cf9 a.1 a.2, fun a r => ⟨[(false, [.v (.bool r)])], []⟩, fun a => []⟩
/-! spec.l7Ints -/
def if_ek9 : IFn := ⟨26, [.inl 4],
 (Rs [Kb false 4]
 (.seq (Rs (sq 6 [Mv 0, Ln 6, Mv 1, Ln 8, Bb .neq 7 9] [])
 (Ct 10 (Rs [Kb false 4]
 .ret)
 .skip))
 (.seq (Rs [Ki 0 5]
 (blkC 0 (.loop (.seq (Rs (sq 11 [Mv 5, Mv 0, Ln 12, Bb .lss 11 13] [])
 (Ct 14 .skip
 (.exit 0)))
 (.seq (.block 1 (.seq (.drw (sq 17 [Mv 0, Mv 5, Ia 1 17 18, Ld 1 19, Mv 1, Mv 5, Ia 1 21 22, Ld 1 23, Bb .neq 20 24] []) [(3, 7)])
 (Ct 25 (Rs [Kb false 4]
 .ret)
 .skip)))
 (.reg (sq 15 [Mv 5, Bk .add 15 1] [Mv 16 5])))))))
 (Rs [Kb true 4]
 .ret)))), lcF []⟩
def ks_ek9 : List (List (Option Nat)) := [[none]]
def gl_ek9_1 (a1 : (List Int)) : List Int → Nat → Option (Bool ⊕ Unit)
 | [], k16 => some (.inr ())
 | x17 :: l18, k16 => (idx a1 (k16 : Int)).bind fun x25 => if (x17 != x25) = true then (some (.inl (false))) else (gl_ek9_1 a1 l18 (k16 + 1) )
def gf_ek9 (a0 : (List Int)) (a1 : (List Int)) : Option Bool := if ((a0.length : Int) != (a1.length : Int)) = true then (some (false)) else (if fits a0.length = true then ((gl_ek9_1 a1 a0 0 ).bind fun q => match q with | .inl r => some r | .inr q14 => some (true)) else none)
def c_ek9 : Con := ⟨(List Int) × (List Int), Bool, 22, fun a => [.ro (List.map eInt a.1), .ro (List.map eInt a.2)], fun a => gf_ek9 a.1 a.2, fun a r => ⟨[(false, [.v (.bool r)])], []⟩, fun a => []⟩
/-! spec.SheetSame -/
def if_cq9 : IFn := ⟨27, [.inl 4],
 (Rs [Kb false 4]
 (.seq (Rs (sq 6 [Mv 0, Ln 6, Mv 1, Ln 8, Bb .neq 7 9] [])
 (Ct 10 (Rs [Kb false 4]
 .ret)
 .skip))
 (.seq (Rs [Ki 0 5]
 (blkC 0 (.loop (.seq (Rs (sq 11 [Mv 5, Mv 0, Ln 12, Bb .lss 11 13] [])
 (Ct 14 .skip
 (.exit 0)))
 (.seq (.block 1 (.seq (.drw (sq 17 [Mv 0, Mv 5, Ia 4 17 18, La 4 19, Mv 1, Mv 5, Ia 4 21 22, La 4 23, Ca 21 [20, 24], Nt 25] []) [(3, 7)])
 (Ct 26 (Rs [Kb false 4]
 .ret)
 .skip)))
 (.reg (sq 15 [Mv 5, Bk .add 15 1] [Mv 16 5])))))))
 (Rs [Kb true 4]
 .ret)))), lcF []⟩
def ks_cq9 : List (List (Option Nat)) := [[none]]
def gl_cq9_1 (a1 : (List Feat)) : List Feat → Nat → Option (Bool ⊕ Unit)
 | [], k22 => some (.inr ())
 | x23 :: l24, k22 => (idx a1 (k22 : Int)).bind fun x31 => (gf_cf9 x23 x31).bind fun x33 => if (!x33) = true then (some (.inl (false))) else (gl_cq9_1 a1 l24 (k22 + 1) )
def gf_cq9 (a0 : (List Feat)) (a1 : (List Feat)) : Option Bool := if ((a0.length : Int) != (a1.length : Int)) = true then (some (false)) else (if fits a0.length = true then ((gl_cq9_1 a1 a0 0 ).bind fun q => match q with | .inl r => some r | .inr q20 => some (true)) else none)
def c_cq9 : Con := ⟨(List Feat) × (List Feat), Bool, 23, fun a => [.ro (List.map (eFeat false) a.1), .ro (List.map (eFeat false) a.2)], fun a => gf_cq9 a.1 a.2, fun a r => ⟨[(false, [.v (.bool r)])], []⟩, fun a => []⟩
/-! spec.l7Same -/
def if_ep9 : IFn := ⟨24, [.inl 4],
 (Rs (sq 2 [Io (.box 115 [some 17, some 100, none] (.t 0)), Io (.box 115 [some 17, some 100, none] (.t 1)), Kb false] [])
 (Rs (sq 5 [Fa 0 2, Ld 1 5, Fa 0 3, Ld 1 7, Ca 22 [6, 8], Mv 9] (Sg 10 11 [Fa 1 2, Ld 1 11, Fa 1 3, Ld 1 13, Ca 23 [12, 14]] (sq 16 [Pf 10 15, Mv 16] (Sg 17 18 [Fa 2 2, Ld 1 18, Fa 2 3, Ld 1 20, Bb .eql 19 21] [Pf 17 22 23, Mv 23 4]))))
 .ret)), lcF []⟩
def ks_ep9 : List (List (Option Nat)) := [[none]]
def gf_ep9 (a0 : Commit) (a1 : Commit) : Option Bool := (gf_ek9 a0.up a1.up).bind fun x3 => if x3 = true then ((gf_cq9 a0.sheet a1.sheet).bind fun x5 => if x5 = true then (some ((seq a0.note a1.note))) else (some (false))) else (some (false))
def c_ep9 : Con := ⟨Commit × Commit, Bool, 24, fun a => [.agg [.ro (List.map eInt a.1.up), .ro (List.map (eFeat false) a.1.sheet), .v (.string a.1.note)], .agg [.ro (List.map eInt a.2.up), .ro (List.map (eFeat false) a.2.sheet), .v (.string a.2.note)]], fun a => gf_ep9 a.1 a.2, fun a r => ⟨[(false, [.v (.bool r)])], []⟩, fun a => []⟩
/-! spec.l7Up -/
def if_eq9 : IFn := ⟨50, [.inl 4],
 (Rs [Kb false 4]
 (.seq (Rs [Ki 0 5]
 (blkC 0 (.loop (.seq (Rs (sq 6 [Mv 5, Mv 0, Ln 7, Bb .lss 6 8] [])
 (Ct 9 .skip
 (.exit 0)))
 (.seq (.block 1 (Rs (sq 12 [Mv 0, Mv 5, Ia 1 12 13, Ld 1 14, Bk .lss 15 0, Mv 16] (Sf 17 18 [Mv 0, Mv 5, Ia 1 18 19, Ld 1 20, Mv 1, Bb .geq 21 22] [Pk 17 23 24]))
 (Ct 24 (Rs [Kb false 4]
 .ret)
 .skip)))
 (.reg (sq 10 [Mv 5, Bk .add 10 1] [Mv 11 5])))))))
 (.seq (.drw (sq 25 [Mv 0, Ln 25, Bk .leq 26 2, Mv 27] (Sg 28 29 [Mv 0, Ln 29, Bk .gtr 30 0, Mv 1, Bk .gtr 32 0, Io (.eqs false false [1] (.t 31) (.t 33))] (sq 35 [Pf 28 34, Mv 35] (Sg 36 37 [Mv 0, Ln 37, Bk .lss 38 2, Mv 39] (Sf 40 41 [Mv 0, Ik 1 41 0, Ld 1 42, Mv 0, Ik 1 44 1, Ld 1 45, Bb .neq 43 46] [Gt 36 (Pk 40 47 48), Pf 36 48 49, Mv 49 4]))))) [(18, 21)])
 .ret))), lcF []⟩
def ks_eq9 : List (List (Option Nat)) := [[none]]
def gl_eq9_1 (a1 : Int) : List Int → Nat → Option (Bool ⊕ Unit)
 | [], k10 => some (.inr ())
 | x11 :: l12, k10 => if (decide (x11 < 0)) = true then (some (.inl (false))) else (if (decide (x11 ≥ a1)) = true then (some (.inl (false))) else (gl_eq9_1 a1 l12 (k10 + 1) ))
def gf_eq9 (a0 : (List Int)) (a1 : Int) : Option Bool := if fits a0.length = true then ((gl_eq9_1 a1 a0 0 ).bind fun q => match q with | .inl r => some r | .inr q8 => if (decide ((a0.length : Int) ≤ 2)) = true then (if ((decide ((a0.length : Int) > 0)) == (decide (a1 > 0))) = true then (if (decide ((a0.length : Int) < 2)) = true then (some (true)) else ((idx a0 0).bind fun x19 => (idx a0 1).bind fun x21 => some ((x19 != x21)))) else (some (false))) else (some (false))) else none
def c_eq9 : Con := ⟨(List Int) × Int, Bool, 25, fun a => [.ro (List.map eInt a.1), .v (.int .i64 a.2)], fun a => gf_eq9 a.1 a.2, fun a r => ⟨[(false, [.v (.bool r)])], []⟩, fun a => []⟩
/-! spec.SheetOk -/
def if_cp9 : IFn := ⟨37, [.inl 2],
 (Rs [Kb false 2]
 (.seq (Rs [Ki 0 3]
 (blkC 0 (.loop (.seq (Rs (sq 4 [Mv 3, Mv 0, Ln 5, Bb .lss 4 6] [])
 (Ct 7 .skip
 (.exit 0)))
 (.seq (.block 1 (.seq (.drw (sq 10 [Mv 0, Mv 3, Ia 4 10 11, La 4 12, Ca 17 [13], Nt 14, Mv 15] (Sf 16 17 [Mv 3, Bk .gtr 17 0, Mv 18] (Sg 19 20 [Mv 0, Mv 3, Ia 4 20 21, Fa 0 22, Ld 1 23, Mv 0, Mv 3, Bk .sub 26 1, Ia 4 25 27, Fa 0 28, Ld 1 29, Bb .leq 24 30] [Gf 16 (Pf 19 31 32), Pk 16 32 33]))) [(14, 20)])
 (Ct 33 (Rs [Kb false 2]
 .ret)
 .skip)))
 (.reg (sq 8 [Mv 3, Bk .add 8 1] [Mv 9 3])))))))
 (Rs (sq 34 [Mv 0, Ln 34, Bk .leq 35 8] [Mv 36 2])
 .ret))), lcF []⟩
def ks_cp9 : List (List (Option Nat)) := [[none]]
def gl_cp9_1 (a0 : (List Feat)) : List Feat → Nat → Option (Bool ⊕ Unit)
 | [], k20 => some (.inr ())
 | x21 :: l22, k20 => (gf_ce9 x21).bind fun x29 => if (!x29) = true then (some (.inl (false))) else (if (decide ((k20 : Int) > 0)) = true then ((idx a0 (IntKind.i64.wrap ((k20 : Int) - 1))).bind fun x31 => if (slt x21.id x31.id || seq x21.id x31.id) = true then (some (.inl (false))) else (gl_cp9_1 a0 l22 (k20 + 1) )) else (gl_cp9_1 a0 l22 (k20 + 1) ))
def gf_cp9 (a0 : (List Feat)) : Option Bool := if fits a0.length = true then ((gl_cp9_1 a0 a0 0 ).bind fun q => match q with | .inl r => some r | .inr q18 => some ((decide ((a0.length : Int) ≤ 8)))) else none
def c_cp9 : Con := ⟨(List Feat), Bool, 26, fun a => [.ro (List.map (eFeat false) a)], fun a => gf_cp9 a, fun a r => ⟨[(false, [.v (.bool r)])], []⟩, fun a => []⟩
/-! spec.l7Find -/
def if_eh9 : IFn := ⟨21, [.inl 4],
 (Rs (sq 2 [Io (.box 210 [some 115, some 130] (.t 0)), Io (.box 115 [some 17, some 100, none] (.t 1)), Ki 0] [])
 (.seq (Rs [Ki 0 5]
 (blkC 0 (.loop (.seq (Rs (sq 6 [Mv 5, Fa 0 2, Ld 1 7, Ln 8, Bb .lss 6 9] [])
 (Ct 10 .skip
 (.exit 0)))
 (.seq (.block 1 (.seq (.drw (sq 13 [Fa 0 2, Ld 1 13, Mv 5, Ia 3 14 15, La 3 16, La 3 3, Ca 24 [17, 18]] []) [(1, 5), (4, 5)])
 (Ct 19 (Rs [Mv 5 20, Mv 20 4]
 .ret)
 .skip)))
 (.reg (sq 11 [Mv 5, Bk .add 11 1] [Mv 12 5])))))))
 (Rs [Ki (-1) 4]
 .ret))), lcF []⟩
def ks_eh9 : List (List (Option Nat)) := [[none]]
def gl_eh9_1 (a1 : Commit) : List Commit → Nat → Option (Int ⊕ Unit)
 | [], k18 => some (.inr ())
 | x19 :: l20, k18 => (gf_ep9 x19 a1).bind fun x27 => if x27 = true then (some (.inl ((k18 : Int)))) else (gl_eh9_1 a1 l20 (k18 + 1) )
def gf_eh9 (a0 : Repo) (a1 : Commit) : Option Int := if fits a0.commits.length = true then ((gl_eh9_1 a1 a0.commits 0 ).bind fun q => match q with | .inl r => some r | .inr q16 => some ((-1))) else none
def c_eh9 : Con := ⟨Repo × Commit, Int, 27, fun a => [.agg [.ro (List.map (eCommit false) a.1.commits), .ro (List.map eHead a.1.heads)], .agg [.ro (List.map eInt a.2.up), .ro (List.map (eFeat false) a.2.sheet), .v (.string a.2.note)]], fun a => gf_eh9 a.1 a.2, fun a r => ⟨[(false, [.v (.int .i64 r)])], []⟩, fun a => []⟩
/-! spec.l7Head -/
def if_ej9 : IFn := ⟨22, [.inl 4],
 (Rs [Io (.box 210 [some 115, some 130] (.t 0)) 2, Ki 0 4]
 (.seq (Rs [Ki 0 5]
 (blkC 0 (.loop (.seq (Rs (sq 6 [Mv 5, Fa 1 2, Ld 1 7, Ln 8, Bb .lss 6 9] [])
 (Ct 10 .skip
 (.exit 0)))
 (.seq (.block 1 (Rs (sq 13 [Fa 1 2, Ld 1 13, Mv 5, Ia 2 14 15, Fa 0 16, Ld 1 17, Mv 1, Bb .eql 18 19] [])
 (Ct 20 (Rs [Mv 5 21, Mv 21 4]
 .ret)
 .skip)))
 (.reg (sq 11 [Mv 5, Bk .add 11 1] [Mv 12 5])))))))
 (Rs [Ki (-1) 4]
 .ret))), lcF []⟩
def ks_ej9 : List (List (Option Nat)) := [[none]]
def gl_ej9_1 (a1 : Str) : List Head → Nat → Option (Int ⊕ Unit)
 | [], k11 => some (.inr ())
 | x12 :: l13, k11 => if (seq x12.name a1) = true then (some (.inl ((k11 : Int)))) else (gl_ej9_1 a1 l13 (k11 + 1) )
def gf_ej9 (a0 : Repo) (a1 : Str) : Option Int := if fits a0.heads.length = true then ((gl_ej9_1 a1 a0.heads 0 ).bind fun q => match q with | .inl r => some r | .inr q9 => some ((-1))) else none
def c_ej9 : Con := ⟨Repo × Str, Int, 28, fun a => [.agg [.ro (List.map (eCommit false) a.1.commits), .ro (List.map eHead a.1.heads)], .v (.string a.2)], fun a => gf_ej9 a.1 a.2, fun a r => ⟨[(false, [.v (.int .i64 r)])], []⟩, fun a => []⟩
/-! spec.l1Copy -/
def if_cy9 : IFn := ⟨10, [.inr (2, 2)],
 (Rs (sq 1 [Io (.box 226 [none, some 66] (.t 0)), Io (.alloc 226 [.v (.int .i64 0), .sl true 66 []])] [])
 (.seq (.drw (sq 3 [Fa 0 1, Ld 1 3, Io (.lit 66 [none, none] [.v (.int .i64 0), .v (.int .i64 0)] 0 []), Fa 1 1, Ld 1 6, Io (.app 66 false (.t 5) (.t 7)), Io (.build [.v (.int .i64 0), .nil] [(0, 1, .t 4), (1, 1, .t 8)])] [Sv [none, some 66] 2 9]) [(1, 2), (1, 4), (2, 4), (1, 5)])
 .ret)), lcF []⟩
def ks_cy9 : List (List (Option Nat)) := [[none, some 66]]
def gf_cy9 (a0 : Shape) : Option Shape := if fits ([] ++ a0.pts).length = true then some ((⟨a0.kind, ([] ++ a0.pts)⟩ : Shape)) else none
def c_cy9 : Con := ⟨Shape, Shape, 29, fun a => [.agg [.v (.int .i64 a.kind), .ro (List.map ePt a.pts)]], fun a => gf_cy9 a, fun a r => ⟨[(true, eShape true r)], []⟩, fun a => []⟩
/-! spec.l2Copy -/
def if_dh9 : IFn := ⟨13, [.inr (2, 4)],
 (Rs (sq 1 [Io (.box 100 [none, none, some 66, some 82] (.t 0)), Io (.alloc 100 [.v (.string ⟨#[]⟩), .v (.int .i64 0), .sl true 66 [], .sl true 82 []])] [])
 (.seq (.drw (sq 3 [Fa 0 1, Ld 1 3, Fa 1 1, La 2 5, Ca 29 [6], Io (.lit 82 [none, none] [.v (.string ⟨#[]⟩), .v (.string ⟨#[]⟩)] 0 []), Fa 3 1, Ld 1 9, Io (.app 82 false (.t 8) (.t 10)), Io (.build [.v (.string ⟨#[]⟩), .v (.int .i64 0), .nil, .nil] [(0, 1, .t 4), (1, 2, .t 7), (3, 1, .t 11)])] [Sv [none, none, some 66, some 82] 2 12]) [(1, 3), (1, 4), (1, 5), (3, 5), (4, 5), (1, 7), (3, 7), (4, 7), (5, 7), (1, 8)])
 .ret)), lcF []⟩
def ks_dh9 : List (List (Option Nat)) := [[none, none, some 66, some 82]]
def gf_dh9 (a0 : Feat) : Option Feat := (gf_cy9 a0.shape).bind fun x3 => if fits ([] ++ a0.tags).length = true then some ((⟨a0.id, x3, ([] ++ a0.tags)⟩ : Feat)) else none
def c_dh9 : Con := ⟨Feat, Feat, 30, fun a => [.agg [.v (.string a.id), .v (.int .i64 a.shape.kind), .ro (List.map ePt a.shape.pts), .ro (List.map eTag a.tags)]], fun a => gf_dh9 a, fun a r => ⟨[(true, eFeat true r)], []⟩, fun a => []⟩
/-! spec.l3Copy -/
def if_dq9 : IFn := ⟨21, [.inl 2],
 (Rs [Io (.mv (.c (.slice none 0 0))) 2]
 (Rs [Io (.lit 100 [none, none, some 66, some 82] [.v (.string ⟨#[]⟩), .v (.int .i64 0), .sl true 66 [], .sl true 82 []] 0 []) 5, Mv 5 3]
 (.seq (Rs [Ki 0 4]
 (blkC 0 (.loop (.seq (Rs (sq 6 [Mv 4, Mv 0, Ln 7, Bb .lss 6 8] [])
 (Ct 9 .skip
 (.exit 0)))
 (.seq (.block 1 (.reg (sq 12 [Mv 3, Mv 0, Mv 4, Ia 4 13 14, La 4 15, Ca 30 [16], Io (.lit 100 [none, none, some 66, some 82] [.v (.string ⟨#[]⟩), .v (.int .i64 0), .sl true 66 [], .sl true 82 []] 1 [(0, .t 17)]), Io (.app 100 true (.t 12) (.t 18))] [Mv 19 3])))
 (.reg (sq 10 [Mv 4, Bk .add 10 1] [Mv 11 4])))))))
 (Rs [Mv 3 20, Mv 20 2]
 .ret)))), lcF []⟩
def ks_dq9 : List (List (Option Nat)) := [[some 100]]
def gl_dq9_1 : List Feat → Nat → (List Feat) → Option (List Feat)
 | [], k47, v44 => some v44
 | x48 :: l49, k47, v44 => (gf_dh9 x48).bind fun x56 => if fits (v44 ++ ([x56] : (List Feat))).length = true then gl_dq9_1 l49 (k47 + 1) (v44 ++ ([x56] : (List Feat))) else none
def gf_dq9 (a0 : (List Feat)) : Option (List Feat) := if fits a0.length = true then ((gl_dq9_1 a0 0 []).bind fun q42 => some (q42)) else none
def c_dq9 : Con := ⟨(List Feat), (List Feat), 31, fun a => [.ro (List.map (eFeat false) a)], fun a => gf_dq9 a, fun a r => ⟨[(false, [sl true 100 (List.map (eFeat true) r)])], []⟩, fun a => []⟩
/-! spec.l7One -/
def if_en9 : IFn := ⟨13, [.inr (2, 3)],
 (Rs (sq 1 [Io (.box 115 [some 17, some 100, none] (.t 0)), Io (.alloc 115 [.sl true 17 [], .sl true 100 [], .v (.string ⟨#[]⟩)])] [])
 (.seq (.drw (sq 3 [Io (.lit 17 [none] [.v (.int .i64 0)] 0 []), Fa 0 1, Ld 1 4, Io (.app 17 false (.t 3) (.t 5)), Fa 1 1, Ld 1 7, Ca 31 [8], Fa 2 1, Ld 1 10, Io (.build [.nil, .nil, .v (.string ⟨#[]⟩)] [(0, 1, .t 6), (1, 1, .t 9), (2, 1, .t 11)])] [Sv [some 17, some 100, none] 2 12]) [(0, 2), (0, 5), (2, 5), (3, 5), (0, 8), (2, 8), (3, 8), (5, 8), (6, 8)])
 .ret)), lcF []⟩
def ks_en9 : List (List (Option Nat)) := [[some 17, some 100, none]]
def gf_en9 (a0 : Commit) : Option Commit := if fits ([] ++ a0.up).length = true then (gf_dq9 a0.sheet).bind fun x7 => some ((⟨([] ++ a0.up), x7, a0.note⟩ : Commit)) else none
def c_en9 : Con := ⟨Commit, Commit, 32, fun a => [.agg [.ro (List.map eInt a.up), .ro (List.map (eFeat false) a.sheet), .v (.string a.note)]], fun a => gf_en9 a, fun a r => ⟨[(true, eCommit true r)], []⟩, fun a => []⟩
/-! spec.RepoOk -/
def if_cl9 : IFn := ⟨102, [.inl 2],
 (Rs (sq 1 [Io (.box 210 [some 115, some 130] (.t 0)), Kb false] [])
 (.seq (Rs (sq 7 [Fa 0 1, Ld 1 7, Ln 8, Bk .lss 9 1, Mv 10] (Sf 11 12 [Fa 0 1, Ld 1 12, Ln 13, Bk .gtr 14 14] (sq 16 [Pk 11 15, Mv 16] (Sf 17 18 [Fa 1 1, Ld 1 18, Ln 19, Bk .lss 20 1] (sq 22 [Pk 17 21, Mv 22] (Sf 23 24 [Fa 1 1, Ld 1 24, Ln 25, Bk .gtr 26 4] [Pk 23 27 28]))))))
 (Ct 28 (Rs [Kb false 2]
 .ret)
 .skip))
 (.seq (Rs [Ki 0 3]
 (blkC 0 (.loop (.seq (Rs (sq 29 [Mv 3, Fa 0 1, Ld 1 30, Ln 31, Bb .lss 29 32] [])
 (Ct 33 .skip
 (.exit 0)))
 (.seq (.block 1 (Rs (sq 36 [Fa 0 1, Ld 1 36, Mv 3, Ia 3 37 38, La 3 39] [Io (.alloc 115 [.sl true 17 [], .sl true 100 [], .v (.string ⟨#[]⟩)]) 4, Sv [some 17, some 100, none] 4 40])
 (Rs (sq 41 [Fa 0 4, Ld 1 41, Mv 3, Ca 25 [42, 43], Nt 44, Mv 45] (Sf 46 47 [Fa 1 4, Ld 1 47, Ca 26 [48], Nt 49] (sq 51 [Pk 46 50, Mv 51] (Sf 52 53 [Fa 2 4, Ld 1 53, Ca 14 [54], Nt 55] (sq 57 [Pk 52 56, Mv 57] (Sf 58 59 [La 2 1, La 3 4, Ca 27 [59, 60], Mv 3, Bb .neq 61 62] [Pk 58 63 64]))))))
 (Ct 64 (Rs [Kb false 2]
 .ret)
 .skip))))
 (.reg (sq 34 [Mv 3, Bk .add 34 1] [Mv 35 3])))))))
 (.seq (Rs [Ki 0 5]
 (blkC 2 (.loop (.seq (Rs (sq 65 [Mv 5, Fa 1 1, Ld 1 66, Ln 67, Bb .lss 65 68] [])
 (Ct 69 .skip
 (.exit 2)))
 (.seq (.block 3 (Rs (sq 72 [Fa 1 1, Ld 1 72, Mv 5, Ia 2 73 74, La 2 75] [Io (.alloc 130 [.v (.string ⟨#[]⟩), .v (.int .i64 0)]) 6, Sv [none, none] 6 76])
 (Rs (sq 77 [Fa 0 6, Ld 1 77, Ca 14 [78], Nt 79, Mv 80] (Sf 81 82 [La 2 1, Fa 0 6, Ld 1 83, Ca 28 [82, 84], Mv 5, Bb .neq 85 86] (sq 88 [Pk 81 87, Mv 88] (Sf 89 90 [Fa 1 6, Ld 1 90, Bk .lss 91 0] (sq 93 [Pk 89 92, Mv 93] (Sf 94 95 [Fa 1 6, Ld 1 95, Fa 0 1, Ld 1 97, Ln 98, Bb .geq 96 99] [Pk 94 100 101]))))))
 (Ct 101 (Rs [Kb false 2]
 .ret)
 .skip))))
 (.reg (sq 70 [Mv 5, Bk .add 70 1] [Mv 71 5])))))))
 (Rs [Kb true 2]
 .ret))))), lcF []⟩
def ks_cl9 : List (List (Option Nat)) := [[none]]
def gl_cl9_1 (a0 : Repo) : List Commit → Nat → Option (Bool ⊕ Unit)
 | [], k38 => some (.inr ())
 | x39 :: l40, k38 => (gf_eq9 x39.up (k38 : Int)).bind fun x48 => if (!x48) = true then (some (.inl (false))) else ((gf_cp9 x39.sheet).bind fun x50 => if (!x50) = true then (some (.inl (false))) else ((gf_cr9 x39.note).bind fun x52 => if (!x52) = true then (some (.inl (false))) else ((gf_eh9 a0 x39).bind fun x54 => if (x54 != (k38 : Int)) = true then (some (.inl (false))) else (gl_cl9_1 a0 l40 (k38 + 1) ))))
def gl_cl9_2 (a0 : Repo) : List Head → Nat → Option (Bool ⊕ Unit)
 | [], k80 => some (.inr ())
 | x81 :: l82, k80 => (gf_cr9 x81.name).bind fun x90 => if (!x90) = true then (some (.inl (false))) else ((gf_ej9 a0 x81.name).bind fun x92 => if (x92 != (k80 : Int)) = true then (some (.inl (false))) else (if (decide (x81.at_ < 0)) = true then (some (.inl (false))) else (if (decide (x81.at_ ≥ (a0.commits.length : Int))) = true then (some (.inl (false))) else (gl_cl9_2 a0 l82 (k80 + 1) ))))
def gf_cl9 (a0 : Repo) : Option Bool := if (decide ((a0.commits.length : Int) < 1)) = true then (some (false)) else (if (decide ((a0.commits.length : Int) > 14)) = true then (some (false)) else (if (decide ((a0.heads.length : Int) < 1)) = true then (some (false)) else (if (decide ((a0.heads.length : Int) > 4)) = true then (some (false)) else (if fits a0.commits.length = true then ((gl_cl9_1 a0 a0.commits 0 ).bind fun q => match q with | .inl r => some r | .inr q36 => if fits a0.heads.length = true then ((gl_cl9_2 a0 a0.heads 0 ).bind fun q => match q with | .inl r => some r | .inr q78 => some (true)) else none) else none))))
def c_cl9 : Con := ⟨Repo, Bool, 33, fun a => [.agg [.ro (List.map (eCommit false) a.commits), .ro (List.map eHead a.heads)]], fun a => gf_cl9 a, fun a r => ⟨[(false, [.v (.bool r)])], []⟩, fun a => []⟩
/-! spec.l3Put -/
def if_dt9 : IFn := ⟨53, [.inl 4],
 (Rs (sq 3 [Io (.box 100 [none, none, some 66, some 82] (.t 1)), Io (.mv (.c (.slice none 0 0)))] [])
 (Rs [Io (.lit 100 [none, none, some 66, some 82] [.v (.string ⟨#[]⟩), .v (.int .i64 0), .sl true 66 [], .sl true 82 []] 0 []) 8, Mv 8 5]
 (Rs [Kb false 6]
 (.seq (Rs [Ki 0 7]
 (blkC 0 (.loop (.seq (Rs (sq 9 [Mv 7, Mv 0, Ln 10, Bb .lss 9 11] [])
 (Ct 12 .skip
 (.exit 0)))
 (.seq (.block 1 (seqC (.seq (.drw (sq 15 [Mv 6, Nt 15, Mv 16] (Sg 17 18 [Mv 0, Mv 7, Ia 4 18 19, Fa 0 20, Ld 1 21, Fa 0 3, Ld 1 23, Bb .geq 22 24] [Pf 17 25 26])) [(7, 9)])
 (Ct 26 (Rs (sq 27 [Mv 5, La 4 3, Io (.lit 100 [none, none, some 66, some 82] [.v (.string ⟨#[]⟩), .v (.int .i64 0), .sl true 66 [], .sl true 82 []] 1 [(0, .t 28)]), Io (.app 100 true (.t 27) (.t 29))] [Mv 30 5])
 (.reg [Kb true 6]))
 .skip))
 (.seq (.drw (sq 31 [Mv 0, Mv 7, Ia 4 31 32, Fa 0 33, Ld 1 34, Fa 0 3, Ld 1 36, Bb .neq 35 37] []) [(4, 6)])
 (Ct 38 (.reg (sq 39 [Mv 5, Mv 0, Mv 7, Ia 4 40 41, La 4 42, Io (.lit 100 [none, none, some 66, some 82] [.v (.string ⟨#[]⟩), .v (.int .i64 0), .sl true 66 [], .sl true 82 []] 1 [(0, .t 43)]), Io (.app 100 true (.t 39) (.t 44))] [Mv 45 5]))
 .skip))))
 (.reg (sq 13 [Mv 7, Bk .add 13 1] [Mv 14 7])))))))
 (.seq (Rs (sq 46 [Mv 6, Nt 46] [])
 (Ct 47 (.reg (sq 48 [Mv 5, La 4 3, Io (.lit 100 [none, none, some 66, some 82] [.v (.string ⟨#[]⟩), .v (.int .i64 0), .sl true 66 [], .sl true 82 []] 1 [(0, .t 49)]), Io (.app 100 true (.t 48) (.t 50))] [Mv 51 5]))
 .skip))
 (Rs [Mv 5 52, Mv 52 4]
 .ret)))))), lcF []⟩
def ks_dt9 : List (List (Option Nat)) := [[some 100]]
def gl_dt9_1 (a1 : Feat) : List Feat → Nat → Bool → (List Feat) → Option (Bool × (List Feat))
 | [], k87, v82, v84 => some (v82, v84)
 | x88 :: l89, k87, v82, v84 => ((if (!v82) = true then (if (!slt x88.id a1.id) = true then (if fits (v84 ++ ([a1] : (List Feat))).length = true then some (true, (v84 ++ ([a1] : (List Feat)))) else none) else (some (v82, v84))) else (some (v82, v84)) : Option (Bool × (List Feat)))).bind fun q100 => if (!seq x88.id a1.id) = true then (if fits (q100.2 ++ ([x88] : (List Feat))).length = true then gl_dt9_1 a1 l89 (k87 + 1) q100.1 (q100.2 ++ ([x88] : (List Feat))) else none) else (gl_dt9_1 a1 l89 (k87 + 1) q100.1 q100.2)
def gf_dt9 (a0 : (List Feat)) (a1 : Feat) : Option (List Feat) := if fits a0.length = true then ((gl_dt9_1 a1 a0 0 false []).bind fun q81 => if (!q81.1) = true then (if fits (q81.2 ++ ([a1] : (List Feat))).length = true then some ((q81.2 ++ ([a1] : (List Feat)))) else none) else (some (q81.2))) else none
def c_dt9 : Con := ⟨(List Feat) × Feat, (List Feat), 37, fun a => [.ro (List.map (eFeat false) a.1), .agg [.v (.string a.2.id), .v (.int .i64 a.2.shape.kind), .ro (List.map ePt a.2.shape.pts), .ro (List.map eTag a.2.tags)]], fun a => gf_dt9 a.1 a.2, fun a r => ⟨[(false, [sl true 100 (List.map (eFeat false) r)])], []⟩, fun a => []⟩
/-! spec.l4Ids -/
def if_dy9 : IFn := ⟨38, [.inl 4],
 (Rs [Io (.mv (.c (.slice none 0 0))) 4]
 (Rs [Mv 0 9, Mv 9 5]
 (.seq (Rs [Ki 0 6]
 (blkC 0 (.loop (.seq (Rs (sq 10 [Mv 6, Mv 1, Ln 11, Bb .lss 10 12] [])
 (Ct 13 .skip
 (.exit 0)))
 (.seq (.block 1 (.reg (sq 16 [Mv 5, Mv 1, Mv 6, Ia 4 17 18, La 4 19, Io (.frz (.call 37 [(false, .t 16), (false, .t 20)]))] [Mv 21 5])))
 (.reg (sq 14 [Mv 6, Bk .add 14 1] [Mv 15 6])))))))
 (Rs [Io (.lit 49 [none] [.v (.string ⟨#[]⟩)] 0 []) 22, Mv 22 7]
 (.seq (Rs [Ki 0 8]
 (blkC 2 (.loop (.seq (Rs (sq 23 [Mv 8, Mv 5, Ln 24, Bb .lss 23 25] [])
 (Ct 26 .skip
 (.exit 2)))
 (.seq (.block 3 (.reg (sq 29 [Mv 7, Mv 5, Mv 8, Ia 4 30 31, Fa 0 32, Ld 1 33, Io (.lit 49 [none] [.v (.string ⟨#[]⟩)] 1 [(0, .t 34)]), Io (.app 49 true (.t 29) (.t 35))] [Mv 36 7])))
 (.reg (sq 27 [Mv 8, Bk .add 27 1] [Mv 28 8])))))))
 (Rs [Mv 7 37, Mv 37 4]
 .ret)))))), lcF []⟩
def ks_dy9 : List (List (Option Nat)) := [[some 49]]
def gl_dy9_1 : List Feat → Nat → (List Feat) → Option (List Feat)
 | [], k24, v22 => some v22
 | x25 :: l26, k24, v22 => (gf_dt9 v22 x25).bind fun x33 => gl_dy9_1 l26 (k24 + 1) x33
def gl_dy9_2 : List Feat → Nat → (List Str) → Option (List Str)
 | [], k66, v63 => some v63
 | x67 :: l68, k66, v63 => if fits (v63 ++ ([x67.id] : (List Str))).length = true then gl_dy9_2 l68 (k66 + 1) (v63 ++ ([x67.id] : (List Str))) else none
def gf_dy9 (a0 : (List Feat)) (a1 : (List Feat)) : Option (List Str) := if fits a1.length = true then ((gl_dy9_1 a1 0 a0).bind fun q21 => if fits q21.length = true then ((gl_dy9_2 q21 0 []).bind fun q61 => some (q61)) else none) else none
def c_dy9 : Con := ⟨(List Feat) × (List Feat), (List Str), 38, fun a => [.ro (List.map (eFeat false) a.1), .ro (List.map (eFeat false) a.2)], fun a => gf_dy9 a.1 a.2, fun a r => ⟨[(false, [sl true 49 (List.map eStr r)])], []⟩, fun a => []⟩
/-! spec.l3Find -/
def if_ds9 : IFn := ⟨20, [.inl 4],
 (Rs [Ki 0 4]
 (.seq (Rs [Ki 0 5]
 (blkC 0 (.loop (.seq (Rs (sq 6 [Mv 5, Mv 0, Ln 7, Bb .lss 6 8] [])
 (Ct 9 .skip
 (.exit 0)))
 (.seq (.block 1 (Rs (sq 12 [Mv 0, Mv 5, Ia 4 12 13, Fa 0 14, Ld 1 15, Mv 1, Bb .eql 16 17] [])
 (Ct 18 (Rs [Mv 5 19, Mv 19 4]
 .ret)
 .skip)))
 (.reg (sq 10 [Mv 5, Bk .add 10 1] [Mv 11 5])))))))
 (Rs [Ki (-1) 4]
 .ret))), lcF []⟩
def ks_ds9 : List (List (Option Nat)) := [[none]]
def gl_ds9_1 (a1 : Str) : List Feat → Nat → Option (Int ⊕ Unit)
 | [], k10 => some (.inr ())
 | x11 :: l12, k10 => if (seq x11.id a1) = true then (some (.inl ((k10 : Int)))) else (gl_ds9_1 a1 l12 (k10 + 1) )
def gf_ds9 (a0 : (List Feat)) (a1 : Str) : Option Int := if fits a0.length = true then ((gl_ds9_1 a1 a0 0 ).bind fun q => match q with | .inl r => some r | .inr q8 => some ((-1))) else none
def c_ds9 : Con := ⟨(List Feat) × Str, Int, 39, fun a => [.ro (List.map (eFeat false) a.1), .v (.string a.2)], fun a => gf_ds9 a.1 a.2, fun a r => ⟨[(false, [.v (.int .i64 r)])], []⟩, fun a => []⟩
/-! spec.l2Put -/
def if_dl9 : IFn := ⟨57, [.inl 6],
 (Rs [Io (.mv (.c (.slice none 0 0))) 6]
 (Rs [Io (.lit 82 [none, none] [.v (.string ⟨#[]⟩), .v (.string ⟨#[]⟩)] 0 []) 10, Mv 10 7]
 (Rs [Kb false 8]
 (.seq (Rs [Ki 0 9]
 (blkC 0 (.loop (.seq (Rs (sq 11 [Mv 9, Mv 0, Ln 12, Bb .lss 11 13] [])
 (Ct 14 .skip
 (.exit 0)))
 (.seq (.block 1 (seqC (Rs (sq 17 [Mv 8, Nt 17, Mv 18] (Sg 19 20 [Mv 0, Mv 9, Ia 2 20 21, Fa 0 22, Ld 1 23, Mv 1, Bb .geq 24 25] [Pf 19 26 27]))
 (Ct 27 (Rs (sq 28 [Mv 7, Mv 1, Mv 2, Io (.build [.v (.string ⟨#[]⟩), .v (.string ⟨#[]⟩)] [(0, 1, .t 29), (1, 1, .t 30)]), Io (.lit 82 [none, none] [.v (.string ⟨#[]⟩), .v (.string ⟨#[]⟩)] 1 [(0, .t 31)]), Io (.app 82 true (.t 28) (.t 32))] [Mv 33 7])
 (.reg [Kb true 8]))
 .skip))
 (Rs (sq 34 [Mv 0, Mv 9, Ia 2 34 35, Fa 0 36, Ld 1 37, Mv 1, Bb .neq 38 39] [])
 (Ct 40 (.reg (sq 41 [Mv 7, Mv 0, Mv 9, Ia 2 42 43, La 2 44, Io (.lit 82 [none, none] [.v (.string ⟨#[]⟩), .v (.string ⟨#[]⟩)] 1 [(0, .t 45)]), Io (.app 82 true (.t 41) (.t 46))] [Mv 47 7]))
 .skip))))
 (.reg (sq 15 [Mv 9, Bk .add 15 1] [Mv 16 9])))))))
 (.seq (Rs (sq 48 [Mv 8, Nt 48] [])
 (Ct 49 (.reg (sq 50 [Mv 7, Mv 1, Mv 2, Io (.build [.v (.string ⟨#[]⟩), .v (.string ⟨#[]⟩)] [(0, 1, .t 51), (1, 1, .t 52)]), Io (.lit 82 [none, none] [.v (.string ⟨#[]⟩), .v (.string ⟨#[]⟩)] 1 [(0, .t 53)]), Io (.app 82 true (.t 50) (.t 54))] [Mv 55 7]))
 .skip))
 (Rs [Mv 7 56, Mv 56 6]
 .ret)))))), lcF []⟩
def ks_dl9 : List (List (Option Nat)) := [[some 82]]
def gl_dl9_1 (a1 : Str) (a2 : Str) : List Tag → Nat → Bool → (List Tag) → Option (Bool × (List Tag))
 | [], k84, v79, v81 => some (v79, v81)
 | x85 :: l86, k84, v79, v81 => ((if (!v79) = true then (if (!slt x85.key a1) = true then (if fits (v81 ++ ([(⟨a1, a2⟩ : Tag)] : (List Tag))).length = true then some (true, (v81 ++ ([(⟨a1, a2⟩ : Tag)] : (List Tag)))) else none) else (some (v79, v81))) else (some (v79, v81)) : Option (Bool × (List Tag)))).bind fun q97 => if (!seq x85.key a1) = true then (if fits (q97.2 ++ ([x85] : (List Tag))).length = true then gl_dl9_1 a1 a2 l86 (k84 + 1) q97.1 (q97.2 ++ ([x85] : (List Tag))) else none) else (gl_dl9_1 a1 a2 l86 (k84 + 1) q97.1 q97.2)
def gf_dl9 (a0 : (List Tag)) (a1 : Str) (a2 : Str) : Option (List Tag) := if fits a0.length = true then ((gl_dl9_1 a1 a2 a0 0 false []).bind fun q78 => if (!q78.1) = true then (if fits (q78.2 ++ ([(⟨a1, a2⟩ : Tag)] : (List Tag))).length = true then some ((q78.2 ++ ([(⟨a1, a2⟩ : Tag)] : (List Tag)))) else none) else (some (q78.2))) else none
def c_dl9 : Con := ⟨(List Tag) × Str × Str, (List Tag), 47, fun a => [.ro (List.map eTag a.1), .v (.string a.2.1), .v (.string a.2.2)], fun a => gf_dl9 a.1 a.2.1 a.2.2, fun a r => ⟨[(false, [sl true 82 (List.map eTag r)])], []⟩, fun a => []⟩
/-! spec.l4Side -/
def if_ec9 : IFn := ⟨18, [.inr (4, 4), .inl 5],
 (Rs (sq 4 [Io (.alloc 100 [.v (.string ⟨#[]⟩), .v (.int .i64 0), .sl true 66 [], .sl true 82 []]), Kb false] [])
 (Rs (sq 7 [Mv 0, Mv 1, Ca 39 [7, 8]] [Mv 9 6])
 (.seq (Rs (sq 10 [Mv 6, Bk .lss 10 0] [])
 (Ct 11 (Rs [Io (.build [.v (.string ⟨#[]⟩), .v (.int .i64 0), .nil, .nil] []) 12, Sv [none, none, some 66, some 82] 4 12, Kb false 5]
 .ret)
 .skip))
 (Rs (sq 13 [Mv 0, Mv 6, Ia 4 13 14, La 4 15, Ca 30 [16]] [Sv [none, none, some 66, some 82] 4 17, Kb true 5])
 .ret)))), lcF []⟩
def ks_ec9 : List (List (Option Nat)) := [[none, none, some 66, some 82], [none]]
def gf_ec9 (a0 : (List Feat)) (a1 : Str) : Option (Feat × Bool) := (gf_ds9 a0 a1).bind fun x2 => if (decide (x2 < 0)) = true then (some ((⟨(⟨#[]⟩ : Str), ⟨0, []⟩, []⟩ : Feat), false)) else ((idx a0 x2).bind fun x4 => (gf_dh9 x4).bind fun x6 => some (x6, true))
def c_ec9 : Con := ⟨(List Feat) × Str, (Feat × Bool), 52, fun a => [.ro (List.map (eFeat false) a.1), .v (.string a.2)], fun a => gf_ec9 a.1 a.2, fun a r => ⟨[(true, eFeat true r.1), (false, [.v (.bool r.2)])], []⟩, fun a => []⟩
/-! spec.l7Add -/
def if_ee9 : IFn := ⟨30, [.inr (6, 2)],
 (Rs (Io (.box 210 [some 115, some 130] (.t 0)) 3 :: (sq 5 [Io (.box 115 [some 17, some 100, none] (.t 2)), Io (.alloc 210 [.sl true 115 [], .sl true 130 []])] []))
 (Rs (sq 8 [La 2 3, La 3 5, Ca 27 [8, 9]] [Mv 10 7])
 (.seq (Rs (sq 11 [Mv 7, Bk .lss 11 0] [])
 (Ct 12 (Rs (sq 13 [Fa 0 3, Ld 1 13, Ln 14] [Mv 15 7])
 (.drw (sq 16 [Fa 0 3, Ld 1 16, La 3 5, Ca 32 [18], Io (.lit 115 [some 17, some 100, none] [.sl true 17 [], .sl true 100 [], .v (.string ⟨#[]⟩)] 1 [(0, .t 19)]), Io (.app 115 true (.t 17) (.t 20)), Fa 0 3] [Sv [some 115] 22 21]) [(1, 2), (1, 3), (1, 4)]))
 .skip))
 (Rs (sq 23 [Fa 1 3, Ld 1 23, Mv 1, Mv 7, Ia 2 24 25, Fa 1 27] [Sv [none] 28 26])
 (Rs [La 2 3 29, Sv [some 115, some 130] 6 29]
 .ret))))), lcF []⟩
def ks_ee9 : List (List (Option Nat)) := [[some 115, some 130]]
def gf_ee9 (a0 : Repo) (a1 : Int) (a2 : Commit) : Option Repo := (gf_eh9 a0 a2).bind fun x4 => if (decide (x4 < 0)) = true then ((gf_en9 a2).bind fun x6 => if fits (a0.commits ++ ([x6] : (List Commit))).length = true then (idx a0.heads a1).bind fun x16 => some ((⟨(a0.commits ++ ([x6] : (List Commit))), (List.set a0.heads a1.toNat (⟨x16.name, (a0.commits.length : Int)⟩ : Head))⟩ : Repo)) else none) else ((idx a0.heads a1).bind fun x18 => some ((⟨a0.commits, (List.set a0.heads a1.toNat (⟨x18.name, x4⟩ : Head))⟩ : Repo)))
def c_ee9 : Con := ⟨Repo × Int × Commit, Repo, 60, fun a => [.agg [.io 0 a.1.commits.length 115, .io 1 a.1.heads.length 130], .v (.int .i64 a.2.1), .agg [.ro (List.map eInt a.2.2.up), .ro (List.map (eFeat false) a.2.2.sheet), .v (.string a.2.2.note)]], fun a => gf_ee9 a.1 a.2.1 a.2.2, fun a r => ⟨[(true, eRepo true r)], [none, none]⟩, fun a => [(false, 115, List.map (eCommit true) a.1.commits), (false, 130, List.map eHead a.1.heads)]⟩
/-! spec.l7Copy -/
def if_eg9 : IFn := ⟨29, [.inr (2, 2)],
 (Rs (sq 1 [Io (.box 210 [some 115, some 130] (.t 0)), Io (.alloc 210 [.sl true 115 [], .sl true 130 []])] [])
 (Rs (sq 5 [Io (.lit 130 [none, none] [.v (.string ⟨#[]⟩), .v (.int .i64 0)] 0 []), Fa 1 1, Ld 1 6, Io (.app 130 false (.t 5) (.t 7)), Io (.build [.nil, .nil] [(1, 1, .t 8)])] [Io (.alloc 210 [.sl true 115 [], .sl true 130 []]) 3, Sv [some 115, some 130] 3 9])
 (.seq (Rs [Ki 0 4]
 (blkC 0 (.loop (.seq (Rs (sq 10 [Mv 4, Fa 0 1, Ld 1 11, Ln 12, Bb .lss 10 13] [])
 (Ct 14 .skip
 (.exit 0)))
 (.seq (.block 1 (.drw (sq 17 [Fa 0 3, Ld 1 17, Fa 0 1, Ld 1 19, Mv 4, Ia 3 20 21, La 3 22, Ca 32 [23], Io (.lit 115 [some 17, some 100, none] [.sl true 17 [], .sl true 100 [], .v (.string ⟨#[]⟩)] 1 [(0, .t 24)]), Io (.app 115 true (.t 18) (.t 25)), Fa 0 3] [Sv [some 115] 27 26]) [(1, 3), (1, 6), (1, 7), (1, 8)]))
 (.reg (sq 15 [Mv 4, Bk .add 15 1] [Mv 16 4])))))))
 (Rs [La 2 3 28, Sv [some 115, some 130] 2 28]
 .ret)))), lcF []⟩
def ks_eg9 : List (List (Option Nat)) := [[some 115, some 130]]
def gl_eg9_1 : List Commit → Nat → (List Commit) → Option (List Commit)
 | [], k55, v51 => some v51
 | x56 :: l57, k55, v51 => (gf_en9 x56).bind fun x64 => if fits (v51 ++ ([x64] : (List Commit))).length = true then gl_eg9_1 l57 (k55 + 1) (v51 ++ ([x64] : (List Commit))) else none
def gf_eg9 (a0 : Repo) : Option Repo := if fits ([] ++ a0.heads).length = true then if fits a0.commits.length = true then ((gl_eg9_1 a0.commits 0 []).bind fun q49 => some ((⟨q49, ([] ++ a0.heads)⟩ : Repo))) else none else none
def c_eg9 : Con := ⟨Repo, Repo, 61, fun a => [.agg [.ro (List.map (eCommit false) a.commits), .ro (List.map eHead a.heads)]], fun a => gf_eg9 a, fun a r => ⟨[(true, eRepo true r)], []⟩, fun a => []⟩
/-! impl.within -/
def if_bh9 : IFn := ⟨15, [.inl 6],
 (Rs [Kb false 6]
 (Rs (sq 7 [Mv 0, Mv 1, Bb .geq 7 8, Mv 9] (Sg 10 11 [Mv 0, Mv 2, Bb .leq 11 12] [Pf 10 13 14, Mv 14 6]))
 .ret)), lcF []⟩
def ks_bh9 : List (List (Option Nat)) := [[none]]
def gf_bh9 (a0 : Int) (a1 : Int) (a2 : Int) : Option Bool := if (decide (a0 ≥ a1)) = true then (some ((decide (a0 ≤ a2)))) else (some (false))
def c_bh9 : Con := ⟨Int × Int × Int, Bool, 76, fun a => [.v (.int .i64 a.1), .v (.int .i64 a.2.1), .v (.int .i64 a.2.2)], fun a => gf_bh9 a.1 a.2.1 a.2.2, fun a r => ⟨[(false, [.v (.bool r)])], []⟩, fun a => []⟩
/-! impl.ptOk -/
def if_bd9 : IFn := ⟨11, [.inl 2],
 (Rs (sq 1 [Io (.box 66 [none, none] (.t 0)), Kb false] [])
 (Rs (sq 3 [Fa 0 1, Ld 1 3, Io (.call 76 [(false, .t 4), (false, .c (.int .i64 (-1000))), (false, .c (.int .i64 1000))]), Mv 5] (Sg 6 7 [Fa 1 1, Ld 1 7, Io (.call 76 [(false, .t 8), (false, .c (.int .i64 (-1000))), (false, .c (.int .i64 1000))])] [Pf 6 9 10, Mv 10 2]))
 .ret)), lcF []⟩
def ks_bd9 : List (List (Option Nat)) := [[none]]
def gf_bd9 (a0 : Pt) : Option Bool := (gf_bh9 a0.x (-1000) 1000).bind fun x2 => if x2 = true then ((gf_bh9 a0.y (-1000) 1000).bind fun x4 => some (x4)) else (some (false))
def c_bd9 : Con := ⟨Pt, Bool, 79, fun a => [.agg [.v (.int .i64 a.x), .v (.int .i64 a.y)]], fun a => gf_bd9 a, fun a r => ⟨[(false, [.v (.bool r)])], []⟩, fun a => []⟩
/-! impl.WordOk -/
def if_aw9 : IFn := ⟨23, [.inl 2],
 (Rs [Kb false 2]
 (.seq (Rs (sq 4 [Mv 0, Ls 4, Ki 0] [])
 (blkC 0 (.loop (Rs [Bb .lss 6 5 7]
 (.seq (Ct 7 .skip
 (.exit 0))
 (.seq (.block 1 (Rs [Mv 6 8, Mv 8 3]
 (Rs (sq 9 [Mv 0, Mv 3, Si 9 10, Io (.bin .lss (.t 11) (.c (.int .u8 97))), Mv 12] (Sf 13 14 [Mv 0, Mv 3, Si 14 15, Io (.bin .gtr (.t 16) (.c (.int .u8 122)))] [Pk 13 17 18]))
 (Ct 18 (Rs [Kb false 2]
 .ret)
 .skip))))
 (.reg [Bk .add 6 1 19, Mv 19 6])))))))
 (Rs (sq 20 [Mv 0, Ls 20, Io (.call 76 [(false, .t 21), (false, .c (.int .i64 1)), (false, .c (.int .i64 6))])] [Mv 22 2])
 .ret))), lcF []⟩
def ks_aw9 : List (List (Option Nat)) := [[none]]
def gl_aw9_1 : List UInt8 → Nat → Option (Bool ⊕ Unit)
 | [], k10 => some (.inr ())
 | x11 :: l12, k10 => if (decide ((x11.toNat : Int) < 97)) = true then (some (.inl (false))) else (if (decide ((x11.toNat : Int) > 122)) = true then (some (.inl (false))) else (gl_aw9_1 l12 (k10 + 1) ))
def gf_aw9 (a0 : Str) : Option Bool := if fits a0.size = true then ((gl_aw9_1 a0.data.toList 0 ).bind fun q => match q with | .inl r => some r | .inr q8 => (gf_bh9 (a0.size : Int) 1 6).bind fun x19 => some (x19)) else none
def c_aw9 : Con := ⟨Str, Bool, 80, fun a => [.v (.string a)], fun a => gf_aw9 a, fun a r => ⟨[(false, [.v (.bool r)])], []⟩, fun a => []⟩
/-! impl.ShapeOk -/
def if_ar9 : IFn := ⟨62, [.inl 2],
 (Rs (sq 1 [Io (.box 226 [none, some 66] (.t 0)), Kb false] [])
 (.seq (Rs (sq 6 [Fa 1 1, Ld 1 6, Ln 7, Ki 0] [])
 (blkC 0 (.loop (Rs [Bb .lss 9 8 10]
 (.seq (Ct 10 .skip
 (.exit 0))
 (.seq (.block 1 (Rs (sq 11 [Mv 9, Ia 2 7 9, La 2 12] [Io (.alloc 66 [.v (.int .i64 0), .v (.int .i64 0)]) 4, Mv 11 3, Sv [none, none] 4 13])
 (.seq (.drw (sq 14 [La 2 4, Ca 79 [14], Nt 15, Mv 16] (Sf 17 18 [Mv 3, Bk .gtr 18 0, Mv 19] (Sg 20 21 [Fa 1 1, Ld 1 21, Mv 3, Bk .sub 23 1, Ia 2 22 24, La 2 25, La 2 4, Io (.eqs false true [0, 0] (.t 26) (.t 27))] [Gf 17 (Pf 20 28 29), Pk 17 29 30]))) [(8, 13), (12, 13)])
 (Ct 30 (Rs [Kb false 2]
 .ret)
 .skip))))
 (.reg [Bk .add 9 1 31, Mv 31 9])))))))
 (Rs (sq 32 [Fa 1 1, Ld 1 32, Ln 33] [Mv 34 5])
 (.seq (Rs (sq 35 [Fa 0 1, Ld 1 35] [])
 (.block 2 (Rs [Bk .eql 36 1 38, Mv 38 37]
 (Ct 37 (Rs (sq 39 [Mv 5, Bk .eql 39 1] [Mv 40 2])
 .ret)
 (Rs [Bk .eql 36 2 42, Mv 42 41]
 (Ct 41 (Rs (sq 43 [Mv 5, Io (.call 76 [(false, .t 43), (false, .c (.int .i64 2)), (false, .c (.int .i64 6))])] [Mv 44 2])
 .ret)
 (Rs [Bk .eql 36 3 46, Mv 46 45]
 (Ct 45 (.seq (.drw (sq 47 [Mv 5, Io (.call 76 [(false, .t 47), (false, .c (.int .i64 3)), (false, .c (.int .i64 6))]), Mv 48] (Sg 49 50 [Fa 1 1, Ld 1 50, Ik 2 51 0, La 2 52, Fa 1 1, Ld 1 54, Mv 5, Bk .sub 56 1, Ia 2 55 57, La 2 58, Io (.eqs true true [0, 0] (.t 53) (.t 59))] [Pf 49 60 61, Mv 61 2])) [(4, 8), (6, 8), (4, 12), (6, 12)])
 .ret)
 .skip))))))))
 (Rs [Kb false 2]
 .ret))))), lcF []⟩
def ks_ar9 : List (List (Option Nat)) := [[none]]
def gl_ar9_1 (a0 : Shape) : List Pt → Nat → Option (Bool ⊕ Unit)
 | [], k24 => some (.inr ())
 | x25 :: l26, k24 => (gf_bd9 x25).bind fun x34 => if (!x34) = true then (some (.inl (false))) else (if (decide ((k24 : Int) > 0)) = true then ((idx a0.pts (IntKind.i64.wrap ((k24 : Int) - 1))).bind fun x36 => if ((x36.x == x25.x) && ((x36.y == x25.y) && true)) = true then (some (.inl (false))) else (gl_ar9_1 a0 l26 (k24 + 1) )) else (gl_ar9_1 a0 l26 (k24 + 1) ))
def gf_ar9 (a0 : Shape) : Option Bool := if fits a0.pts.length = true then ((gl_ar9_1 a0 a0.pts 0 ).bind fun q => match q with | .inl r => some r | .inr q22 => if (a0.kind == 1) = true then (some (((a0.pts.length : Int) == 1))) else (if (a0.kind == 2) = true then ((gf_bh9 (a0.pts.length : Int) 2 6).bind fun x38 => some (x38)) else (if (a0.kind == 3) = true then ((gf_bh9 (a0.pts.length : Int) 3 6).bind fun x40 => if x40 = true then ((idx a0.pts 0).bind fun x42 => (idx a0.pts (IntKind.i64.wrap ((a0.pts.length : Int) - 1))).bind fun x44 => some ((!((x42.x == x44.x) && ((x42.y == x44.y) && true))))) else (some (false))) else (some (false))))) else none
def c_ar9 : Con := ⟨Shape, Bool, 81, fun a => [.agg [.v (.int .i64 a.kind), .ro (List.map ePt a.pts)]], fun a => gf_ar9 a, fun a r => ⟨[(false, [.v (.bool r)])], []⟩, fun a => []⟩
/-! impl.FeatOk -/
def if_af9 : IFn := ⟨54, [.inl 2],
 (Rs (sq 1 [Io (.box 100 [none, none, some 66, some 82] (.t 0)), Kb false] [])
 (.seq (Rs (sq 5 [Fa 3 1, Ld 1 5, Ln 6, Ki 0] [])
 (blkC 0 (.loop (Rs [Bb .lss 8 7 9]
 (.seq (Ct 9 .skip
 (.exit 0))
 (.seq (.block 1 (Rs (sq 10 [Mv 8, Ia 2 6 8, La 2 11] [Io (.alloc 82 [.v (.string ⟨#[]⟩), .v (.string ⟨#[]⟩)]) 4, Mv 10 3, Sv [none, none] 4 12])
 (.seq (.drw (sq 13 [Fa 0 4, Ld 1 13, Ca 80 [14], Nt 15, Mv 16] (Sf 17 18 [Fa 1 4, Ld 1 18, Ca 80 [19], Nt 20] (sq 22 [Pk 17 21, Mv 22] (Sf 23 24 [Mv 3, Bk .gtr 24 0, Mv 25] (Sg 26 27 [Fa 3 1, Ld 1 27, Mv 3, Bk .sub 29 1, Ia 2 28 30, Fa 0 31, Ld 1 32, Fa 0 4, Ld 1 34, Bb .geq 33 35] [Gf 23 (Pf 26 36 37), Pk 23 37 38]))))) [(15, 22), (20, 22)])
 (Ct 38 (Rs [Kb false 2]
 .ret)
 .skip))))
 (.reg [Bk .add 8 1 39, Mv 39 8])))))))
 (Rs (sq 40 [Fa 0 1, Ld 1 40, Ca 80 [41], Mv 42] (Sg 43 44 [Fa 1 1, La 2 44, Ca 81 [45]] (sq 47 [Pf 43 46, Mv 47] (Sg 48 49 [Fa 3 1, Ld 1 49, Ln 50, Bk .leq 51 4] [Pf 48 52 53, Mv 53 2]))))
 .ret))), lcF []⟩
def ks_af9 : List (List (Option Nat)) := [[none]]
def gl_af9_1 (a0 : Feat) : List Tag → Nat → Option (Bool ⊕ Unit)
 | [], k30 => some (.inr ())
 | x31 :: l32, k30 => (gf_aw9 x31.key).bind fun x40 => if (!x40) = true then (some (.inl (false))) else ((gf_aw9 x31.val).bind fun x42 => if (!x42) = true then (some (.inl (false))) else (if (decide ((k30 : Int) > 0)) = true then ((idx a0.tags (IntKind.i64.wrap ((k30 : Int) - 1))).bind fun x44 => if (!slt x44.key x31.key) = true then (some (.inl (false))) else (gl_af9_1 a0 l32 (k30 + 1) )) else (gl_af9_1 a0 l32 (k30 + 1) )))
def gf_af9 (a0 : Feat) : Option Bool := if fits a0.tags.length = true then ((gl_af9_1 a0 a0.tags 0 ).bind fun q => match q with | .inl r => some r | .inr q28 => (gf_aw9 a0.id).bind fun x46 => if x46 = true then ((gf_ar9 a0.shape).bind fun x48 => if x48 = true then (some ((decide ((a0.tags.length : Int) ≤ 4)))) else (some (false))) else (some (false))) else none
def c_af9 : Con := ⟨Feat, Bool, 82, fun a => [.agg [.v (.string a.id), .v (.int .i64 a.shape.kind), .ro (List.map ePt a.shape.pts), .ro (List.map eTag a.tags)]], fun a => gf_af9 a, fun a r => ⟨[(false, [.v (.bool r)])], []⟩, fun a => []⟩
/-! slices.Equal[[]impl.Pt,impl.Pt] -/
def if_bq9 : IFn := ⟨26, [.inl 4],
 (Rs [Kb false 4]
 (.seq (Rs (sq 6 [Mv 0, Ln 6, Mv 1, Ln 8, Bb .neq 7 9] [])
 (Ct 10 (Rs [Kb false 4]
 .ret)
 .skip))
 (.seq (Rs (sq 11 [Mv 0, Ln 11, Ki 0] [])
 (blkC 0 (.loop (Rs [Bb .lss 13 12 14]
 (.seq (Ct 14 .skip
 (.exit 0))
 (.seq (.block 1 (Rs [Mv 13 15, Mv 15 5]
 (.seq (.drw (sq 16 [Mv 0, Mv 5, Ia 2 16 17, La 2 18, Mv 1, Mv 5, Ia 2 20 21, La 2 22, Io (.eqs true true [0, 0] (.t 19) (.t 23))] []) [(3, 7)])
 (Ct 24 (Rs [Kb false 4]
 .ret)
 .skip))))
 (.reg [Bk .add 13 1 25, Mv 25 13])))))))
 (Rs [Kb true 4]
 .ret)))), lcF []⟩
def ks_bq9 : List (List (Option Nat)) := [[none]]
def gl_bq9_1 (a1 : (List Pt)) : List Pt → Nat → Option (Bool ⊕ Unit)
 | [], k16 => some (.inr ())
 | x17 :: l18, k16 => (idx a1 (k16 : Int)).bind fun x25 => if (!((x17.x == x25.x) && ((x17.y == x25.y) && true))) = true then (some (.inl (false))) else (gl_bq9_1 a1 l18 (k16 + 1) )
def gf_bq9 (a0 : (List Pt)) (a1 : (List Pt)) : Option Bool := if ((a0.length : Int) != (a1.length : Int)) = true then (some (false)) else (if fits a0.length = true then ((gl_bq9_1 a1 a0 0 ).bind fun q => match q with | .inl r => some r | .inr q14 => some (true)) else none)
def c_bq9 : Con := ⟨(List Pt) × (List Pt), Bool, 127, fun a => [.ro (List.map ePt a.1), .ro (List.map ePt a.2)], fun a => gf_bq9 a.1 a.2, fun a r => ⟨[(false, [.v (.bool r)])], []⟩, fun a => []⟩
/-! impl.ShapeSame -/
def if_as9 : IFn := ⟨17, [.inl 4],
 (Rs (sq 2 [Io (.box 226 [none, some 66] (.t 0)), Io (.box 226 [none, some 66] (.t 1)), Kb false] [])
 (Rs (sq 5 [Fa 0 2, Ld 1 5, Fa 0 3, Ld 1 7, Bb .eql 6 8, Mv 9] (Sg 10 11 [Fa 1 2, Ld 1 11, Fa 1 3, Ld 1 13, Ca 127 [12, 14]] [Pf 10 15 16, Mv 16 4]))
 .ret)), lcF []⟩
def ks_as9 : List (List (Option Nat)) := [[none]]
def gf_as9 (a0 : Shape) (a1 : Shape) : Option Bool := if (a0.kind == a1.kind) = true then ((gf_bq9 a0.pts a1.pts).bind fun x3 => some (x3)) else (some (false))
def c_as9 : Con := ⟨Shape × Shape, Bool, 128, fun a => [.agg [.v (.int .i64 a.1.kind), .ro (List.map ePt a.1.pts)], .agg [.v (.int .i64 a.2.kind), .ro (List.map ePt a.2.pts)]], fun a => gf_as9 a.1 a.2, fun a r => ⟨[(false, [.v (.bool r)])], []⟩, fun a => []⟩
/-! slices.Equal[[]impl.Tag,impl.Tag] -/
def if_br9 : IFn := ⟨26, [.inl 4],
 (Rs [Kb false 4]
 (.seq (Rs (sq 6 [Mv 0, Ln 6, Mv 1, Ln 8, Bb .neq 7 9] [])
 (Ct 10 (Rs [Kb false 4]
 .ret)
 .skip))
 (.seq (Rs (sq 11 [Mv 0, Ln 11, Ki 0] [])
 (blkC 0 (.loop (Rs [Bb .lss 13 12 14]
 (.seq (Ct 14 .skip
 (.exit 0))
 (.seq (.block 1 (Rs [Mv 13 15, Mv 15 5]
 (.seq (.drw (sq 16 [Mv 0, Mv 5, Ia 2 16 17, La 2 18, Mv 1, Mv 5, Ia 2 20 21, La 2 22, Io (.eqs true true [2, 2] (.t 19) (.t 23))] []) [(3, 7)])
 (Ct 24 (Rs [Kb false 4]
 .ret)
 .skip))))
 (.reg [Bk .add 13 1 25, Mv 25 13])))))))
 (Rs [Kb true 4]
 .ret)))), lcF []⟩
def ks_br9 : List (List (Option Nat)) := [[none]]
def gl_br9_1 (a1 : (List Tag)) : List Tag → Nat → Option (Bool ⊕ Unit)
 | [], k16 => some (.inr ())
 | x17 :: l18, k16 => (idx a1 (k16 : Int)).bind fun x25 => if (!((x17.key == x25.key) && ((x17.val == x25.val) && true))) = true then (some (.inl (false))) else (gl_br9_1 a1 l18 (k16 + 1) )
def gf_br9 (a0 : (List Tag)) (a1 : (List Tag)) : Option Bool := if ((a0.length : Int) != (a1.length : Int)) = true then (some (false)) else (if fits a0.length = true then ((gl_br9_1 a1 a0 0 ).bind fun q => match q with | .inl r => some r | .inr q14 => some (true)) else none)
def c_br9 : Con := ⟨(List Tag) × (List Tag), Bool, 129, fun a => [.ro (List.map eTag a.1), .ro (List.map eTag a.2)], fun a => gf_br9 a.1 a.2, fun a r => ⟨[(false, [.v (.bool r)])], []⟩, fun a => []⟩
/-! impl.FeatSame -/
def if_ag9 : IFn := ⟨24, [.inl 4],
 (Rs (sq 2 [Io (.box 100 [none, none, some 66, some 82] (.t 0)), Io (.box 100 [none, none, some 66, some 82] (.t 1)), Kb false] [])
 (Rs (sq 5 [Fa 0 2, Ld 1 5, Fa 0 3, Ld 1 7, Bb .eql 6 8, Mv 9] (Sg 10 11 [Fa 1 2, La 2 11, Fa 1 3, La 2 13, Ca 128 [12, 14]] (sq 16 [Pf 10 15, Mv 16] (Sg 17 18 [Fa 3 2, Ld 1 18, Fa 3 3, Ld 1 20, Ca 129 [19, 21]] [Pf 17 22 23, Mv 23 4]))))
 .ret)), lcF []⟩
def ks_ag9 : List (List (Option Nat)) := [[none]]
def gf_ag9 (a0 : Feat) (a1 : Feat) : Option Bool := if (seq a0.id a1.id) = true then ((gf_as9 a0.shape a1.shape).bind fun x3 => if x3 = true then ((gf_br9 a0.tags a1.tags).bind fun x5 => some (x5)) else (some (false))) else (some (false))
def c_ag9 : Con := ⟨Feat × Feat, Bool, 130, fun a => [.agg [.v (.string a.1.id), .v (.int .i64 a.1.shape.kind), .ro (List.map ePt a.1.shape.pts), .ro (List.map eTag a.1.tags)], .agg [.v (.string a.2.id), .v (.int .i64 a.2.shape.kind), .ro (List.map ePt a.2.shape.pts), .ro (List.map eTag a.2.tags)]], fun a => gf_ag9 a.1 a.2, fun a r => ⟨[(false, [.v (.bool r)])], []⟩, fun a => []⟩
/-! slices.EqualFunc[[]impl.Feat,[]impl.Feat,impl.Feat,impl.Feat] -/
def if_bn9 : IFn := ⟨32, [.inl 6],
 (Rs [Kb false 6]
 (.seq (Rs (sq 10 [Mv 0, Ln 10, Mv 1, Ln 12, Bb .neq 11 13] [])
 (Ct 14 (Rs [Kb false 6]
 .ret)
 .skip))
 (.seq (Rs (sq 15 [Mv 0, Ln 15, Ki 0] [])
 (blkC 0 (.loop (Rs [Bb .lss 17 16 18]
 (.seq (Ct 18 .skip
 (.exit 0))
 (.seq (.block 1 (Rs (sq 19 [Mv 17, Ia 4 15 17, La 4 20] [Io (.alloc 100 [.v (.string ⟨#[]⟩), .v (.int .i64 0), .sl true 66 [], .sl true 82 []]) 8, Mv 19 7, Sv [none, none, some 66, some 82] 8 21])
 (Rs (sq 22 [Mv 1, Mv 7, Ia 4 22 23, La 4 24] [Io (.alloc 100 [.v (.string ⟨#[]⟩), .v (.int .i64 0), .sl true 66 [], .sl true 82 []]) 9, Sv [none, none, some 66, some 82] 9 25])
 (Rs (sq 26 [Mv 2, La 4 8, La 4 9, Io (.calld (.t 26) [(false, .t 27), (false, .t 28)]), Nt 29] [])
 (Ct 30 (Rs [Kb false 6]
 .ret)
 .skip)))))
 (.reg [Bk .add 17 1 31, Mv 31 17])))))))
 (Rs [Kb true 6]
 .ret)))), lcF []⟩
def ks_bn9 : List (List (Option Nat)) := [[none]]
def gl_bo9_1 (a1 : (List Feat)) : List Feat → Nat → Option (Bool ⊕ Unit)
 | [], k28 => some (.inr ())
 | x29 :: l30, k28 => (idx a1 (k28 : Int)).bind fun x38 => (gf_ag9 x29 x38).bind fun x41 => if (!x41) = true then (some (.inl (false))) else (gl_bo9_1 a1 l30 (k28 + 1) )
def gf_bo9 (a0 : (List Feat)) (a1 : (List Feat)) : Option Bool := if ((a0.length : Int) != (a1.length : Int)) = true then (some (false)) else (if fits a0.length = true then ((gl_bo9_1 a1 a0 0 ).bind fun q => match q with | .inl r => some r | .inr q26 => some (true)) else none)
def c_bo9 : Con := ⟨(List Feat) × (List Feat), Bool, 325, fun a => [.ro (List.map (eFeat false) a.1), .ro (List.map (eFeat false) a.2), .fn 130 []], fun a => gf_bo9 a.1 a.2, fun a r => ⟨[(false, [.v (.bool r)])], []⟩, fun a => []⟩
/-! impl.SheetSame -/
def if_av9 : IFn := ⟨8, [.inl 4],
 (Rs [Kb false 4]
 (Rs (sq 5 [Mv 0, Mv 1, Io (.call 325 [(false, .t 5), (false, .t 6), (false, .f 130)])] [Mv 7 4])
 .ret)), lcF []⟩
def ks_av9 : List (List (Option Nat)) := [[none]]
def gf_av9 (a0 : (List Feat)) (a1 : (List Feat)) : Option Bool := (gf_bo9 a0 a1).bind fun x1 => some (x1)
def c_av9 : Con := ⟨(List Feat) × (List Feat), Bool, 220, fun a => [.ro (List.map (eFeat false) a.1), .ro (List.map (eFeat false) a.2)], fun a => gf_av9 a.1 a.2, fun a r => ⟨[(false, [.v (.bool r)])], []⟩, fun a => []⟩
/-! slices.Equal[[]int,int] -/
def if_bs9 : IFn := ⟨26, [.inl 4],
 (Rs [Kb false 4]
 (.seq (Rs (sq 6 [Mv 0, Ln 6, Mv 1, Ln 8, Bb .neq 7 9] [])
 (Ct 10 (Rs [Kb false 4]
 .ret)
 .skip))
 (.seq (Rs (sq 11 [Mv 0, Ln 11, Ki 0] [])
 (blkC 0 (.loop (Rs [Bb .lss 13 12 14]
 (.seq (Ct 14 .skip
 (.exit 0))
 (.seq (.block 1 (Rs [Mv 13 15, Mv 15 5]
 (.seq (.drw (sq 16 [Mv 0, Mv 5, Ia 1 16 17, Ld 1 18, Mv 1, Mv 5, Ia 1 20 21, Ld 1 22, Bb .neq 19 23] []) [(3, 7)])
 (Ct 24 (Rs [Kb false 4]
 .ret)
 .skip))))
 (.reg [Bk .add 13 1 25, Mv 25 13])))))))
 (Rs [Kb true 4]
 .ret)))), lcF []⟩
def ks_bs9 : List (List (Option Nat)) := [[none]]
def gl_bs9_1 (a1 : (List Int)) : List Int → Nat → Option (Bool ⊕ Unit)
 | [], k16 => some (.inr ())
 | x17 :: l18, k16 => (idx a1 (k16 : Int)).bind fun x25 => if (x17 != x25) = true then (some (.inl (false))) else (gl_bs9_1 a1 l18 (k16 + 1) )
def gf_bs9 (a0 : (List Int)) (a1 : (List Int)) : Option Bool := if ((a0.length : Int) != (a1.length : Int)) = true then (some (false)) else (if fits a0.length = true then ((gl_bs9_1 a1 a0 0 ).bind fun q => match q with | .inl r => some r | .inr q14 => some (true)) else none)
def c_bs9 : Con := ⟨(List Int) × (List Int), Bool, 358, fun a => [.ro (List.map eInt a.1), .ro (List.map eInt a.2)], fun a => gf_bs9 a.1 a.2, fun a r => ⟨[(false, [.v (.bool r)])], []⟩, fun a => []⟩
/-! impl.sameCommit -/
def if_be9 : IFn := ⟨24, [.inl 4],
 (Rs (sq 2 [Io (.box 115 [some 17, some 100, none] (.t 0)), Io (.box 115 [some 17, some 100, none] (.t 1)), Kb false] [])
 (Rs (sq 5 [Fa 0 2, Ld 1 5, Fa 0 3, Ld 1 7, Ca 358 [6, 8], Mv 9] (Sg 10 11 [Fa 1 2, Ld 1 11, Fa 1 3, Ld 1 13, Ca 220 [12, 14]] (sq 16 [Pf 10 15, Mv 16] (Sg 17 18 [Fa 2 2, Ld 1 18, Fa 2 3, Ld 1 20, Bb .eql 19 21] [Pf 17 22 23, Mv 23 4]))))
 .ret)), lcF []⟩
def ks_be9 : List (List (Option Nat)) := [[none]]
def gf_be9 (a0 : Commit) (a1 : Commit) : Option Bool := (gf_bs9 a0.up a1.up).bind fun x3 => if x3 = true then ((gf_av9 a0.sheet a1.sheet).bind fun x5 => if x5 = true then (some ((seq a0.note a1.note))) else (some (false))) else (some (false))
def c_be9 : Con := ⟨Commit × Commit, Bool, 330, fun a => [.agg [.ro (List.map eInt a.1.up), .ro (List.map (eFeat false) a.1.sheet), .v (.string a.1.note)], .agg [.ro (List.map eInt a.2.up), .ro (List.map (eFeat false) a.2.sheet), .v (.string a.2.note)]], fun a => gf_be9 a.1 a.2, fun a r => ⟨[(false, [.v (.bool r)])], []⟩, fun a => []⟩
/-! slices.Index[[]int,int] -/
def if_bz9 : IFn := ⟨19, [.inl 4],
 (Rs [Ki 0 4]
 (.seq (Rs (sq 6 [Mv 0, Ln 6, Ki 0] [])
 (blkC 0 (.loop (Rs [Bb .lss 8 7 9]
 (.seq (Ct 9 .skip
 (.exit 0))
 (.seq (.block 1 (Rs [Mv 8 10, Mv 10 5]
 (Rs (sq 11 [Mv 1, Mv 0, Mv 5, Ia 1 12 13, Ld 1 14, Bb .eql 11 15] [])
 (Ct 16 (Rs [Mv 5 17, Mv 17 4]
 .ret)
 .skip))))
 (.reg [Bk .add 8 1 18, Mv 18 8])))))))
 (Rs [Ki (-1) 4]
 .ret))), lcF []⟩
def ks_bz9 : List (List (Option Nat)) := [[none]]
def gl_bz9_1 (a1 : Int) : List Int → Nat → Option (Int ⊕ Unit)
 | [], k10 => some (.inr ())
 | x11 :: l12, k10 => if (a1 == x11) = true then (some (.inl ((k10 : Int)))) else (gl_bz9_1 a1 l12 (k10 + 1) )
def gf_bz9 (a0 : (List Int)) (a1 : Int) : Option Int := if fits a0.length = true then ((gl_bz9_1 a1 a0 0 ).bind fun q => match q with | .inl r => some r | .inr q8 => some ((-1))) else none
def c_bz9 : Con := ⟨(List Int) × Int, Int, 85, fun a => [.ro (List.map eInt a.1), .v (.int .i64 a.2)], fun a => gf_bz9 a.1 a.2, fun a r => ⟨[(false, [.v (.int .i64 r)])], []⟩, fun a => []⟩
/-! impl.SheetOk -/
def if_au9 : IFn := ⟨34, [.inl 2],
 (Rs [Kb false 2]
 (.seq (Rs (sq 5 [Mv 0, Ln 5, Ki 0] [])
 (blkC 0 (.loop (Rs [Bb .lss 7 6 8]
 (.seq (Ct 8 .skip
 (.exit 0))
 (.seq (.block 1 (Rs (sq 9 [Mv 7, Ia 4 5 7, La 4 10] [Io (.alloc 100 [.v (.string ⟨#[]⟩), .v (.int .i64 0), .sl true 66 [], .sl true 82 []]) 4, Mv 9 3, Sv [none, none, some 66, some 82] 4 11])
 (.seq (.drw (sq 12 [La 4 4, Ca 82 [12], Nt 13, Mv 14] (Sf 15 16 [Mv 3, Bk .gtr 16 0, Mv 17] (Sg 18 19 [Mv 0, Mv 3, Bk .sub 20 1, Ia 4 19 21, Fa 0 22, Ld 1 23, Fa 0 4, Ld 1 25, Bb .geq 24 26] [Gf 15 (Pf 18 27 28), Pk 15 28 29]))) [(12, 14)])
 (Ct 29 (Rs [Kb false 2]
 .ret)
 .skip))))
 (.reg [Bk .add 7 1 30, Mv 30 7])))))))
 (Rs (sq 31 [Mv 0, Ln 31, Bk .leq 32 8] [Mv 33 2])
 .ret))), lcF []⟩
def ks_au9 : List (List (Option Nat)) := [[none]]
def gl_au9_1 (a0 : (List Feat)) : List Feat → Nat → Option (Bool ⊕ Unit)
 | [], k23 => some (.inr ())
 | x24 :: l25, k23 => (gf_af9 x24).bind fun x33 => if (!x33) = true then (some (.inl (false))) else (if (decide ((k23 : Int) > 0)) = true then ((idx a0 (IntKind.i64.wrap ((k23 : Int) - 1))).bind fun x35 => if (!slt x35.id x24.id) = true then (some (.inl (false))) else (gl_au9_1 a0 l25 (k23 + 1) )) else (gl_au9_1 a0 l25 (k23 + 1) ))
def gf_au9 (a0 : (List Feat)) : Option Bool := if fits a0.length = true then ((gl_au9_1 a0 a0 0 ).bind fun q => match q with | .inl r => some r | .inr q21 => some ((decide ((a0.length : Int) ≤ 8)))) else none
def c_au9 : Con := ⟨(List Feat), Bool, 86, fun a => [.ro (List.map (eFeat false) a)], fun a => gf_au9 a, fun a r => ⟨[(false, [.v (.bool r)])], []⟩, fun a => []⟩
/-! (impl.Repo).commit$1 -/
def if_an9 : IFn := ⟨7, [.inl 3],
 (Rs (sq 2 [Io (.box 115 [some 17, some 100, none] (.t 0)), Kb false] [])
 (Rs (sq 4 [La 3 2, La 3 1, Ca 330 [4, 5]] [Mv 6 3])
 .ret)), lcF []⟩
def ks_an9 : List (List (Option Nat)) := [[none]]
def gf_an9 (a0 : Commit) (a1 : Commit) : Option Bool := (gf_be9 a0 a1).bind fun x2 => some (x2)
def c_an9 : Con := ⟨Commit × Commit, Bool, 83, fun a => [.agg [.ro (List.map eInt a.1.up), .ro (List.map (eFeat false) a.1.sheet), .v (.string a.1.note)], .rptr [.sl false 1 (List.map eInt a.2.up), .sl false 4 (List.map (eFeat false) a.2.sheet), .v (.string a.2.note)]], fun a => gf_an9 a.1 a.2, fun a r => ⟨[(false, [.v (.bool r)])], []⟩, fun a => []⟩
/-! slices.IndexFunc[[]impl.Commit,impl.Commit] -/
def if_bt9 : IFn := ⟨19, [.inl 4],
 (Rs [Ki 0 4]
 (.seq (Rs (sq 6 [Mv 0, Ln 6, Ki 0] [])
 (blkC 0 (.loop (Rs [Bb .lss 8 7 9]
 (.seq (Ct 9 .skip
 (.exit 0))
 (.seq (.block 1 (Rs [Mv 8 10, Mv 10 5]
 (Rs (sq 11 [Mv 1, Mv 0, Mv 5, Ia 3 12 13, La 3 14, Io (.calld (.t 11) [(false, .t 15)])] [])
 (Ct 16 (Rs [Mv 5 17, Mv 17 4]
 .ret)
 .skip))))
 (.reg [Bk .add 8 1 18, Mv 18 8])))))))
 (Rs [Ki (-1) 4]
 .ret))), lcF []⟩
def ks_bt9 : List (List (Option Nat)) := [[none]]
def gl_bu9_1 (a1 : Commit) : List Commit → Nat → Option (Int ⊕ Unit)
 | [], k16 => some (.inr ())
 | x17 :: l18, k16 => (gf_an9 x17 a1).bind fun x25 => if x25 = true then (some (.inl ((k16 : Int)))) else (gl_bu9_1 a1 l18 (k16 + 1) )
def gf_bu9 (a0 : (List Commit)) (a1 : Commit) : Option Int := if fits a0.length = true then ((gl_bu9_1 a1 a0 0 ).bind fun q => match q with | .inl r => some r | .inr q14 => some ((-1))) else none
def c_bu9 : Con := ⟨(List Commit) × Commit, Int, 84, fun a => [.ro (List.map (eCommit false) a.1), .fn 83 [.rptr [.sl false 1 (List.map eInt a.2.up), .sl false 4 (List.map (eFeat false) a.2.sheet), .v (.string a.2.note)]]], fun a => gf_bu9 a.1 a.2, fun a r => ⟨[(false, [.v (.int .i64 r)])], []⟩, fun a => []⟩
/-! (impl.Repo).commit -/
def if_am9 : IFn := ⟨9, [.inl 4],
 (Rs (sq 2 [Io (.box 210 [some 115, some 130] (.t 0)), Io (.box 115 [some 17, some 100, none] (.t 1)), Ki 0] [])
 (Rs (sq 5 [Fa 0 2, Ld 1 5, Io (.mkf 83 [.t 3]), Ca 84 [6, 7]] [Mv 8 4])
 .ret)), lcF []⟩
def ks_am9 : List (List (Option Nat)) := [[none]]
def gf_am9 (a0 : Repo) (a1 : Commit) : Option Int := (gf_bu9 a0.commits a1).bind fun x3 => some (x3)
def c_am9 : Con := ⟨Repo × Commit, Int, 87, fun a => [.agg [.ro (List.map (eCommit false) a.1.commits), .ro (List.map eHead a.1.heads)], .agg [.ro (List.map eInt a.2.up), .ro (List.map (eFeat false) a.2.sheet), .v (.string a.2.note)]], fun a => gf_am9 a.1 a.2, fun a r => ⟨[(false, [.v (.int .i64 r)])], []⟩, fun a => []⟩
/-! slices.Contains[[]int,int] -/
def if_bk9 : IFn := ⟨9, [.inl 4],
 (Rs [Kb false 4]
 (Rs (sq 5 [Mv 0, Mv 1, Ca 85 [5, 6], Bk .geq 7 0] [Mv 8 4])
 .ret)), lcF []⟩
def ks_bk9 : List (List (Option Nat)) := [[none]]
def gf_bk9 (a0 : (List Int)) (a1 : Int) : Option Bool := (gf_bz9 a0 a1).bind fun x1 => some ((decide (x1 ≥ 0)))
def c_bk9 : Con := ⟨(List Int) × Int, Bool, 88, fun a => [.ro (List.map eInt a.1), .v (.int .i64 a.2)], fun a => gf_bk9 a.1 a.2, fun a r => ⟨[(false, [.v (.bool r)])], []⟩, fun a => []⟩
/-! (impl.Repo).head$1 -/
def if_ap9 : IFn := ⟨8, [.inl 3],
 (Rs (sq 2 [Io (.box 130 [none, none] (.t 0)), Kb false] [])
 (Rs (sq 4 [Fa 0 2, Ld 1 4, Ld 1 1, Bb .eql 5 6] [Mv 7 3])
 .ret)), lcF []⟩
def ks_ap9 : List (List (Option Nat)) := [[none]]
def gf_ap9 (a0 : Head) (a1 : Str) : Option Bool := some ((seq a0.name a1))
def c_ap9 : Con := ⟨Head × Str, Bool, 77, fun a => [.agg [.v (.string a.1.name), .v (.int .i64 a.1.at_)], .rptr [.v (.string a.2)]], fun a => gf_ap9 a.1 a.2, fun a r => ⟨[(false, [.v (.bool r)])], []⟩, fun a => []⟩
/-! slices.IndexFunc[[]impl.Head,impl.Head] -/
def if_bx9 : IFn := ⟨19, [.inl 4],
 (Rs [Ki 0 4]
 (.seq (Rs (sq 6 [Mv 0, Ln 6, Ki 0] [])
 (blkC 0 (.loop (Rs [Bb .lss 8 7 9]
 (.seq (Ct 9 .skip
 (.exit 0))
 (.seq (.block 1 (Rs [Mv 8 10, Mv 10 5]
 (Rs (sq 11 [Mv 1, Mv 0, Mv 5, Ia 2 12 13, La 2 14, Io (.calld (.t 11) [(false, .t 15)])] [])
 (Ct 16 (Rs [Mv 5 17, Mv 17 4]
 .ret)
 .skip))))
 (.reg [Bk .add 8 1 18, Mv 18 8])))))))
 (Rs [Ki (-1) 4]
 .ret))), lcF []⟩
def ks_bx9 : List (List (Option Nat)) := [[none]]
def gl_by9_1 (a1 : Str) : List Head → Nat → Option (Int ⊕ Unit)
 | [], k16 => some (.inr ())
 | x17 :: l18, k16 => (gf_ap9 x17 a1).bind fun x25 => if x25 = true then (some (.inl ((k16 : Int)))) else (gl_by9_1 a1 l18 (k16 + 1) )
def gf_by9 (a0 : (List Head)) (a1 : Str) : Option Int := if fits a0.length = true then ((gl_by9_1 a1 a0 0 ).bind fun q => match q with | .inl r => some r | .inr q14 => some ((-1))) else none
def c_by9 : Con := ⟨(List Head) × Str, Int, 78, fun a => [.ro (List.map eHead a.1), .fn 77 [.rptr [.v (.string a.2)]]], fun a => gf_by9 a.1 a.2, fun a r => ⟨[(false, [.v (.int .i64 r)])], []⟩, fun a => []⟩
/-! (impl.Repo).head -/
def if_ao9 : IFn := ⟨9, [.inl 4],
 (Rs (sq 2 [Io (.box 210 [some 115, some 130] (.t 0)), Io (.box 49 [none] (.t 1)), Ki 0] [])
 (Rs (sq 5 [Fa 1 2, Ld 1 5, Io (.mkf 77 [.t 3]), Ca 78 [6, 7]] [Mv 8 4])
 .ret)), lcF []⟩
def ks_ao9 : List (List (Option Nat)) := [[none]]
def gf_ao9 (a0 : Repo) (a1 : Str) : Option Int := (gf_by9 a0.heads a1).bind fun x3 => some (x3)
def c_ao9 : Con := ⟨Repo × Str, Int, 89, fun a => [.agg [.ro (List.map (eCommit false) a.1.commits), .ro (List.map eHead a.1.heads)], .v (.string a.2)], fun a => gf_ao9 a.1 a.2, fun a r => ⟨[(false, [.v (.int .i64 r)])], []⟩, fun a => []⟩
/-! (impl.Repo).version -/
def if_aq9 : IFn := ⟨11, [.inl 4],
 (Rs [Io (.box 210 [some 115, some 130] (.t 0)) 2, Kb false 4]
 (Rs (sq 5 [Mv 1, Fa 0 2, Ld 1 6, Ln 7, Bk .sub 8 1, Io (.call 76 [(false, .t 5), (false, .c (.int .i64 0)), (false, .t 9)])] [Mv 10 4])
 .ret)), lcF []⟩
def ks_aq9 : List (List (Option Nat)) := [[none]]
def gf_aq9 (a0 : Repo) (a1 : Int) : Option Bool := (gf_bh9 a1 0 (IntKind.i64.wrap ((a0.commits.length : Int) - 1))).bind fun x2 => some (x2)
def c_aq9 : Con := ⟨Repo × Int, Bool, 90, fun a => [.agg [.ro (List.map (eCommit false) a.1.commits), .ro (List.map eHead a.1.heads)], .v (.int .i64 a.2)], fun a => gf_aq9 a.1 a.2, fun a r => ⟨[(false, [.v (.bool r)])], []⟩, fun a => []⟩
/-! impl.cloneShape -/
def if_ay9 : IFn := ⟨10, [.inr (2, 2)],
 (Rs (sq 1 [Io (.box 226 [none, some 66] (.t 0)), Io (.alloc 226 [.v (.int .i64 0), .sl true 66 []])] [])
 (.seq (.drw (sq 3 [Fa 0 1, Ld 1 3, Io (.lit 66 [none, none] [.v (.int .i64 0), .v (.int .i64 0)] 0 []), Fa 1 1, Ld 1 6, Io (.app 66 false (.t 5) (.t 7)), Io (.build [.v (.int .i64 0), .nil] [(0, 1, .t 4), (1, 1, .t 8)])] [Sv [none, some 66] 2 9]) [(1, 2), (1, 4), (2, 4), (1, 5)])
 .ret)), lcF []⟩
def ks_ay9 : List (List (Option Nat)) := [[none, some 66]]
def gf_ay9 (a0 : Shape) : Option Shape := if fits ([] ++ a0.pts).length = true then some ((⟨a0.kind, ([] ++ a0.pts)⟩ : Shape)) else none
def c_ay9 : Con := ⟨Shape, Shape, 91, fun a => [.agg [.v (.int .i64 a.kind), .ro (List.map ePt a.pts)]], fun a => gf_ay9 a, fun a r => ⟨[(true, eShape true r)], []⟩, fun a => []⟩
/-! impl.cloneFeat -/
def if_ax9 : IFn := ⟨13, [.inr (2, 4)],
 (Rs (sq 1 [Io (.box 100 [none, none, some 66, some 82] (.t 0)), Io (.alloc 100 [.v (.string ⟨#[]⟩), .v (.int .i64 0), .sl true 66 [], .sl true 82 []])] [])
 (.seq (.drw (sq 3 [Fa 0 1, Ld 1 3, Fa 1 1, La 2 5, Ca 91 [6], Io (.lit 82 [none, none] [.v (.string ⟨#[]⟩), .v (.string ⟨#[]⟩)] 0 []), Fa 3 1, Ld 1 9, Io (.app 82 false (.t 8) (.t 10)), Io (.build [.v (.string ⟨#[]⟩), .v (.int .i64 0), .nil, .nil] [(0, 1, .t 4), (1, 2, .t 7), (3, 1, .t 11)])] [Sv [none, none, some 66, some 82] 2 12]) [(1, 3), (1, 4), (1, 5), (3, 5), (4, 5), (1, 7), (3, 7), (4, 7), (5, 7), (1, 8)])
 .ret)), lcF []⟩
def ks_ax9 : List (List (Option Nat)) := [[none, none, some 66, some 82]]
def gf_ax9 (a0 : Feat) : Option Feat := (gf_ay9 a0.shape).bind fun x3 => if fits ([] ++ a0.tags).length = true then some ((⟨a0.id, x3, ([] ++ a0.tags)⟩ : Feat)) else none
def c_ax9 : Con := ⟨Feat, Feat, 92, fun a => [.agg [.v (.string a.id), .v (.int .i64 a.shape.kind), .ro (List.map ePt a.shape.pts), .ro (List.map eTag a.tags)]], fun a => gf_ax9 a, fun a r => ⟨[(true, eFeat true r)], []⟩, fun a => []⟩
/-! impl.RepoOk -/
def if_ak9 : IFn := ⟨112, [.inl 2],
 (Rs (sq 1 [Io (.box 210 [some 115, some 130] (.t 0)), Kb false] [])
 (.seq (Rs (sq 9 [Fa 0 1, Ld 1 9, Ln 10, Io (.call 76 [(false, .t 11), (false, .c (.int .i64 1)), (false, .c (.int .i64 14))]), Nt 12, Mv 13] (Sf 14 15 [Fa 1 1, Ld 1 15, Ln 16, Io (.call 76 [(false, .t 17), (false, .c (.int .i64 1)), (false, .c (.int .i64 4))]), Nt 18] [Pk 14 19 20]))
 (Ct 20 (Rs [Kb false 2]
 .ret)
 .skip))
 (.seq (Rs (sq 21 [Fa 0 1, Ld 1 21, Ln 22, Ki 0] [])
 (blkC 0 (.loop (Rs [Bb .lss 24 23 25]
 (.seq (Ct 25 .skip
 (.exit 0))
 (.seq (.block 1 (Rs (sq 26 [Mv 24, Ia 3 22 24, La 3 27] [Io (.alloc 115 [.sl true 17 [], .sl true 100 [], .v (.string ⟨#[]⟩)]) 4, Mv 26 3, Sv [some 17, some 100, none] 4 28])
 (.seq (Rs (sq 29 [Fa 1 4, Ld 1 29, Ca 86 [30], Nt 31, Mv 32] (Sf 33 34 [Fa 2 4, Ld 1 34, Ca 80 [35], Nt 36] (sq 38 [Pk 33 37, Mv 38] (Sf 39 40 [La 2 1, La 3 4, Ca 87 [40, 41], Mv 3, Bb .neq 42 43] (sq 45 [Pk 39 44, Mv 45] (Sf 46 47 [Mv 3, Bk .eql 47 0, Fa 0 4, Ld 1 49, Ln 50, Bk .eql 51 0, Io (.eqs true false [1] (.t 48) (.t 52))] (sq 54 [Pk 46 53, Mv 54] (Sf 55 56 [Fa 0 4, Ld 1 56, Ln 57, Bk .gtr 58 2] [Pk 55 59 60]))))))))
 (Ct 60 (Rs [Kb false 2]
 .ret)
 .skip))
 (Rs (sq 61 [Fa 0 4, Ld 1 61, Ln 62, Ki 0] [])
 (blkC 2 (.loop (Rs [Bb .lss 64 63 65]
 (.seq (Ct 65 .skip
 (.exit 2))
 (.seq (.block 3 (Rs (sq 66 [Mv 64, Ia 1 62 64, Ld 1 67] (sq 5 [Mv 66, Mv 68] []))
 (Rs (sq 69 [Mv 6, Mv 3, Bk .sub 70 1, Io (.call 76 [(false, .t 69), (false, .c (.int .i64 0)), (false, .t 71)]), Nt 72, Mv 73] (Sf 74 75 [Fa 0 4, Ld 1 75, Mv 5, Io (.sls 1 (.t 76) none (some (.t 77))), Mv 6, Ca 88 [78, 79]] [Pk 74 80 81]))
 (Ct 81 (Rs [Kb false 2]
 .ret)
 .skip))))
 (.reg [Bk .add 64 1 82, Mv 82 64]))))))))))
 (.reg [Bk .add 24 1 83, Mv 83 24])))))))
 (.seq (Rs (sq 84 [Fa 1 1, Ld 1 84, Ln 85, Ki 0] [])
 (blkC 4 (.loop (Rs [Bb .lss 87 86 88]
 (.seq (Ct 88 .skip
 (.exit 4))
 (.seq (.block 5 (Rs (sq 89 [Mv 87, Ia 2 85 87, La 2 90] [Io (.alloc 130 [.v (.string ⟨#[]⟩), .v (.int .i64 0)]) 8, Mv 89 7, Sv [none, none] 8 91])
 (Rs (sq 92 [Fa 0 8, Ld 1 92, Ca 80 [93], Nt 94, Mv 95] (Sf 96 97 [La 2 1, Fa 0 8, Ld 1 98, Ca 89 [97, 99], Mv 7, Bb .neq 100 101] (sq 103 [Pk 96 102, Mv 103] (Sf 104 105 [La 2 1, Fa 1 8, Ld 1 106, Ca 90 [105, 107], Nt 108] [Pk 104 109 110]))))
 (Ct 110 (Rs [Kb false 2]
 .ret)
 .skip))))
 (.reg [Bk .add 87 1 111, Mv 111 87])))))))
 (Rs [Kb true 2]
 .ret))))), lcF []⟩
def ks_ak9 : List (List (Option Nat)) := [[none]]
def gl_ak9_5 (k162 : Nat) (x163 : Commit) : List Int → Nat → Option (Bool ⊕ Unit)
 | [], k205 => some (.inr ())
 | x206 :: l207, k205 => (gf_bh9 x206 0 (IntKind.i64.wrap ((k162 : Int) - 1))).bind fun x214 => if (!x214) = true then (some (.inl (false))) else ((slc x163.up 0 (k205 : Int)).bind fun x216 => (gf_bk9 x216 x206).bind fun x218 => if x218 = true then (some (.inl (false))) else (gl_ak9_5 k162 x163 l207 (k205 + 1) ))
def gl_ak9_4 (a0 : Repo) : List Commit → Nat → Option (Bool ⊕ Unit)
 | [], k162 => some (.inr ())
 | x163 :: l164, k162 => (gf_au9 x163.sheet).bind fun x172 => if (!x172) = true then (some (.inl (false))) else ((gf_aw9 x163.note).bind fun x174 => if (!x174) = true then (some (.inl (false))) else ((gf_am9 a0 x163).bind fun x176 => if (x176 != (k162 : Int)) = true then (some (.inl (false))) else (if (!(((k162 : Int) == 0) == ((x163.up.length : Int) == 0))) = true then (some (.inl (false))) else (if (decide ((x163.up.length : Int) > 2)) = true then (some (.inl (false))) else (if fits x163.up.length = true then ((gl_ak9_5 k162 x163 x163.up 0 ).bind fun q => match q with | .inl r => some (.inl r) | .inr q203 => gl_ak9_4 a0 l164 (k162 + 1) ) else none)))))
def gl_ak9_6 (a0 : Repo) : List Head → Nat → Option (Bool ⊕ Unit)
 | [], k250 => some (.inr ())
 | x251 :: l252, k250 => (gf_aw9 x251.name).bind fun x260 => if (!x260) = true then (some (.inl (false))) else ((gf_ao9 a0 x251.name).bind fun x262 => if (x262 != (k250 : Int)) = true then (some (.inl (false))) else ((gf_aq9 a0 x251.at_).bind fun x264 => if (!x264) = true then (some (.inl (false))) else (gl_ak9_6 a0 l252 (k250 + 1) )))
def gf_ak9 (a0 : Repo) : Option Bool := (gf_bh9 (a0.commits.length : Int) 1 14).bind fun x2 => if (!x2) = true then (some (false)) else ((gf_bh9 (a0.heads.length : Int) 1 4).bind fun x4 => if (!x4) = true then (some (false)) else (if fits a0.commits.length = true then ((gl_ak9_4 a0 a0.commits 0 ).bind fun q => match q with | .inl r => some r | .inr q160 => if fits a0.heads.length = true then ((gl_ak9_6 a0 a0.heads 0 ).bind fun q => match q with | .inl r => some r | .inr q248 => some (true)) else none) else none))
def c_ak9 : Con := ⟨Repo, Bool, 96, fun a => [.agg [.ro (List.map (eCommit false) a.commits), .ro (List.map eHead a.heads)]], fun a => gf_ak9 a, fun a r => ⟨[(false, [.v (.bool r)])], []⟩, fun a => []⟩
/-! slices.Sort[[]string,string] -/

def gf_ca9 (a0 : List Str) : Option (List Str) := sortS a0
def c_ca9 : Con := sortSCon 121
theorem l_ca9 {a0 r : List Str} (h : gf_ca9 a0 = some r) : r.length = a0.length := sortS_len h/-! slices.Compact[[]string,string] -/

def gf_bj9 (a0 : List Str) : Option (List Str) := compS a0
def c_bj9 : Con := compSCon 122/-! impl.featAt$1 -/
def if_ba9 : IFn := ⟨8, [.inl 3],
 (Rs (sq 2 [Io (.box 100 [none, none, some 66, some 82] (.t 0)), Kb false] [])
 (Rs (sq 4 [Fa 0 2, Ld 1 4, Ld 1 1, Bb .eql 5 6] [Mv 7 3])
 .ret)), lcF []⟩
def ks_ba9 : List (List (Option Nat)) := [[none]]
def gf_ba9 (a0 : Feat) (a1 : Str) : Option Bool := some ((seq a0.id a1))
def c_ba9 : Con := ⟨Feat × Str, Bool, 123, fun a => [.agg [.v (.string a.1.id), .v (.int .i64 a.1.shape.kind), .ro (List.map ePt a.1.shape.pts), .ro (List.map eTag a.1.tags)], .rptr [.v (.string a.2)]], fun a => gf_ba9 a.1 a.2, fun a r => ⟨[(false, [.v (.bool r)])], []⟩, fun a => []⟩
/-! slices.IndexFunc[[]impl.Feat,impl.Feat] -/
def if_bv9 : IFn := ⟨19, [.inl 4],
 (Rs [Ki 0 4]
 (.seq (Rs (sq 6 [Mv 0, Ln 6, Ki 0] [])
 (blkC 0 (.loop (Rs [Bb .lss 8 7 9]
 (.seq (Ct 9 .skip
 (.exit 0))
 (.seq (.block 1 (Rs [Mv 8 10, Mv 10 5]
 (Rs (sq 11 [Mv 1, Mv 0, Mv 5, Ia 4 12 13, La 4 14, Io (.calld (.t 11) [(false, .t 15)])] [])
 (Ct 16 (Rs [Mv 5 17, Mv 17 4]
 .ret)
 .skip))))
 (.reg [Bk .add 8 1 18, Mv 18 8])))))))
 (Rs [Ki (-1) 4]
 .ret))), lcF []⟩
def ks_bv9 : List (List (Option Nat)) := [[none]]
def gl_bw9_1 (a1 : Str) : List Feat → Nat → Option (Int ⊕ Unit)
 | [], k16 => some (.inr ())
 | x17 :: l18, k16 => (gf_ba9 x17 a1).bind fun x25 => if x25 = true then (some (.inl ((k16 : Int)))) else (gl_bw9_1 a1 l18 (k16 + 1) )
def gf_bw9 (a0 : (List Feat)) (a1 : Str) : Option Int := if fits a0.length = true then ((gl_bw9_1 a1 a0 0 ).bind fun q => match q with | .inl r => some r | .inr q14 => some ((-1))) else none
def c_bw9 : Con := ⟨(List Feat) × Str, Int, 124, fun a => [.ro (List.map (eFeat false) a.1), .fn 123 [.rptr [.v (.string a.2)]]], fun a => gf_bw9 a.1 a.2, fun a r => ⟨[(false, [.v (.int .i64 r)])], []⟩, fun a => []⟩
/-! impl.featAt -/
def if_az9 : IFn := ⟨8, [.inl 4],
 (Rs (sq 3 [Io (.box 49 [none] (.t 1)), Ki 0] [])
 (Rs (sq 5 [Mv 0, Io (.mkf 123 [.t 3]), Ca 124 [5, 6]] [Mv 7 4])
 .ret)), lcF []⟩
def ks_az9 : List (List (Option Nat)) := [[none]]
def gf_az9 (a0 : (List Feat)) (a1 : Str) : Option Int := (gf_bw9 a0 a1).bind fun x2 => some (x2)
def c_az9 : Con := ⟨(List Feat) × Str, Int, 125, fun a => [.ro (List.map (eFeat false) a.1), .v (.string a.2)], fun a => gf_az9 a.1 a.2, fun a r => ⟨[(false, [.v (.int .i64 r)])], []⟩, fun a => []⟩
/-! impl.side -/
def if_bf9 : IFn := ⟨18, [.inr (4, 4), .inl 5],
 (Rs (sq 4 [Io (.alloc 100 [.v (.string ⟨#[]⟩), .v (.int .i64 0), .sl true 66 [], .sl true 82 []]), Kb false] [])
 (Rs (sq 7 [Mv 0, Mv 1, Ca 125 [7, 8]] [Mv 9 6])
 (.seq (Rs (sq 10 [Mv 6, Bk .lss 10 0] [])
 (Ct 11 (Rs [Io (.build [.v (.string ⟨#[]⟩), .v (.int .i64 0), .nil, .nil] []) 12, Sv [none, none, some 66, some 82] 4 12, Kb false 5]
 .ret)
 .skip))
 (Rs (sq 13 [Mv 0, Mv 6, Ia 4 13 14, La 4 15, Ca 92 [16]] [Sv [none, none, some 66, some 82] 4 17, Kb true 5])
 .ret)))), lcF []⟩
def ks_bf9 : List (List (Option Nat)) := [[none, none, some 66, some 82], [none]]
def gf_bf9 (a0 : (List Feat)) (a1 : Str) : Option (Feat × Bool) := (gf_az9 a0 a1).bind fun x2 => if (decide (x2 < 0)) = true then (some ((⟨(⟨#[]⟩ : Str), ⟨0, []⟩, []⟩ : Feat), false)) else ((idx a0 x2).bind fun x4 => (gf_ax9 x4).bind fun x6 => some (x6, true))
def c_bf9 : Con := ⟨(List Feat) × Str, (Feat × Bool), 126, fun a => [.ro (List.map (eFeat false) a.1), .v (.string a.2)], fun a => gf_bf9 a.1 a.2, fun a r => ⟨[(true, eFeat true r.1), (false, [.v (.bool r.2)])], []⟩, fun a => []⟩
/-! impl.names -/
def if_bb9 : IFn := ⟨32, [.inl 2],
 (Rs [Io (.mv (.c (.slice none 0 0))) 2]
 (Rs [Io (.lit 49 [none] [.v (.string ⟨#[]⟩)] 0 []) 8, Mv 8 3]
 (.seq (Rs (sq 9 [Mv 0, Ln 9, Ki 0] [])
 (blkC 0 (.loop (Rs [Bb .lss 11 10 12]
 (.seq (Ct 12 .skip
 (.exit 0))
 (.seq (.block 1 (Rs (sq 13 [Ia 1 9 11, Ld 1 13] [Mv 14 5])
 (Rs (sq 15 [Mv 5, Ln 15, Ki 0] [])
 (blkC 2 (.loop (Rs [Bb .lss 17 16 18]
 (.seq (Ct 18 .skip
 (.exit 2))
 (.seq (.block 3 (Rs (sq 19 [Ia 4 15 17, La 4 19] [Io (.alloc 100 [.v (.string ⟨#[]⟩), .v (.int .i64 0), .sl true 66 [], .sl true 82 []]) 7, Sv [none, none, some 66, some 82] 7 20])
 (.reg (sq 21 [Mv 3, Fa 0 7, Ld 1 22, Io (.lit 49 [none] [.v (.string ⟨#[]⟩)] 1 [(0, .t 23)]), Io (.app 49 true (.t 21) (.t 24))] [Mv 25 3]))))
 (.reg [Bk .add 17 1 26, Mv 26 17])))))))))
 (.reg [Bk .add 11 1 27, Mv 27 11])))))))
 (Rs (sq 28 [Mv 3, Io (.call 121 [(true, .t 28)])] [])
 (Rs (sq 30 [Mv 3, Io (.call 122 [(true, .t 30)])] [Mv 31 2])
 .ret))))), lcF []⟩
def ks_bb9 : List (List (Option Nat)) := [[some 49]]
def gl_bb9_5 : List Feat → Nat → (List Str) → Option (List Str)
 | [], k197, v194 => some v194
 | x198 :: l199, k197, v194 => if fits (v194 ++ ([x198.id] : (List Str))).length = true then gl_bb9_5 l199 (k197 + 1) (v194 ++ ([x198.id] : (List Str))) else none
def gl_bb9_4 : List (List Feat) → Nat → (List Str) → Option (List Str)
 | [], k158, v155 => some v155
 | x159 :: l160, k158, v155 => if fits x159.length = true then ((gl_bb9_5 x159 0 v155).bind fun q192 => gl_bb9_4 l160 (k158 + 1) q192) else none
def gf_bb9 (a0 : (List (List Feat))) : Option (List Str) := if fits a0.length = true then ((gl_bb9_4 a0 0 []).bind fun q153 => (gf_ca9 q153).bind fun x217 => (gf_bj9 x217).bind fun x219 => some (x219)) else none
def c_bb9 : Con := ⟨(List (List Feat)), (List Str), 143, fun a => [.ro (List.map (eSl false 100 (eFeat false)) a)], fun a => gf_bb9 a, fun a r => ⟨[(false, [sl true 49 (List.map eStr r)])], []⟩, fun a => []⟩
/-! spec.l12Open -/
def if_ct9 : IFn := ⟨11, [.inl 2],
 (Rs [Io (.mv (.c (.pointer none))) 2]
 (.seq (Rs (sq 3 [Mv 0, Ln 3, Bk .gtr 4 2000] [])
 (Ct 5 (.reg (sq 6 [Mv 0, Io (.sls 1 (.t 6) none (some (.c (.int .i64 2000))))] [Mv 7 0]))
 .skip))
 (Rs (sq 8 [Mv 0, Io (.build [.nil, .v (.int .i64 0)] [(0, 1, .t 8)]), Io (.box 290 [some 257, none] (.t 9))] [Mv 10 2])
 .ret))), lcF []⟩
def ks_ct9 : List (List (Option Nat)) := [[none]]
def gf_ct9 (a0 : (List UInt8)) : Option Rd := if (decide ((a0.length : Int) > 2000)) = true then ((slc a0 0 2000).bind fun x1 => some ((⟨x1, 0⟩ : Rd))) else (some ((⟨a0, 0⟩ : Rd)))
def c_ct9 : Con := ⟨(List UInt8) × Option Addr × Nat, Rd, 316, fun a => [.raw a.2.1 a.2.2 (List.map eU8 a.1)], fun a => gf_ct9 a.1, fun a r => ⟨[(false, [.bx 290 [.rw a.2.1 a.2.2 (List.map eU8 r.b), .v (.int .i64 r.p)]])], []⟩, fun a => []⟩
/-! (*spec.l12Rd).pick -/
def if_cw9 : IFn := ⟨99, [.inl 4],
 (Rs [Ki 0 4]
 (Rs (sq 7 [Mv 0, Mv 0, Io (.nilck (.t 8)), Fa 1 9, Ld 1 10, Bk .add 11 1, Io (.nilck (.t 7)), Fa 1 13] [Sv [none] 14 12])
 (.seq (Rs (sq 15 [Mv 1, Bk .lss 15 1, Mv 16] (Sf 17 18 [Mv 0, Io (.nilck (.t 18)), Fa 0 19, Ld 1 20, Ln 21, Bk .eql 22 0] [Pk 17 23 24]))
 (Ct 24 (Rs [Ki 0 4]
 .ret)
 .skip))
 (Rs (sq 25 [Mv 0, Io (.nilck (.t 25)), Fa 1 26, Ld 1 27, Bk .sub 28 1] [Mv 29 5])
 (.seq (Rs (sq 30 [Mv 5, Mv 0, Io (.nilck (.t 31)), Fa 0 32, Ld 1 33, Ln 34, Bb .lss 30 35] [])
 (Ct 36 (Rs (sq 37 [Mv 0, Io (.nilck (.t 37)), Fa 0 38, Ld 1 39, Mv 5, Ia 1 40 41, Ld 1 42, Io (.conv .i64 (.t 43)), Mv 1, Bb .rem 44 45] [Mv 46 4])
 .ret)
 .skip))
 (.seq (.drw (sq 47 [Mv 0, Io (.nilck (.t 47)), Fa 0 48, Ld 1 49, Mv 5, Mv 0, Io (.nilck (.t 52)), Fa 0 53, Ld 1 54, Ln 55, Bb .rem 51 56, Ia 1 50 57, Ld 1 58, Io (.conv .i64 (.t 59)), Bk .mul 60 131, Mv 0, Io (.nilck (.t 62)), Fa 0 63, Ld 1 64, Mv 5, Bk .mul 66 7, Bk .add 67 3, Mv 0, Io (.nilck (.t 69)), Fa 0 70, Ld 1 71, Ln 72, Bb .rem 68 73, Ia 1 65 74, Ld 1 75, Io (.conv .i64 (.t 76)), Bk .mul 77 1117, Bb .add 61 78, Mv 5, Bk .mul 80 29, Bb .add 79 81, Mv 5, Mv 0, Io (.nilck (.t 84)), Fa 0 85, Ld 1 86, Ln 87, Bb .quo 83 88, Bk .mul 89 53, Bb .add 82 90] [Mv 91 6]) [(3, 8), (3, 18), (8, 18), (12, 18), (3, 25), (8, 25), (12, 25), (18, 25), (3, 29), (8, 29), (12, 29), (3, 40), (8, 40), (12, 40), (18, 40), (25, 40), (29, 40)])
 (Rs (sq 92 [Mv 6, Mv 6, Bk .quo 93 64, Bb .xor 92 94] [Mv 95 6])
 (Rs (sq 96 [Mv 6, Mv 1, Bb .rem 96 97] [Mv 98 4])
 .ret)))))))), lcF []⟩
def ks_cw9 : List (List (Option Nat)) := [[none]]
def gf_cw9 (a0 : Rd) (a1 : Int) : Option (Int × Int) := if (decide (a1 < 1)) = true then (some (0, (IntKind.i64.wrap (a0.p + 1)))) else (if ((a0.b.length : Int) == 0) = true then (some (0, (IntKind.i64.wrap (a0.p + 1)))) else (if (decide ((IntKind.i64.wrap ((IntKind.i64.wrap (a0.p + 1)) - 1)) < (a0.b.length : Int))) = true then ((idx a0.b (IntKind.i64.wrap ((IntKind.i64.wrap (a0.p + 1)) - 1))).bind fun x1 => (imod (IntKind.i64.wrap (x1.toNat : Int)) a1).bind fun x3 => some (x3, (IntKind.i64.wrap (a0.p + 1)))) else ((imod (IntKind.i64.wrap ((IntKind.i64.wrap (a0.p + 1)) - 1)) (a0.b.length : Int)).bind fun x5 => (idx a0.b x5).bind fun x7 => (imod (IntKind.i64.wrap ((IntKind.i64.wrap ((IntKind.i64.wrap ((IntKind.i64.wrap (a0.p + 1)) - 1)) * 7)) + 3)) (a0.b.length : Int)).bind fun x9 => (idx a0.b x9).bind fun x11 => (idiv (IntKind.i64.wrap ((IntKind.i64.wrap (a0.p + 1)) - 1)) (a0.b.length : Int)).bind fun x13 => (imod (ixor (IntKind.i64.wrap ((IntKind.i64.wrap ((IntKind.i64.wrap ((IntKind.i64.wrap ((IntKind.i64.wrap (x7.toNat : Int)) * 131)) + (IntKind.i64.wrap ((IntKind.i64.wrap (x11.toNat : Int)) * 1117)))) + (IntKind.i64.wrap ((IntKind.i64.wrap ((IntKind.i64.wrap (a0.p + 1)) - 1)) * 29)))) + (IntKind.i64.wrap (x13 * 53)))) (IntKind.i64.wrap (Int.tdiv (IntKind.i64.wrap ((IntKind.i64.wrap ((IntKind.i64.wrap ((IntKind.i64.wrap ((IntKind.i64.wrap (x7.toNat : Int)) * 131)) + (IntKind.i64.wrap ((IntKind.i64.wrap (x11.toNat : Int)) * 1117)))) + (IntKind.i64.wrap ((IntKind.i64.wrap ((IntKind.i64.wrap (a0.p + 1)) - 1)) * 29)))) + (IntKind.i64.wrap (x13 * 53)))) 64))) a1).bind fun x15 => some (x15, (IntKind.i64.wrap (a0.p + 1))))))
def c_cw9 : Con := ⟨Rd × Int × Option Addr × Nat, (Int × Int), 321, fun a => [.pio 0 290, .v (.int .i64 a.2.1)], fun a => gf_cw9 a.1 a.2.1, fun a r => ⟨[(false, [.v (.int .i64 r.1)])], [some [[.v (.slice a.2.2.1 (List.map eU8 a.1.b).length a.2.2.2), .v (.int .i64 r.2)]]]⟩, fun a => [(true, 290, [[.rw a.2.2.1 a.2.2.2 (List.map eU8 a.1.b), .v (.int .i64 a.1.p)]])]⟩
/-! (*spec.l12Rd).of -/
def if_cv9 : IFn := ⟨12, [.inl 4],
 (Rs [Io (.mv (.c (.string ⟨#[]⟩))) 4]
 (Rs (sq 5 [Mv 1, Mv 0, Mv 1, Ln 7, Io (.call 321 [(true, .t 6), (false, .t 8)]), Ia 1 5 9, Ld 1 10] [Mv 11 4])
 .ret)), lcF []⟩
def ks_cv9 : List (List (Option Nat)) := [[none]]
def gf_cv9 (a0 : Rd) (a1 : (List Str)) : Option (Str × Int) := (gf_cw9 a0 (a1.length : Int)).bind fun x1 => (idx a1 x1.1).bind fun x3 => some (x3, x1.2)
def c_cv9 : Con := ⟨Rd × (List Str) × Option Addr × Nat, (Str × Int), 326, fun a => [.pio 0 290, .ro (List.map eStr a.2.1)], fun a => gf_cv9 a.1 a.2.1, fun a r => ⟨[(false, [.v (.string r.1)])], [some [[.v (.slice a.2.2.1 (List.map eU8 a.1.b).length a.2.2.2), .v (.int .i64 r.2)]]]⟩, fun a => [(true, 290, [[.rw a.2.2.1 a.2.2.2 (List.map eU8 a.1.b), .v (.int .i64 a.1.p)]])]⟩
/-! spec.l2Id -/
def if_dj9 : IFn := ⟨6, [.inl 2],
 (Rs [Io (.mv (.c (.string ⟨#[]⟩))) 2]
 (Rs (sq 3 [Mv 0, Io (.lit 49 [none] [.v (.string ⟨#[]⟩)] 5 [(0, .c (.string ⟨#[97]⟩)), (1, .c (.string ⟨#[98]⟩)), (2, .c (.string ⟨#[99]⟩)), (3, .c (.string ⟨#[100]⟩)), (4, .c (.string ⟨#[101]⟩))]), Io (.call 326 [(true, .t 3), (false, .t 4)])] [Mv 5 2])
 .ret)), lcF []⟩
def ks_dj9 : List (List (Option Nat)) := [[none]]
def gf_dj9 (a0 : Rd) : Option (Str × Int) := (gf_cv9 a0 ([(⟨#[97]⟩ : Str), (⟨#[98]⟩ : Str), (⟨#[99]⟩ : Str), (⟨#[100]⟩ : Str), (⟨#[101]⟩ : Str)] : (List Str))).bind fun x2 => some (x2.1, x2.2)
def c_dj9 : Con := ⟨Rd × Option Addr × Nat, (Str × Int), 362, fun a => [.pio 0 290], fun a => gf_dj9 a.1, fun a r => ⟨[(false, [.v (.string r.1)])], [some [[.v (.slice a.2.1 (List.map eU8 a.1.b).length a.2.2), .v (.int .i64 r.2)]]]⟩, fun a => [(true, 290, [[.rw a.2.1 a.2.2 (List.map eU8 a.1.b), .v (.int .i64 a.1.p)]])]⟩
/-! spec.l2Key -/
def if_dk9 : IFn := ⟨6, [.inl 2],
 (Rs [Io (.mv (.c (.string ⟨#[]⟩))) 2]
 (Rs (sq 3 [Mv 0, Io (.lit 49 [none] [.v (.string ⟨#[]⟩)] 4 [(0, .c (.string ⟨#[110, 97, 109, 101]⟩)), (1, .c (.string ⟨#[107, 105, 110, 100]⟩)), (2, .c (.string ⟨#[117, 115, 101]⟩)), (3, .c (.string ⟨#[116, 111, 110, 101]⟩))]), Io (.call 326 [(true, .t 3), (false, .t 4)])] [Mv 5 2])
 .ret)), lcF []⟩
def ks_dk9 : List (List (Option Nat)) := [[none]]
def gf_dk9 (a0 : Rd) : Option (Str × Int) := (gf_cv9 a0 ([(⟨#[110, 97, 109, 101]⟩ : Str), (⟨#[107, 105, 110, 100]⟩ : Str), (⟨#[117, 115, 101]⟩ : Str), (⟨#[116, 111, 110, 101]⟩ : Str)] : (List Str))).bind fun x2 => some (x2.1, x2.2)
def c_dk9 : Con := ⟨Rd × Option Addr × Nat, (Str × Int), 365, fun a => [.pio 0 290], fun a => gf_dk9 a.1, fun a r => ⟨[(false, [.v (.string r.1)])], [some [[.v (.slice a.2.1 (List.map eU8 a.1.b).length a.2.2), .v (.int .i64 r.2)]]]⟩, fun a => [(true, 290, [[.rw a.2.1 a.2.2 (List.map eU8 a.1.b), .v (.int .i64 a.1.p)]])]⟩
/-! spec.l2Val -/
def if_do9 : IFn := ⟨6, [.inl 2],
 (Rs [Io (.mv (.c (.string ⟨#[]⟩))) 2]
 (Rs (sq 3 [Mv 0, Io (.lit 49 [none] [.v (.string ⟨#[]⟩)] 5 [(0, .c (.string ⟨#[97]⟩)), (1, .c (.string ⟨#[98]⟩)), (2, .c (.string ⟨#[111, 97, 107]⟩)), (3, .c (.string ⟨#[97, 115, 104]⟩)), (4, .c (.string ⟨#[114, 111, 97, 100]⟩))]), Io (.call 326 [(true, .t 3), (false, .t 4)])] [Mv 5 2])
 .ret)), lcF []⟩
def ks_do9 : List (List (Option Nat)) := [[none]]
def gf_do9 (a0 : Rd) : Option (Str × Int) := (gf_cv9 a0 ([(⟨#[97]⟩ : Str), (⟨#[98]⟩ : Str), (⟨#[111, 97, 107]⟩ : Str), (⟨#[97, 115, 104]⟩ : Str), (⟨#[114, 111, 97, 100]⟩ : Str)] : (List Str))).bind fun x2 => some (x2.1, x2.2)
def c_do9 : Con := ⟨Rd × Option Addr × Nat, (Str × Int), 366, fun a => [.pio 0 290], fun a => gf_do9 a.1, fun a r => ⟨[(false, [.v (.string r.1)])], [some [[.v (.slice a.2.1 (List.map eU8 a.1.b).length a.2.2), .v (.int .i64 r.2)]]]⟩, fun a => [(true, 290, [[.rw a.2.1 a.2.2 (List.map eU8 a.1.b), .v (.int .i64 a.1.p)]])]⟩
/-! (*spec.l12Rd).num -/
def if_cu9 : IFn := ⟨12, [.inl 4],
 (Rs [Ki 0 4]
 (Rs (sq 5 [Mv 1, Mv 0, Mv 1, Ln 7, Io (.call 321 [(true, .t 6), (false, .t 8)]), Ia 1 5 9, Ld 1 10] [Mv 11 4])
 .ret)), lcF []⟩
def ks_cu9 : List (List (Option Nat)) := [[none]]
def gf_cu9 (a0 : Rd) (a1 : (List Int)) : Option (Int × Int) := (gf_cw9 a0 (a1.length : Int)).bind fun x1 => (idx a1 x1.1).bind fun x3 => some (x3, x1.2)
def c_cu9 : Con := ⟨Rd × (List Int) × Option Addr × Nat, (Int × Int), 356, fun a => [.pio 0 290, .ro (List.map eInt a.2.1)], fun a => gf_cu9 a.1 a.2.1, fun a r => ⟨[(false, [.v (.int .i64 r.1)])], [some [[.v (.slice a.2.2.1 (List.map eU8 a.1.b).length a.2.2.2), .v (.int .i64 r.2)]]]⟩, fun a => [(true, 290, [[.rw a.2.2.1 a.2.2.2 (List.map eU8 a.1.b), .v (.int .i64 a.1.p)]])]⟩
/-! spec.l1Pt -/
def if_db9 : IFn := ⟨9, [.inr (2, 2)],
 (Rs [Io (.alloc 66 [.v (.int .i64 0), .v (.int .i64 0)]) 2]
 (Rs (sq 3 [Mv 0, Io (.call 321 [(true, .t 3), (false, .c (.int .i64 4))]), Mv 0, Io (.lit 17 [none] [.v (.int .i64 0)] 4 [(0, .c (.int .i64 0)), (1, .c (.int .i64 1)), (2, .c (.int .i64 2)), (3, .c (.int .i64 5))]), Io (.call 356 [(true, .t 5), (false, .t 6)]), Io (.build [.v (.int .i64 0), .v (.int .i64 0)] [(0, 1, .t 4), (1, 1, .t 7)])] [Sv [none, none] 2 8])
 .ret)), lcF []⟩
def ks_db9 : List (List (Option Nat)) := [[none, none]]
def gf_db9 (a0 : Rd) : Option (Pt × Int) := (gf_cw9 a0 4).bind fun x2 => (gf_cu9 (⟨a0.b, x2.2⟩ : Rd) ([0, 1, 2, 5] : (List Int))).bind fun x5 => some ((⟨x2.1, x5.1⟩ : Pt), x5.2)
def c_db9 : Con := ⟨Rd × Option Addr × Nat, (Pt × Int), 387, fun a => [.pio 0 290], fun a => gf_db9 a.1, fun a r => ⟨[(true, ePt r.1)], [some [[.v (.slice a.2.1 (List.map eU8 a.1.b).length a.2.2), .v (.int .i64 r.2)]]]⟩, fun a => [(true, 290, [[.rw a.2.1 a.2.2 (List.map eU8 a.1.b), .v (.int .i64 a.1.p)]])]⟩
/-! spec.l1Min -/
def if_cz9 : IFn := ⟨10, [.inl 4],
 (Rs [Ki 0 4]
 (.seq (Rs (sq 5 [Mv 0, Mv 1, Bb .lss 5 6] [])
 (Ct 7 (Rs [Mv 0 8, Mv 8 4]
 .ret)
 .skip))
 (Rs [Mv 1 9, Mv 9 4]
 .ret))), lcF []⟩
def ks_cz9 : List (List (Option Nat)) := [[none]]
def gf_cz9 (a0 : Int) (a1 : Int) : Option Int := if (decide (a0 < a1)) = true then (some (a0)) else (some (a1))
def c_cz9 : Con := ⟨Int × Int, Int, 397, fun a => [.v (.int .i64 a.1), .v (.int .i64 a.2)], fun a => gf_cz9 a.1 a.2, fun a r => ⟨[(false, [.v (.int .i64 r)])], []⟩, fun a => []⟩
/-! spec.l1Shape -/
def if_de9 : IFn := ⟨76, [.inr (2, 2)],
 (Rs [Io (.alloc 226 [.v (.int .i64 0), .sl true 66 []]) 2]
 (Rs (sq 8 [Mv 0, Io (.lit 17 [none] [.v (.int .i64 0)] 5 [(0, .c (.int .i64 1)), (1, .c (.int .i64 2)), (2, .c (.int .i64 2)), (3, .c (.int .i64 3)), (4, .c (.int .i64 3))]), Io (.call 356 [(true, .t 8), (false, .t 9)]), Io (.build [.v (.int .i64 0), .nil] [(0, 1, .t 10)])] [Io (.alloc 226 [.v (.int .i64 0), .sl true 66 []]) 3, Sv [none, some 66] 3 11])
 (.seq (.drw (sq 12 [Fa 0 3, Ld 1 12, Mv 0, Io (.call 321 [(true, .t 14), (false, .c (.int .i64 4))]), Bb .add 13 15] [Mv 16 4]) [(1, 3)])
 (seqC (Rs (sq 17 [Fa 0 3, Ld 1 17, Bk .eql 18 1] [])
 (Ct 19 (.reg [Ki 1 4])
 .skip))
 (.seq (Rs [Ki 0 5]
 (blkC 0 (.loop (.seq (.seq (.drw (sq 20 [Mv 5, Bk .lss 20 12, Mv 21] (Sg 22 23 [Fa 1 3, Ld 1 23, Ln 24, Mv 4, Io (.call 397 [(false, .t 26), (false, .c (.int .i64 6))]), Bb .lss 25 27] [Pf 22 28 29])) [(4, 7)])
 (Ct 29 .skip
 (.exit 0)))
 (.seq (.block 1 (Rs (sq 32 [Mv 0, Io (.call 387 [(true, .t 32)])] [Io (.alloc 66 [.v (.int .i64 0), .v (.int .i64 0)]) 6, Sv [none, none] 6 33])
 (Rs (sq 34 [Fa 1 3, Ld 1 34, Ln 35] [Mv 36 7])
 (seqC (.drw (sq 37 [Mv 7, Bk .eql 37 0, Mv 38] (Sf 39 40 [Fa 1 3, Ld 1 40, Mv 7, Bk .sub 42 1, Ia 2 41 43, La 2 44, La 2 6, Io (.eqs true true [0, 0] (.t 45) (.t 46)), Mv 47] (Sg 48 49 [Fa 0 3, Ld 1 49, Bk .neq 50 3, Mv 51] (Sf 52 53 [Fa 1 3, Ld 1 53, Ik 2 54 0, La 2 55, La 2 6, Io (.eqs true true [0, 0] (.t 56) (.t 57))] [Gt 48 (Pk 52 58 59), Gf 39 (Pf 48 59 60), Pk 39 60 61])))) [(4, 9), (8, 9), (17, 20), (19, 20)])
 (Ct 61 (.reg (sq 62 [Fa 1 3, Ld 1 62, La 2 6, Io (.lit 66 [none, none] [.v (.int .i64 0), .v (.int .i64 0)] 1 [(0, .t 64)]), Io (.app 66 true (.t 63) (.t 65)), Fa 1 3] [Sv [some 66] 67 66]))
 .skip)))))
 (.reg (sq 30 [Mv 5, Bk .add 30 1] [Mv 31 5])))))))
 (.seq (Rs (sq 68 [La 2 3, Ca 15 [68], Nt 69] [])
 (Ct 70 (Rs (sq 71 [Mv 0, Io (.call 387 [(true, .t 71)]), Io (.lit 66 [none, none] [.v (.int .i64 0), .v (.int .i64 0)] 1 [(0, .t 72)]), Io (.build [.v (.int .i64 0), .nil] [(0, 1, .c (.int .i64 1)), (1, 1, .t 73)])] [Sv [none, some 66] 2 74])
 .ret)
 .skip))
 (Rs [La 2 3 75, Sv [none, some 66] 2 75]
 .ret))))))), lcF []⟩
def ks_de9 : List (List (Option Nat)) := [[none, some 66]]
def gl_de9_1 (q8 : Int) (a0 : Rd) (x3 : (Int × Int)) : Nat → Int → Int → (List Pt) → Option (Int × (List Pt))
 | 0, _, _, _ => none
 | n119 + 1, v110, v111, v115 => if (decide (v110 < 12)) = true then ((gf_cz9 q8 6).bind fun x120 => if (decide ((v115.length : Int) < x120)) = true then ((gf_db9 (⟨a0.b, v111⟩ : Rd)).bind fun x122 => ((if ((v115.length : Int) == 0) = true then (some true) else ((idx v115 (IntKind.i64.wrap ((v115.length : Int) - 1))).bind fun x130 => if (!((x130.x == x122.1.x) && ((x130.y == x122.1.y) && true))) = true then (if (x3.1 != 3) = true then (some true) else ((idx v115 0).bind fun x132 => some (!((x132.x == x122.1.x) && ((x132.y == x122.1.y) && true))))) else (some false)) : Option Bool)).bind fun q129 => if q129 = true then (if fits (v115 ++ ([x122.1] : (List Pt))).length = true then gl_de9_1 q8 a0 x3 n119 (IntKind.i64.wrap (v110 + 1)) x122.2 (v115 ++ ([x122.1] : (List Pt))) else none) else (gl_de9_1 q8 a0 x3 n119 (IntKind.i64.wrap (v110 + 1)) x122.2 v115)) else (some (v111, v115))) else (some (v111, v115))
def gf_de9 (a0 : Rd) : Option (Shape × Int) := (gf_cu9 a0 ([1, 2, 2, 3, 3] : (List Int))).bind fun x3 => (gf_cw9 (⟨a0.b, x3.2⟩ : Rd) 4).bind fun x6 => ((if (x3.1 == 1) = true then (some 1) else (some (IntKind.i64.wrap (x3.1 + x6.1))) : Option Int)).bind fun q8 => (gl_de9_1 q8 a0 x3 rounds 0 x6.2 []).bind fun q109 => (gf_cm9 (⟨x3.1, q109.2⟩ : Shape)).bind fun x154 => if (!x154) = true then ((gf_db9 (⟨a0.b, q109.1⟩ : Rd)).bind fun x156 => some ((⟨1, [x156.1]⟩ : Shape), x156.2)) else (some ((⟨x3.1, q109.2⟩ : Shape), q109.1))
def c_de9 : Con := ⟨Rd × Option Addr × Nat, (Shape × Int), 386, fun a => [.pio 0 290], fun a => gf_de9 a.1, fun a r => ⟨[(true, eShape true r.1)], [some [[.v (.slice a.2.1 (List.map eU8 a.1.b).length a.2.2), .v (.int .i64 r.2)]]]⟩, fun a => [(true, 290, [[.rw a.2.1 a.2.2 (List.map eU8 a.1.b), .v (.int .i64 a.1.p)]])]⟩
/-! spec.l2Feat -/
def if_di9 : IFn := ⟨26, [.inr (4, 4)],
 (Rs [Io (.alloc 100 [.v (.string ⟨#[]⟩), .v (.int .i64 0), .sl true 66 [], .sl true 82 []]) 4]
 (Rs (sq 7 [Mv 1, Mv 0, Io (.call 386 [(true, .t 8)]), Io (.build [.v (.string ⟨#[]⟩), .v (.int .i64 0), .nil, .nil] [(0, 1, .t 7), (1, 2, .t 9)])] [Io (.alloc 100 [.v (.string ⟨#[]⟩), .v (.int .i64 0), .sl true 66 [], .sl true 82 []]) 5, Sv [none, none, some 66, some 82] 5 10])
 (.seq (Rs (sq 11 [Mv 0, Io (.call 321 [(true, .t 11), (false, .c (.int .i64 4))])] [Mv 12 6])
 (blkC 0 (.loop (.seq (Rs (sq 13 [Mv 6, Bk .gtr 13 0] [])
 (Ct 14 .skip
 (.exit 0)))
 (.seq (.block 1 (.drw (sq 17 [Fa 3 5, Ld 1 17, Mv 0, Io (.call 365 [(true, .t 19)]), Mv 0, Io (.call 366 [(true, .t 21)]), Ca 47 [18, 20, 22], Fa 3 5] [Sv [some 82] 24 23]) [(1, 3), (1, 5)]))
 (.reg (sq 15 [Mv 6, Bk .sub 15 1] [Mv 16 6])))))))
 (Rs [La 4 5 25, Sv [none, none, some 66, some 82] 4 25]
 .ret)))), lcF []⟩
def ks_di9 : List (List (Option Nat)) := [[none, none, some 66, some 82]]
def gl_di9_1 (a0 : Rd) : Nat → Int → Int → (List Tag) → Option ((List Tag) × Int)
 | 0, _, _, _ => none
 | n46 + 1, v40, v41, v42 => if (decide (v40 > 0)) = true then ((gf_dk9 (⟨a0.b, v41⟩ : Rd)).bind fun x47 => (gf_do9 (⟨a0.b, x47.2⟩ : Rd)).bind fun x49 => (gf_dl9 v42 x47.1 x49.1).bind fun x51 => gl_di9_1 a0 n46 (IntKind.i64.wrap (v40 - 1)) x49.2 x51) else (some (v42, v41))
def gf_di9 (a0 : Rd) (a1 : Str) : Option (Feat × Int) := (gf_de9 a0).bind fun x2 => (gf_cw9 (⟨a0.b, x2.2⟩ : Rd) 4).bind fun x7 => (gl_di9_1 a0 rounds x7.1 x7.2 []).bind fun q39 => some ((⟨a1, x2.1, q39.1⟩ : Feat), q39.2)
def c_di9 : Con := ⟨Rd × Str × Option Addr × Nat, (Feat × Int), 363, fun a => [.pio 0 290, .v (.string a.2.1)], fun a => gf_di9 a.1 a.2.1, fun a r => ⟨[(true, eFeat true r.1)], [some [[.v (.slice a.2.2.1 (List.map eU8 a.1.b).length a.2.2.2), .v (.int .i64 r.2)]]]⟩, fun a => [(true, 290, [[.rw a.2.2.1 a.2.2.2 (List.map eU8 a.1.b), .v (.int .i64 a.1.p)]])]⟩
/-! spec.l1Bent -/
def if_cx9 : IFn := ⟨53, [.inr (2, 2)],
 (Rs [Io (.alloc 226 [.v (.int .i64 0), .sl true 66 []]) 2]
 (Rs (sq 5 [Mv 0, Io (.call 386 [(true, .t 5)])] [Io (.alloc 226 [.v (.int .i64 0), .sl true 66 []]) 3, Sv [none, some 66] 3 6])
 (Rs (sq 7 [Mv 0, Fa 1 3, Ld 1 8, Ln 9, Io (.call 321 [(true, .t 7), (false, .t 10)])] [Mv 11 4])
 (.seq (Rs (sq 12 [Mv 0, Io (.call 321 [(true, .t 12), (false, .c (.int .i64 40))])] [])
 (.block 0 (seqC (.reg [Bk .eql 13 0 15, Mv 15 14])
 (Ct 14 (.reg (sq 16 [Mv 0, Io (.lit 17 [none] [.v (.int .i64 0)] 5 [(0, .c (.int .i64 0)), (1, .c (.int .i64 4)), (2, .c (.int .i64 1)), (3, .c (.int .i64 2)), (4, .c (.int .i64 3))]), Io (.call 356 [(true, .t 16), (false, .t 17)]), Fa 0 3] [Sv [none] 19 18]))
 (Rs [Bk .eql 13 1 21, Mv 21 20]
 (Ct 20 (.drw (sq 22 [Fa 1 3, Ld 1 22, Mv 4, Mv 0, Io (.lit 17 [none] [.v (.int .i64 0)] 3 [(0, .c (.int .i64 1000)), (1, .c (.int .i64 1001)), (2, .c (.int .i64 (-1001)))]), Io (.call 356 [(true, .t 25), (false, .t 26)]), Ia 2 23 24, Fa 0 28] [Sv [none] 29 27]) [(1, 4), (1, 5)])
 (Rs [Bk .eql 13 2 31, Mv 31 30]
 (Ct 30 (.drw (sq 32 [Fa 1 3, Ld 1 32, Fa 1 3, Ld 1 34, Fa 1 3, Ld 1 36, Ln 37, Bk .sub 38 1, Ia 2 35 39, La 2 40, Io (.lit 66 [none, none] [.v (.int .i64 0), .v (.int .i64 0)] 1 [(0, .t 41)]), Io (.app 66 true (.t 33) (.t 42)), Fa 1 3] [Sv [some 66] 44 43]) [(1, 3), (1, 5), (3, 5), (1, 9), (1, 10)])
 (Rs [Bk .eql 13 3 46, Mv 46 45]
 (Ct 45 (.reg (sq 47 [Fa 1 3, Ld 1 47, Mv 4, Io (.trn (.sls 2 (.t 48) none (some (.t 49)))), Fa 1 3] [Sv [some 66] 51 50]))
 .skip))))))))))
 (Rs [La 2 3 52, Sv [none, some 66] 2 52]
 .ret))))), lcF []⟩
def ks_cx9 : List (List (Option Nat)) := [[none, some 66]]
def gf_cx9 (a0 : Rd) : Option (Shape × Int) := (gf_de9 a0).bind fun x2 => (gf_cw9 (⟨a0.b, x2.2⟩ : Rd) (x2.1.pts.length : Int)).bind fun x7 => (gf_cw9 (⟨a0.b, x7.2⟩ : Rd) 40).bind fun x9 => ((some () : Option Unit)).bind fun q11 => if (x9.1 == 0) = true then ((gf_cu9 (⟨a0.b, x9.2⟩ : Rd) ([0, 4, 1, 2, 3] : (List Int))).bind fun x19 => some ((⟨x19.1, x2.1.pts⟩ : Shape), x19.2)) else (if (x9.1 == 1) = true then ((gf_cu9 (⟨a0.b, x9.2⟩ : Rd) ([1000, 1001, (-1001)] : (List Int))).bind fun x22 => (idx x2.1.pts x7.1).bind fun x24 => some ((⟨x2.1.kind, (List.set x2.1.pts x7.1.toNat (⟨x22.1, x24.y⟩ : Pt))⟩ : Shape), x22.2)) else (if (x9.1 == 2) = true then ((idx x2.1.pts (IntKind.i64.wrap ((x2.1.pts.length : Int) - 1))).bind fun x26 => if fits (x2.1.pts ++ ([x26] : (List Pt))).length = true then some ((⟨x2.1.kind, (x2.1.pts ++ ([x26] : (List Pt)))⟩ : Shape), x9.2) else none) else (if (x9.1 == 3) = true then ((slc x2.1.pts 0 x7.1).bind fun x32 => some ((⟨x2.1.kind, x32⟩ : Shape), x9.2)) else (some (x2.1, x9.2)))))
def c_cx9 : Con := ⟨Rd × Option Addr × Nat, (Shape × Int), 372, fun a => [.pio 0 290], fun a => gf_cx9 a.1, fun a r => ⟨[(true, eShape true r.1)], [some [[.v (.slice a.2.1 (List.map eU8 a.1.b).length a.2.2), .v (.int .i64 r.2)]]]⟩, fun a => [(true, 290, [[.rw a.2.1 a.2.2 (List.map eU8 a.1.b), .v (.int .i64 a.1.p)]])]⟩
/-! spec.l2Bent -/
def if_dg9 : IFn := ⟨41, [.inr (2, 4)],
 (Rs [Io (.alloc 100 [.v (.string ⟨#[]⟩), .v (.int .i64 0), .sl true 66 [], .sl true 82 []]) 2]
 (seqC (.reg (sq 4 [Mv 0, Mv 0, Io (.call 362 [(true, .t 5)]), Io (.call 363 [(true, .t 4), (false, .t 6)])] [Io (.alloc 100 [.v (.string ⟨#[]⟩), .v (.int .i64 0), .sl true 66 [], .sl true 82 []]) 3, Sv [none, none, some 66, some 82] 3 7]))
 (.seq (Rs (sq 8 [Mv 0, Io (.call 321 [(true, .t 8), (false, .c (.int .i64 40))])] [])
 (.block 0 (Rs [Bk .eql 9 0 11, Mv 11 10]
 (Ct 10 (.reg (sq 12 [Mv 0, Io (.lit 49 [none] [.v (.string ⟨#[]⟩)] 3 [(0, .c (.string ⟨#[]⟩)), (1, .c (.string ⟨#[65]⟩)), (2, .c (.string ⟨#[97, 98, 99, 100, 101, 102, 103]⟩))]), Io (.call 326 [(true, .t 12), (false, .t 13)]), Fa 0 3] [Sv [none] 15 14]))
 (Rs [Bk .eql 9 1 17, Mv 17 16]
 (Ct 16 (.reg (sq 18 [Mv 0, Io (.call 372 [(true, .t 18)]), Fa 1 3] [Sv [none, some 66] 20 19]))
 (Rs [Bk .eql 9 2 22, Mv 22 21]
 (Ct 21 (.reg (sq 23 [Fa 3 3, Ld 1 23, Io (.build [.v (.string ⟨#[]⟩), .v (.string ⟨#[]⟩)] [(0, 1, .c (.string ⟨#[97]⟩)), (1, 1, .c (.string ⟨#[98]⟩))]), Io (.lit 82 [none, none] [.v (.string ⟨#[]⟩), .v (.string ⟨#[]⟩)] 1 [(0, .t 25)]), Io (.app 82 true (.t 24) (.t 26)), Fa 3 3] [Sv [some 82] 28 27]))
 (Rs [Bk .eql 9 3 30, Mv 30 29]
 (Ct 29 (.drw (sq 31 [Fa 3 3, Ld 1 31, Mv 0, Io (.lit 49 [none] [.v (.string ⟨#[]⟩)] 2 [(0, .c (.string ⟨#[]⟩)), (1, .c (.string ⟨#[66]⟩))]), Io (.call 326 [(true, .t 33), (false, .t 34)]), Io (.build [.v (.string ⟨#[]⟩), .v (.string ⟨#[]⟩)] [(0, 1, .c (.string ⟨#[122, 122]⟩)), (1, 1, .t 35)]), Io (.lit 82 [none, none] [.v (.string ⟨#[]⟩), .v (.string ⟨#[]⟩)] 1 [(0, .t 36)]), Io (.app 82 true (.t 32) (.t 37)), Fa 3 3] [Sv [some 82] 39 38]) [(1, 3), (1, 4), (1, 6)])
 .skip))))))))))
 (Rs [La 4 3 40, Sv [none, none, some 66, some 82] 2 40]
 .ret)))), lcF []⟩
def ks_dg9 : List (List (Option Nat)) := [[none, none, some 66, some 82]]
def gf_dg9 (a0 : Rd) : Option (Feat × Int) := (((gf_dj9 a0).bind fun x3 => (gf_di9 (⟨a0.b, x3.2⟩ : Rd) x3.1).bind fun x5 => some (x5.2, x5.1.shape.pts, x5.1.tags, x5.1.id, x5.1.shape.kind) : Option (Int × (List Pt) × (List Tag) × Str × Int))).bind fun q2 => (gf_cw9 (⟨a0.b, q2.1⟩ : Rd) 40).bind fun x27 => if (x27.1 == 0) = true then ((gf_cv9 (⟨a0.b, x27.2⟩ : Rd) ([(⟨#[]⟩ : Str), (⟨#[65]⟩ : Str), (⟨#[97, 98, 99, 100, 101, 102, 103]⟩ : Str)] : (List Str))).bind fun x30 => some ((⟨x30.1, ⟨q2.2.2.2.2, q2.2.1⟩, q2.2.2.1⟩ : Feat), x30.2)) else (if (x27.1 == 1) = true then ((gf_cx9 (⟨a0.b, x27.2⟩ : Rd)).bind fun x32 => some ((⟨q2.2.2.2.1, x32.1, q2.2.2.1⟩ : Feat), x32.2)) else (if (x27.1 == 2) = true then (if fits (q2.2.2.1 ++ ([(⟨(⟨#[97]⟩ : Str), (⟨#[98]⟩ : Str)⟩ : Tag)] : (List Tag))).length = true then some ((⟨q2.2.2.2.1, ⟨q2.2.2.2.2, q2.2.1⟩, (q2.2.2.1 ++ ([(⟨(⟨#[97]⟩ : Str), (⟨#[98]⟩ : Str)⟩ : Tag)] : (List Tag)))⟩ : Feat), x27.2) else none) else (if (x27.1 == 3) = true then ((gf_cv9 (⟨a0.b, x27.2⟩ : Rd) ([(⟨#[]⟩ : Str), (⟨#[66]⟩ : Str)] : (List Str))).bind fun x41 => if fits (q2.2.2.1 ++ ([(⟨(⟨#[122, 122]⟩ : Str), x41.1⟩ : Tag)] : (List Tag))).length = true then some ((⟨q2.2.2.2.1, ⟨q2.2.2.2.2, q2.2.1⟩, (q2.2.2.1 ++ ([(⟨(⟨#[122, 122]⟩ : Str), x41.1⟩ : Tag)] : (List Tag)))⟩ : Feat), x41.2) else none) else (some ((⟨q2.2.2.2.1, ⟨q2.2.2.2.2, q2.2.1⟩, q2.2.2.1⟩ : Feat), x27.2)))))
def c_dg9 : Con := ⟨Rd × Option Addr × Nat, (Feat × Int), 341, fun a => [.pio 0 290], fun a => gf_dg9 a.1, fun a r => ⟨[(true, eFeat true r.1)], [some [[.v (.slice a.2.1 (List.map eU8 a.1.b).length a.2.2), .v (.int .i64 r.2)]]]⟩, fun a => [(true, 290, [[.rw a.2.1 a.2.2 (List.map eU8 a.1.b), .v (.int .i64 a.1.p)]])]⟩
/-! spec.l3Put -/
def if_du9 : IFn := ⟨53, [.inl 4],
 (Rs (sq 3 [Io (.box 100 [none, none, some 66, some 82] (.t 1)), Io (.mv (.c (.slice none 0 0)))] [])
 (Rs [Io (.lit 100 [none, none, some 66, some 82] [.v (.string ⟨#[]⟩), .v (.int .i64 0), .sl true 66 [], .sl true 82 []] 0 []) 8, Mv 8 5]
 (Rs [Kb false 6]
 (.seq (Rs [Ki 0 7]
 (blkC 0 (.loop (.seq (Rs (sq 9 [Mv 7, Mv 0, Ln 10, Bb .lss 9 11] [])
 (Ct 12 .skip
 (.exit 0)))
 (.seq (.block 1 (seqC (.seq (.drw (sq 15 [Mv 6, Nt 15, Mv 16] (Sg 17 18 [Mv 0, Mv 7, Ia 4 18 19, Fa 0 20, Ld 1 21, Fa 0 3, Ld 1 23, Bb .geq 22 24] [Pf 17 25 26])) [(7, 9)])
 (Ct 26 (Rs (sq 27 [Mv 5, La 4 3, Io (.lit 100 [none, none, some 66, some 82] [.v (.string ⟨#[]⟩), .v (.int .i64 0), .sl true 66 [], .sl true 82 []] 1 [(0, .t 28)]), Io (.app 100 true (.t 27) (.t 29))] [Mv 30 5])
 (.reg [Kb true 6]))
 .skip))
 (.seq (.drw (sq 31 [Mv 0, Mv 7, Ia 4 31 32, Fa 0 33, Ld 1 34, Fa 0 3, Ld 1 36, Bb .neq 35 37] []) [(4, 6)])
 (Ct 38 (.reg (sq 39 [Mv 5, Mv 0, Mv 7, Ia 4 40 41, La 4 42, Io (.lit 100 [none, none, some 66, some 82] [.v (.string ⟨#[]⟩), .v (.int .i64 0), .sl true 66 [], .sl true 82 []] 1 [(0, .t 43)]), Io (.app 100 true (.t 39) (.t 44))] [Mv 45 5]))
 .skip))))
 (.reg (sq 13 [Mv 7, Bk .add 13 1] [Mv 14 7])))))))
 (.seq (Rs (sq 46 [Mv 6, Nt 46] [])
 (Ct 47 (.reg (sq 48 [Mv 5, La 4 3, Io (.lit 100 [none, none, some 66, some 82] [.v (.string ⟨#[]⟩), .v (.int .i64 0), .sl true 66 [], .sl true 82 []] 1 [(0, .t 49)]), Io (.app 100 true (.t 48) (.t 50))] [Mv 51 5]))
 .skip))
 (Rs [Mv 5 52, Mv 52 4]
 .ret)))))), lcF []⟩
def ks_du9 : List (List (Option Nat)) := [[some 100]]
def gl_du9_1 (a1 : Feat) : List Feat → Nat → Bool → (List Feat) → Option (Bool × (List Feat))
 | [], k84, v79, v81 => some (v79, v81)
 | x85 :: l86, k84, v79, v81 => ((if (!v79) = true then (if (!slt x85.id a1.id) = true then (if fits (v81 ++ ([a1] : (List Feat))).length = true then some (true, (v81 ++ ([a1] : (List Feat)))) else none) else (some (v79, v81))) else (some (v79, v81)) : Option (Bool × (List Feat)))).bind fun q97 => if (!seq x85.id a1.id) = true then (if fits (q97.2 ++ ([x85] : (List Feat))).length = true then gl_du9_1 a1 l86 (k84 + 1) q97.1 (q97.2 ++ ([x85] : (List Feat))) else none) else (gl_du9_1 a1 l86 (k84 + 1) q97.1 q97.2)
def gf_du9 (a0 : (List Feat)) (a1 : Feat) : Option (List Feat) := if fits a0.length = true then ((gl_du9_1 a1 a0 0 false []).bind fun q78 => if (!q78.1) = true then (if fits (q78.2 ++ ([a1] : (List Feat))).length = true then some ((q78.2 ++ ([a1] : (List Feat)))) else none) else (some (q78.2))) else none
def c_du9 : Con := ⟨(List Feat) × Feat, (List Feat), 37, fun a => [.io 0 a.1.length 100, .agg [.v (.string a.2.id), .v (.int .i64 a.2.shape.kind), .ro (List.map ePt a.2.shape.pts), .ro (List.map eTag a.2.tags)]], fun a => gf_du9 a.1 a.2, fun a r => ⟨[(false, [sl true 100 (List.map (eFeat false) r)])], [none]⟩, fun a => [(false, 100, List.map (eFeat false) a.1)]⟩
/-! spec.l3Sheet -/
def if_dv9 : IFn := ⟨19, [.inl 2],
 (Rs [Io (.mv (.c (.slice none 0 0))) 2]
 (Rs [Io (.lit 100 [none, none, some 66, some 82] [.v (.string ⟨#[]⟩), .v (.int .i64 0), .sl true 66 [], .sl true 82 []] 0 []) 5, Io (.ren 2000003 100 (.mv (.t 5))) 3]
 (.seq (Rs (sq 6 [Mv 0, Io (.call 321 [(true, .t 6), (false, .c (.int .i64 5))])] [Mv 7 4])
 (blkC 0 (.loop (.seq (Rs (sq 8 [Mv 4, Bk .gtr 8 0] [])
 (Ct 9 .skip
 (.exit 0)))
 (.seq (.block 1 (.reg (sq 12 [Mv 3, Mv 0, Mv 0, Io (.call 362 [(true, .t 14)]), Io (.frz (.call 363 [(true, .t 13), (false, .t 15)])), Io (.call 37 [(true, .t 12), (false, .t 16)])] [Io (.ren 2000003 100 (.mv (.t 17))) 3])))
 (.reg (sq 10 [Mv 4, Bk .sub 10 1] [Mv 11 4])))))))
 (Rs [Mv 3 18, Mv 18 2]
 .ret)))), lcF []⟩
def ks_dv9 : List (List (Option Nat)) := [[some 100]]
def gl_dv9_1 (a0 : Rd) : Nat → Int → Int → (List Feat) → Option ((List Feat) × Int)
 | 0, _, _, _ => none
 | n51 + 1, v46, v47, v48 => if (decide (v46 > 0)) = true then ((gf_dj9 (⟨a0.b, v47⟩ : Rd)).bind fun x52 => (gf_di9 (⟨a0.b, x52.2⟩ : Rd) x52.1).bind fun x54 => (gf_du9 v48 x54.1).bind fun x60 => gl_dv9_1 a0 n51 (IntKind.i64.wrap (v46 - 1)) x54.2 x60) else (some (v48, v47))
def gf_dv9 (a0 : Rd) : Option ((List Feat) × Int) := (gf_cw9 a0 5).bind fun x2 => (gl_dv9_1 a0 rounds x2.1 x2.2 []).bind fun q45 => some (q45.1, q45.2)
def c_dv9 : Con := ⟨Rd × Option Addr × Nat, ((List Feat) × Int), 361, fun a => [.pio 0 290], fun a => gf_dv9 a.1, fun a r => ⟨[(false, [sl true 100 (List.map (eFeat false) r.1)])], [some [[.v (.slice a.2.1 (List.map eU8 a.1.b).length a.2.2), .v (.int .i64 r.2)]]]⟩, fun a => [(true, 290, [[.rw a.2.1 a.2.2 (List.map eU8 a.1.b), .v (.int .i64 a.1.p)]])]⟩
/-! spec.l3Bent -/
def if_dp9 : IFn := ⟨38, [.inl 2],
 (Rs [Io (.mv (.c (.slice none 0 0))) 2]
 (Rs (sq 5 [Mv 0, Io (.call 361 [(true, .t 5)])] [Io (.ren 2000003 100 (.mv (.t 6))) 3])
 (.seq (Rs (sq 7 [Mv 0, Io (.call 321 [(true, .t 7), (false, .c (.int .i64 40))])] [])
 (.block 0 (Rs [Bk .eql 8 0 10, Mv 10 9]
 (Ct 9 (.reg (sq 11 [Mv 3, Mv 0, Io (.frz (.call 341 [(true, .t 12)])), Io (.lit 100 [none, none, some 66, some 82] [.v (.string ⟨#[]⟩), .v (.int .i64 0), .sl true 66 [], .sl true 82 []] 1 [(0, .t 13)]), Io (.app 100 true (.t 11) (.t 14))] [Io (.ren 2000003 100 (.mv (.t 15))) 3]))
 (Rs [Bk .eql 8 1 17, Mv 17 16]
 (Ct 16 (Rs (sq 18 [Mv 3, Mv 3, Io (.app 100 false (.t 18) (.t 19))] [Mv 20 2])
 .ret)
 (Rs [Bk .eql 8 2 22, Mv 22 21]
 (Ct 21 (Rs [Ki 0 4]
 (blkC 1 (.loop (.seq (Rs (sq 23 [Mv 4, Bk .leq 23 8] [])
 (Ct 24 .skip
 (.exit 1)))
 (.seq (.block 2 (.reg (sq 27 [Mv 3, Mv 4, Mv 4, Bk .add 29 1, Io (.ssl (.c (.string ⟨#[113, 114, 115, 116, 117, 118, 119, 120, 121, 122]⟩)) (some (.t 28)) (some (.t 30))), Io (.build [.v (.int .i64 0), .v (.int .i64 0)] []), Io (.lit 66 [none, none] [.v (.int .i64 0), .v (.int .i64 0)] 1 [(0, .t 32)]), Io (.build [.v (.int .i64 0), .nil] [(0, 1, .c (.int .i64 1)), (1, 1, .t 33)]), Io (.frz (.build [.v (.string ⟨#[]⟩), .v (.int .i64 0), .nil, .nil] [(0, 1, .t 31), (1, 2, .t 34)])), Io (.call 37 [(true, .t 27), (false, .t 35)])] [Io (.ren 2000003 100 (.mv (.t 36))) 3])))
 (.reg (sq 25 [Mv 4, Bk .add 25 1] [Mv 26 4])))))))
 .skip))))))))
 (Rs [Mv 3 37, Mv 37 2]
 .ret)))), lcF []⟩
def ks_dp9 : List (List (Option Nat)) := [[some 100]]
def gl_dp9_1 : Nat → Int → (List Feat) → Option (List Feat)
 | 0, _, _ => none
 | n52 + 1, v48, v49 => if (decide (v48 ≤ 8)) = true then ((sslc (⟨#[113, 114, 115, 116, 117, 118, 119, 120, 121, 122]⟩ : Str) v48 (IntKind.i64.wrap (v48 + 1))).bind fun x53 => (gf_du9 v49 (⟨x53, ⟨1, [(⟨0, 0⟩ : Pt)]⟩, []⟩ : Feat)).bind fun x56 => gl_dp9_1 n52 (IntKind.i64.wrap (v48 + 1)) x56) else (some v49)
def gf_dp9 (a0 : Rd) : Option ((List Feat) × Int) := (gf_dv9 a0).bind fun x1 => (gf_cw9 (⟨a0.b, x1.2⟩ : Rd) 40).bind fun x5 => if (x5.1 == 0) = true then ((gf_dg9 (⟨a0.b, x5.2⟩ : Rd)).bind fun x7 => if fits (x1.1 ++ ([x7.1] : (List Feat))).length = true then some ((x1.1 ++ ([x7.1] : (List Feat))), x7.2) else none) else (if (x5.1 == 1) = true then (if fits (x1.1 ++ x1.1).length = true then some ((x1.1 ++ x1.1), x5.2) else none) else (if (x5.1 == 2) = true then ((gl_dp9_1 rounds 0 x1.1).bind fun q47 => some (q47, x5.2)) else (some (x1.1, x5.2))))
def c_dp9 : Con := ⟨Rd × Option Addr × Nat, ((List Feat) × Int), 335, fun a => [.pio 0 290], fun a => gf_dp9 a.1, fun a r => ⟨[(false, [sl true 100 (List.map (eFeat false) r.1)])], [some [[.v (.slice a.2.1 (List.map eU8 a.1.b).length a.2.2), .v (.int .i64 r.2)]]]⟩, fun a => [(true, 290, [[.rw a.2.1 a.2.2 (List.map eU8 a.1.b), .v (.int .i64 a.1.p)]])]⟩
/-! spec.RepoNew -/
def if_ck9 : IFn := ⟨14, [.inr (2, 2), .inl 3],
 (Rs (sq 2 [Io (.alloc 210 [.sl true 115 [], .sl true 130 []]), Kb false] [])
 (.seq (Rs (sq 4 [Mv 0, Ca 14 [4], Nt 5] [])
 (Ct 6 (Rs [Io (.build [.nil, .nil] []) 7, Sv [some 115, some 130] 2 7, Kb false 3]
 .ret)
 .skip))
 (Rs (sq 8 [Io (.build [.nil, .nil, .v (.string ⟨#[]⟩)] [(2, 1, .c (.string ⟨#[98, 101, 103, 105, 110]⟩))]), Io (.lit 115 [some 17, some 100, none] [.sl true 17 [], .sl true 100 [], .v (.string ⟨#[]⟩)] 1 [(0, .t 8)]), Mv 0, Io (.build [.v (.string ⟨#[]⟩), .v (.int .i64 0)] [(0, 1, .t 10)]), Io (.lit 130 [none, none] [.v (.string ⟨#[]⟩), .v (.int .i64 0)] 1 [(0, .t 11)]), Io (.build [.nil, .nil] [(0, 1, .t 9), (1, 1, .t 12)])] [Sv [some 115, some 130] 2 13, Kb true 3])
 .ret))), lcF []⟩
def ks_ck9 : List (List (Option Nat)) := [[some 115, some 130], [none]]
def gf_ck9 (a0 : Str) : Option (Repo × Bool) := (gf_cr9 a0).bind fun x2 => if (!x2) = true then (some ((⟨[], []⟩ : Repo), false)) else (some ((⟨[(⟨[], [], (⟨#[98, 101, 103, 105, 110]⟩ : Str)⟩ : Commit)], [(⟨a0, 0⟩ : Head)]⟩ : Repo), true))
def c_ck9 : Con := ⟨Str, (Repo × Bool), 227, fun a => [.v (.string a)], fun a => gf_ck9 a, fun a r => ⟨[(true, eRepo true r.1), (false, [.v (.bool r.2)])], []⟩, fun a => []⟩
/-! spec.RepoBranch -/
def if_cj9 : IFn := ⟨54, [.inr (6, 2), .inl 7],
 (Rs (Io (.box 210 [some 115, some 130] (.t 0)) 3 :: (sq 6 [Io (.alloc 210 [.sl true 115 [], .sl true 130 []]), Ki 0] []))
 (.seq (Rs (sq 10 [La 2 3, Ca 33 [10], Nt 11, Mv 12] (Sf 13 14 [Mv 1, Ca 14 [14], Nt 15] [Pk 13 16 17]))
 (Ct 17 (Rs [Io (.build [.nil, .nil] []) 18, Sv [some 115, some 130] 6 18, Ki 4 7]
 .ret)
 .skip))
 (seqC (.reg (sq 19 [La 2 3, Ca 61 [19]] [Io (.alloc 210 [.sl true 115 [], .sl true 130 []]) 8, Sv [some 115, some 130] 8 20]))
 (Rs (sq 21 [La 2 3, Mv 2, Ca 28 [21, 22]] [Mv 23 9])
 (.seq (.block 0 (Rs (sq 25 [Mv 9, Bk .lss 25 0] [Mv 26 24])
 (Ct 24 (Rs [La 2 8 27, Sv [some 115, some 130] 6 27, Ki 1 7]
 .ret)
 (Rs (sq 29 [La 2 3, Mv 1, Ca 28 [29, 30], Bk .geq 31 0, Mv 32] (Sf 33 34 [Fa 1 3, Ld 1 34, Ln 35, Bk .geq 36 4] [Pk 33 37 38, Mv 38 28]))
 (Ct 28 (Rs [La 2 8 39, Sv [some 115, some 130] 6 39, Ki 2 7]
 .ret)
 .skip)))))
 (.seq (.drw (sq 40 [Fa 1 8, Ld 1 40, Mv 1, Fa 1 3, Ld 1 43, Mv 9, Ia 2 44 45, Fa 1 46, Ld 1 47, Io (.build [.v (.string ⟨#[]⟩), .v (.int .i64 0)] [(0, 1, .t 42), (1, 1, .t 48)]), Io (.lit 130 [none, none] [.v (.string ⟨#[]⟩), .v (.int .i64 0)] 1 [(0, .t 49)]), Io (.app 130 true (.t 41) (.t 50)), Fa 1 8] [Sv [some 130] 52 51]) [(1, 4), (1, 8), (1, 10)])
 (Rs [La 2 8 53, Sv [some 115, some 130] 6 53, Ki 0 7]
 .ret))))))), lcF []⟩
def ks_cj9 : List (List (Option Nat)) := [[some 115, some 130], [none]]
def gf_cj9 (a0 : Repo) (a1 : Str) (a2 : Str) : Option (Repo × Int) := (gf_cl9 a0).bind fun x3 => if (!x3) = true then (some ((⟨[], []⟩ : Repo), 4)) else ((gf_cr9 a1).bind fun x5 => if (!x5) = true then (some ((⟨[], []⟩ : Repo), 4)) else ((((gf_eg9 a0).bind fun x8 => some (x8.commits, x8.heads) : Option ((List Commit) × (List Head)))).bind fun q7 => (gf_ej9 a0 a2).bind fun x22 => if (decide (x22 < 0)) = true then (some ((⟨q7.1, q7.2⟩ : Repo), 1)) else ((gf_ej9 a0 a1).bind fun x24 => if (decide (x24 ≥ 0)) = true then (some ((⟨q7.1, q7.2⟩ : Repo), 2)) else (if (decide ((a0.heads.length : Int) ≥ 4)) = true then (some ((⟨q7.1, q7.2⟩ : Repo), 2)) else ((idx a0.heads x22).bind fun x26 => if fits (q7.2 ++ ([(⟨a1, x26.at_⟩ : Head)] : (List Head))).length = true then some ((⟨q7.1, (q7.2 ++ ([(⟨a1, x26.at_⟩ : Head)] : (List Head)))⟩ : Repo), 0) else none)))))
def c_cj9 : Con := ⟨Repo × Str × Str, (Repo × Int), 224, fun a => [.agg [.ro (List.map (eCommit false) a.1.commits), .ro (List.map eHead a.1.heads)], .v (.string a.2.1), .v (.string a.2.2)], fun a => gf_cj9 a.1 a.2.1 a.2.2, fun a r => ⟨[(true, eRepo true r.1), (false, [.v (.int .i64 r.2)])], []⟩, fun a => []⟩
/-! spec.l7Name -/
def if_el9 : IFn := ⟨6, [.inl 2],
 (Rs [Io (.mv (.c (.string ⟨#[]⟩))) 2]
 (Rs (sq 3 [Mv 0, Io (.lit 49 [none] [.v (.string ⟨#[]⟩)] 3 [(0, .c (.string ⟨#[109, 97, 105, 110]⟩)), (1, .c (.string ⟨#[97, 110, 110]⟩)), (2, .c (.string ⟨#[98, 111, 98]⟩))]), Io (.call 326 [(true, .t 3), (false, .t 4)])] [Mv 5 2])
 .ret)), lcF []⟩
def ks_el9 : List (List (Option Nat)) := [[none]]
def gf_el9 (a0 : Rd) : Option (Str × Int) := (gf_cv9 a0 ([(⟨#[109, 97, 105, 110]⟩ : Str), (⟨#[97, 110, 110]⟩ : Str), (⟨#[98, 111, 98]⟩ : Str)] : (List Str))).bind fun x2 => some (x2.1, x2.2)
def c_el9 : Con := ⟨Rd × Option Addr × Nat, (Str × Int), 327, fun a => [.pio 0 290], fun a => gf_el9 a.1, fun a r => ⟨[(false, [.v (.string r.1)])], [some [[.v (.slice a.2.1 (List.map eU8 a.1.b).length a.2.2), .v (.int .i64 r.2)]]]⟩, fun a => [(true, 290, [[.rw a.2.1 a.2.2 (List.map eU8 a.1.b), .v (.int .i64 a.1.p)]])]⟩
/-! spec.l3Cut -/
def if_dr9 : IFn := ⟨29, [.inl 4],
 (Rs [Io (.mv (.c (.slice none 0 0))) 4]
 (Rs [Io (.lit 100 [none, none, some 66, some 82] [.v (.string ⟨#[]⟩), .v (.int .i64 0), .sl true 66 [], .sl true 82 []] 0 []) 7, Mv 7 5]
 (.seq (Rs [Ki 0 6]
 (blkC 0 (.loop (.seq (Rs (sq 8 [Mv 6, Mv 0, Ln 9, Bb .lss 8 10] [])
 (Ct 11 .skip
 (.exit 0)))
 (.seq (.block 1 (Rs (sq 14 [Mv 0, Mv 6, Ia 4 14 15, Fa 0 16, Ld 1 17, Mv 1, Bb .neq 18 19] [])
 (Ct 20 (.reg (sq 21 [Mv 5, Mv 0, Mv 6, Ia 4 22 23, La 4 24, Io (.lit 100 [none, none, some 66, some 82] [.v (.string ⟨#[]⟩), .v (.int .i64 0), .sl true 66 [], .sl true 82 []] 1 [(0, .t 25)]), Io (.app 100 true (.t 21) (.t 26))] [Mv 27 5]))
 .skip)))
 (.reg (sq 12 [Mv 6, Bk .add 12 1] [Mv 13 6])))))))
 (Rs [Mv 5 28, Mv 28 4]
 .ret)))), lcF []⟩
def ks_dr9 : List (List (Option Nat)) := [[some 100]]
def gl_dr9_1 (a1 : Str) : List Feat → Nat → (List Feat) → Option (List Feat)
 | [], k29, v26 => some v26
 | x30 :: l31, k29, v26 => if (!seq x30.id a1) = true then (if fits (v26 ++ ([x30] : (List Feat))).length = true then gl_dr9_1 a1 l31 (k29 + 1) (v26 ++ ([x30] : (List Feat))) else none) else (gl_dr9_1 a1 l31 (k29 + 1) v26)
def gf_dr9 (a0 : (List Feat)) (a1 : Str) : Option (List Feat) := if fits a0.length = true then ((gl_dr9_1 a1 a0 0 []).bind fun q24 => some (q24)) else none
def c_dr9 : Con := ⟨(List Feat) × Str, (List Feat), 364, fun a => [.ro (List.map (eFeat false) a.1), .v (.string a.2)], fun a => gf_dr9 a.1 a.2, fun a r => ⟨[(false, [sl true 100 (List.map (eFeat false) r)])], []⟩, fun a => []⟩
/-! spec.l4Bend -/
def if_dw9 : IFn := ⟨67, [.inr (4, 2)],
 (Rs (sq 3 [Io (.box 226 [none, some 66] (.t 1)), Io (.alloc 226 [.v (.int .i64 0), .sl true 66 []])] [])
 (.seq (Rs (sq 8 [Fa 1 3, Ld 1 8, Ln 9, Bk .eql 10 0] [])
 (Ct 11 (Rs [La 2 3 12, Sv [none, some 66] 4 12]
 .ret)
 .skip))
 (Rs (sq 13 [Mv 0, Fa 1 3, Ld 1 14, Ln 15, Io (.call 321 [(true, .t 13), (false, .t 16)])] [Mv 17 5])
 (Rs (sq 18 [Io (.lit 66 [none, none] [.v (.int .i64 0), .v (.int .i64 0)] 0 []), Fa 1 3, Ld 1 19, Mv 5, Io (.sls 2 (.t 20) none (some (.t 21))), Io (.app 66 false (.t 18) (.t 22))] [Mv 23 6])
 (seqC (Rs (sq 24 [Mv 0, Io (.call 321 [(true, .t 24), (false, .c (.int .i64 3))])] [])
 (.block 0 (Rs [Bk .eql 25 0 38, Mv 38 37]
 (Ct 37 (.drw (sq 39 [Mv 6, Mv 0, Io (.call 387 [(true, .t 40)]), Io (.lit 66 [none, none] [.v (.int .i64 0), .v (.int .i64 0)] 1 [(0, .t 41)]), Io (.app 66 true (.t 39) (.t 42)), Fa 1 3, Ld 1 44, Mv 5, Io (.sls 2 (.t 45) (some (.t 46)) none), Io (.app 66 false (.t 43) (.t 47))] [Mv 48 6]) [(2, 6), (3, 6), (4, 6)])
 (Rs [Bk .eql 25 1 50, Mv 50 49]
 (Ct 49 (.reg (sq 51 [Mv 6, Fa 1 3, Ld 1 52, Mv 5, Bk .add 54 1, Io (.sls 2 (.t 53) (some (.t 55)) none), Io (.app 66 false (.t 51) (.t 56))] [Mv 57 6]))
 (.drw (sq 26 [Mv 6, Mv 0, Io (.call 387 [(true, .t 27)]), Io (.lit 66 [none, none] [.v (.int .i64 0), .v (.int .i64 0)] 1 [(0, .t 28)]), Io (.app 66 true (.t 26) (.t 29)), Fa 1 3, Ld 1 31, Mv 5, Bk .add 33 1, Io (.sls 2 (.t 32) (some (.t 34)) none), Io (.app 66 false (.t 30) (.t 35))] [Mv 36 6]) [(2, 6), (3, 6), (4, 6)])))))))
 (Rs (sq 58 [Fa 0 3, Ld 1 58, Mv 6, Io (.build [.v (.int .i64 0), .nil] [(0, 1, .t 59), (1, 1, .t 60)])] [Io (.alloc 226 [.v (.int .i64 0), .sl true 66 []]) 7, Sv [none, some 66] 7 61])
 (.seq (Rs (sq 62 [La 2 7, Ca 15 [62], Nt 63] [])
 (Ct 64 (Rs [La 2 3 65, Sv [none, some 66] 4 65]
 .ret)
 .skip))
 (Rs [Io (.frz (.load 2 true (.t 7))) 66, Sv [none, some 66] 4 66]
 .ret)))))))), lcF []⟩
def ks_dw9 : List (List (Option Nat)) := [[none, some 66]]
def gf_dw9 (a0 : Rd) (a1 : Shape) : Option (Shape × Int) := if ((a1.pts.length : Int) == 0) = true then (some (a1, a0.p)) else ((gf_cw9 a0 (a1.pts.length : Int)).bind fun x3 => (slc a1.pts 0 x3.1).bind fun x6 => if fits ([] ++ x6).length = true then (((gf_cw9 (⟨a0.b, x3.2⟩ : Rd) 3).bind fun x41 => if (x41.1 == 0) = true then ((gf_db9 (⟨a0.b, x41.2⟩ : Rd)).bind fun x43 => if fits (([] ++ x6) ++ ([x43.1] : (List Pt))).length = true then (slc a1.pts x3.1 (a1.pts.length : Int)).bind fun x49 => if fits ((([] ++ x6) ++ ([x43.1] : (List Pt))) ++ x49).length = true then some (((([] ++ x6) ++ ([x43.1] : (List Pt))) ++ x49), x43.2) else none else none) else (if (x41.1 == 1) = true then ((slc a1.pts (IntKind.i64.wrap (x3.1 + 1)) (a1.pts.length : Int)).bind fun x54 => if fits (([] ++ x6) ++ x54).length = true then some ((([] ++ x6) ++ x54), x41.2) else none) else ((gf_db9 (⟨a0.b, x41.2⟩ : Rd)).bind fun x59 => if fits (([] ++ x6) ++ ([x59.1] : (List Pt))).length = true then (slc a1.pts (IntKind.i64.wrap (x3.1 + 1)) (a1.pts.length : Int)).bind fun x65 => if fits ((([] ++ x6) ++ ([x59.1] : (List Pt))) ++ x65).length = true then some (((([] ++ x6) ++ ([x59.1] : (List Pt))) ++ x65), x59.2) else none else none)) : Option ((List Pt) × Int))).bind fun q40 => (gf_cm9 (⟨a1.kind, q40.1⟩ : Shape)).bind fun x79 => if (!x79) = true then (some (a1, q40.2)) else (some ((⟨a1.kind, q40.1⟩ : Shape), q40.2)) else none)
def c_dw9 : Con := ⟨Rd × Shape × Option Addr × Nat, (Shape × Int), 367, fun a => [.pio 0 290, .agg [.v (.int .i64 a.2.1.kind), .ro (List.map ePt a.2.1.pts)]], fun a => gf_dw9 a.1 a.2.1, fun a r => ⟨[(true, eShape false r.1)], [some [[.v (.slice a.2.2.1 (List.map eU8 a.1.b).length a.2.2.2), .v (.int .i64 r.2)]]]⟩, fun a => [(true, 290, [[.rw a.2.2.1 a.2.2.2 (List.map eU8 a.1.b), .v (.int .i64 a.1.p)]])]⟩
/-! spec.l4Near -/
def if_dz9 : IFn := ⟨77, [.inl 4],
 (Rs [Io (.mv (.c (.slice none 0 0))) 4]
 (Rs [Mv 1 11, Mv 11 5]
 (.seq (Rs (sq 12 [Mv 0, Io (.call 321 [(true, .t 12), (false, .c (.int .i64 3))]), Io (.bin .add (.c (.int .i64 1)) (.t 13))] [Mv 14 6])
 (blkC 0 (.loop (.seq (Rs (sq 15 [Mv 6, Bk .gtr 15 0] [])
 (Ct 16 .skip
 (.exit 0)))
 (.seq (.block 1 (Rs (sq 19 [Mv 0, Io (.call 362 [(true, .t 19)])] [Mv 20 7])
 (Rs (sq 21 [Mv 5, Mv 7, Ca 39 [21, 22]] [Mv 23 8])
 (.block 2 (Rs (sq 38 [Mv 8, Bk .lss 38 0] [Mv 39 37])
 (Ct 37 (.reg (sq 40 [Mv 5, Mv 0, Mv 7, Io (.frz (.call 363 [(true, .t 41), (false, .t 42)])), Io (.frz (.call 37 [(false, .t 40), (false, .t 43)]))] [Mv 44 5]))
 (Rs (sq 46 [Mv 0, Io (.call 321 [(true, .t 46), (false, .c (.int .i64 4))]), Bk .eql 47 0] [Mv 48 45])
 (Ct 45 (.reg (sq 49 [Mv 5, Mv 7, Io (.frz (.call 364 [(false, .t 49), (false, .t 50)]))] [Mv 51 5]))
 (Rs (sq 53 [Mv 0, Io (.call 321 [(true, .t 53), (false, .c (.int .i64 2))]), Bk .eql 54 0] [Mv 55 52])
 (Ct 52 (Rs (sq 56 [Mv 5, Mv 8, Ia 4 56 57, La 4 58, Ca 30 [59]] [Io (.alloc 100 [.v (.string ⟨#[]⟩), .v (.int .i64 0), .sl true 66 [], .sl true 82 []]) 9, Sv [none, none, some 66, some 82] 9 60])
 (.seq (.drw (sq 61 [Fa 3 9, Ld 1 61, Mv 0, Io (.call 365 [(true, .t 63)]), Mv 0, Io (.call 366 [(true, .t 65)]), Ca 47 [62, 64, 66], Fa 3 9] [Sv [some 82] 68 67]) [(1, 3), (1, 5)])
 (.reg (sq 69 [Mv 5, Io (.frz (.load 4 true (.t 9))), Io (.frz (.call 37 [(false, .t 69), (false, .t 70)]))] [Mv 71 5]))))
 (seqC (.reg (sq 24 [Mv 5, Mv 8, Ia 4 24 25, La 4 26, Ca 30 [27]] [Io (.alloc 100 [.v (.string ⟨#[]⟩), .v (.int .i64 0), .sl true 66 [], .sl true 82 []]) 10, Sv [none, none, some 66, some 82] 10 28]))
 (Rs (sq 29 [Mv 0, Fa 1 10, Io (.frz (.load 2 true (.t 30))), Io (.call 367 [(true, .t 29), (false, .t 31)]), Fa 1 10] [Sv [none, some 66] 33 32])
 (.reg (sq 34 [Mv 5, Io (.frz (.load 4 true (.t 10))), Io (.frz (.call 37 [(false, .t 34), (false, .t 35)]))] [Mv 36 5]))))))))))))))
 (.reg (sq 17 [Mv 6, Bk .sub 17 1] [Mv 18 6])))))))
 (.seq (Rs (sq 72 [Mv 5, Ca 26 [72], Nt 73] [])
 (Ct 74 (Rs [Mv 1 75, Mv 75 4]
 .ret)
 .skip))
 (Rs [Mv 5 76, Mv 76 4]
 .ret))))), lcF []⟩
def ks_dz9 : List (List (Option Nat)) := [[some 100]]
def gl_dz9_1 (a0 : Rd) : Nat → (List Feat) → Int → Int → Option ((List Feat) × Int)
 | 0, _, _, _ => none
 | n214 + 1, v211, v212, v213 => if (decide (v212 > 0)) = true then ((gf_dj9 (⟨a0.b, v213⟩ : Rd)).bind fun x215 => (gf_ds9 v211 x215.1).bind fun x217 => if (decide (x217 < 0)) = true then ((gf_di9 (⟨a0.b, x215.2⟩ : Rd) x215.1).bind fun x219 => (gf_dt9 v211 x219.1).bind fun x225 => gl_dz9_1 a0 n214 x225 (IntKind.i64.wrap (v212 - 1)) x219.2) else ((gf_cw9 (⟨a0.b, x215.2⟩ : Rd) 4).bind fun x229 => if (x229.1 == 0) = true then ((gf_dr9 v211 x215.1).bind fun x231 => gl_dz9_1 a0 n214 x231 (IntKind.i64.wrap (v212 - 1)) x229.2) else ((gf_cw9 (⟨a0.b, x229.2⟩ : Rd) 2).bind fun x235 => if (x235.1 == 0) = true then ((idx v211 x217).bind fun x237 => (gf_dh9 x237).bind fun x239 => (gf_dk9 (⟨a0.b, x235.2⟩ : Rd)).bind fun x246 => (gf_do9 (⟨a0.b, x246.2⟩ : Rd)).bind fun x248 => (gf_dl9 x239.tags x246.1 x248.1).bind fun x250 => (gf_dt9 v211 (⟨x239.id, x239.shape, x250⟩ : Feat)).bind fun x254 => gl_dz9_1 a0 n214 x254 (IntKind.i64.wrap (v212 - 1)) x248.2) else ((((idx v211 x217).bind fun x259 => (gf_dh9 x259).bind fun x261 => some (x261.shape.pts, x261.tags, x261.id, x261.shape.kind) : Option ((List Pt) × (List Tag) × Str × Int))).bind fun q258 => (gf_dw9 (⟨a0.b, x235.2⟩ : Rd) (⟨q258.2.2.2, q258.1⟩ : Shape)).bind fun x277 => (gf_dt9 v211 (⟨q258.2.2.1, x277.1, q258.2.1⟩ : Feat)).bind fun x279 => gl_dz9_1 a0 n214 x279 (IntKind.i64.wrap (v212 - 1)) x277.2)))) else (some (v211, v213))
def gf_dz9 (a0 : Rd) (a1 : (List Feat)) : Option ((List Feat) × Int) := (gf_cw9 a0 3).bind fun x1 => (gl_dz9_1 a0 rounds a1 (IntKind.i64.wrap (1 + x1.1)) x1.2).bind fun q210 => (gf_cp9 q210.1).bind fun x285 => if (!x285) = true then (some (a1, q210.2)) else (some (q210.1, q210.2))
def c_dz9 : Con := ⟨Rd × (List Feat) × Option Addr × Nat, ((List Feat) × Int), 336, fun a => [.pio 0 290, .ro (List.map (eFeat false) a.2.1)], fun a => gf_dz9 a.1 a.2.1, fun a r => ⟨[(false, [sl false 100 (List.map (eFeat false) r.1)])], [some [[.v (.slice a.2.2.1 (List.map eU8 a.1.b).length a.2.2.2), .v (.int .i64 r.2)]]]⟩, fun a => [(true, 290, [[.rw a.2.2.1 a.2.2.2 (List.map eU8 a.1.b), .v (.int .i64 a.1.p)]])]⟩
/-! spec.l7Note -/
def if_em9 : IFn := ⟨6, [.inl 2],
 (Rs [Io (.mv (.c (.string ⟨#[]⟩))) 2]
 (Rs (sq 3 [Mv 0, Io (.lit 49 [none] [.v (.string ⟨#[]⟩)] 3 [(0, .c (.string ⟨#[97, 110, 110]⟩)), (1, .c (.string ⟨#[98, 111, 98]⟩)), (2, .c (.string ⟨#[102, 105, 120]⟩))]), Io (.call 326 [(true, .t 3), (false, .t 4)])] [Mv 5 2])
 .ret)), lcF []⟩
def ks_em9 : List (List (Option Nat)) := [[none]]
def gf_em9 (a0 : Rd) : Option (Str × Int) := (gf_cv9 a0 ([(⟨#[97, 110, 110]⟩ : Str), (⟨#[98, 111, 98]⟩ : Str), (⟨#[102, 105, 120]⟩ : Str)] : (List Str))).bind fun x2 => some (x2.1, x2.2)
def c_em9 : Con := ⟨Rd × Option Addr × Nat, (Str × Int), 377, fun a => [.pio 0 290], fun a => gf_em9 a.1, fun a r => ⟨[(false, [.v (.string r.1)])], [some [[.v (.slice a.2.1 (List.map eU8 a.1.b).length a.2.2), .v (.int .i64 r.2)]]]⟩, fun a => [(true, 290, [[.rw a.2.1 a.2.2 (List.map eU8 a.1.b), .v (.int .i64 a.1.p)]])]⟩
/-! spec.l7Grow -/
def if_ei9 : IFn := ⟨92, [.inr (4, 2)],
 (Rs (sq 3 [Io (.box 210 [some 115, some 130] (.t 1)), Io (.alloc 210 [.sl true 115 [], .sl true 130 []])] [])
 (Rs (sq 12 [Mv 0, Io (.call 327 [(true, .t 12)])] [Mv 13 5])
 (Rs (sq 14 [La 2 3, Mv 5, Ca 28 [14, 15]] [Mv 16 6])
 (.seq (Rs (sq 17 [Mv 6, Bk .lss 17 0] [])
 (Ct 18 (.seq (.drw (sq 20 [La 2 3, Mv 5, Fa 1 3, Ld 1 22, Mv 0, Fa 1 3, Ld 1 25, Ln 26, Io (.call 321 [(true, .t 24), (false, .t 27)]), Ia 2 23 28, Fa 0 29, Ld 1 30, Ca 224 [20, 21, 31]] (Mv 32 19 :: (sq 33 [Xt 19 0, Xt 19 1] [Io (.alloc 210 [.sl true 115 [], .sl true 130 []]) 7, Sv [some 115, some 130] 7 33, Mv 34 8]))) [(0, 3), (0, 6), (3, 6), (0, 8), (3, 8), (0, 11), (0, 16), (3, 16), (6, 16), (8, 16), (11, 16), (12, 16)])
 (.seq (Rs (sq 35 [Fa 1 7, Ld 1 35, Ln 36, Bk .gtr 37 0] [])
 (Ct 38 (Rs [La 2 7 39, Sv [some 115, some 130] 4 39]
 .ret)
 .skip))
 (Rs [Io (.ldr 2 (.t 3)) 40, Iz (.store [none, none] (.t 4) (.t 40))]
 .ret)))
 .skip))
 (Rs (sq 41 [Fa 1 3, Ld 1 41, Mv 6, Ia 2 42 43, Fa 1 44, Ld 1 45] [Mv 46 9])
 (seqC (.reg (sq 47 [Mv 9, Io (.lit 17 [none] [.v (.int .i64 0)] 1 [(0, .t 47)]), Mv 0, Fa 0 3, Ld 1 50, Mv 9, Ia 3 51 52, Fa 1 53, Ld 1 54, Io (.call 336 [(true, .t 49), (false, .t 55)]), Mv 0, Io (.call 377 [(true, .t 57)]), Io (.build [.nil, .nil, .v (.string ⟨#[]⟩)] [(0, 1, .t 48), (1, 1, .t 56), (2, 1, .t 58)])] [Io (.alloc 115 [.sl true 17 [], .sl true 100 [], .v (.string ⟨#[]⟩)]) 10, Sv [some 17, some 100, none] 10 59]))
 (.seq (.drw (sq 60 [Fa 1 3, Ld 1 60, Mv 0, Fa 1 3, Ld 1 63, Ln 64, Io (.call 321 [(true, .t 62), (false, .t 65)]), Ia 2 61 66, Fa 1 67, Ld 1 68] [Mv 69 11]) [(1, 4), (1, 6)])
 (seqC (Rs (sq 70 [Mv 11, Mv 9, Bb .neq 70 71, Mv 72] (Sg 73 74 [Mv 0, Io (.call 321 [(true, .t 74), (false, .c (.int .i64 4))]), Bk .eql 75 0] [Pf 73 76 77]))
 (Ct 77 (.reg (sq 78 [Mv 9, Mv 11, Io (.lit 17 [none] [.v (.int .i64 0)] 2 [(0, .t 78), (1, .t 79)]), Fa 0 10] [Sv [some 17] 81 80]))
 .skip))
 (.seq (Rs (sq 82 [Fa 0 3, Ld 1 82, Ln 83, Bk .geq 84 12] [])
 (Ct 85 (Rs [Io (.ldr 2 (.t 3)) 86, Iz (.store [none, none] (.t 4) (.t 86))]
 .ret)
 .skip))
 (.seq (.drw (sq 87 [La 2 3, Ca 61 [87], Mv 6, La 3 10, Io (.call 60 [(true, .t 88), (false, .t 89), (false, .t 90)])] [Sv [some 115, some 130] 4 91]) [(0, 3), (1, 3)])
 .ret)))))))))), lcF []⟩
def ks_ei9 : List (List (Option Nat)) := [[some 115, some 130]]
def gf_ei9 (a0 : Rd) (a1 : Repo) : Option ((Option Repo) × Int) := (gf_el9 a0).bind fun x3 => (gf_ej9 a1 x3.1).bind fun x5 => if (decide (x5 < 0)) = true then ((gf_cw9 (⟨a0.b, x3.2⟩ : Rd) (a1.heads.length : Int)).bind fun x7 => (idx a1.heads x7.1).bind fun x9 => (gf_cj9 a1 x3.1 x9.name).bind fun x11 => if (decide ((x11.1.heads.length : Int) > 0)) = true then (some ((some x11.1), x7.2)) else (some ((none : Option Repo), x7.2))) else ((idx a1.heads x5).bind fun x18 => (((idx a1.commits x18.at_).bind fun x22 => (gf_dz9 (⟨a0.b, x3.2⟩ : Rd) x22.sheet).bind fun x24 => (gf_em9 (⟨a0.b, x24.2⟩ : Rd)).bind fun x26 => some (x26.2, x24.1, x26.1) : Option (Int × (List Feat) × Str))).bind fun q20 => (gf_cw9 (⟨a0.b, q20.1⟩ : Rd) (a1.heads.length : Int)).bind fun x41 => (idx a1.heads x41.1).bind fun x43 => ((if (x43.at_ != x18.at_) = true then ((gf_cw9 (⟨a0.b, x41.2⟩ : Rd) 4).bind fun x49 => if (x49.1 == 0) = true then (some ([x18.at_, x43.at_], x49.2)) else (some ([x18.at_], x49.2))) else (some ([x18.at_], x41.2)) : Option ((List Int) × Int))).bind fun q48 => if (decide ((a1.commits.length : Int) ≥ 12)) = true then (some ((none : Option Repo), q48.2)) else ((gf_eg9 a1).bind fun x63 => (gf_ee9 x63 x5 (⟨q48.1, q20.2.1, q20.2.2⟩ : Commit)).bind fun x69 => some ((some x69), q48.2)))
def c_ei9 : Con := ⟨Rd × Repo × Option Addr × Nat × Option Addr × Nat × Option Addr × Nat, ((Option Repo) × Int), 357, fun a => [.pio 0 290, .agg [.raw a.2.2.2.2.1 a.2.2.2.2.2.1 (List.map (eCommit false) a.2.1.commits), .raw a.2.2.2.2.2.2.1 a.2.2.2.2.2.2.2 (List.map eHead a.2.1.heads)]], fun a => gf_ei9 a.1 a.2.1, fun a r => ⟨[(true, match r.1 with | some q => eRepo true q | none => [.v (.slice a.2.2.2.2.1 (List.map (eCommit false) a.2.1.commits).length a.2.2.2.2.2.1), .v (.slice a.2.2.2.2.2.2.1 (List.map eHead a.2.1.heads).length a.2.2.2.2.2.2.2)])], [some [[.v (.slice a.2.2.1 (List.map eU8 a.1.b).length a.2.2.2.1), .v (.int .i64 r.2)]]]⟩, fun a => [(true, 290, [[.rw a.2.2.1 a.2.2.2.1 (List.map eU8 a.1.b), .v (.int .i64 a.1.p)]])]⟩
/-! spec.l7Repo -/
def if_eo9 : IFn := ⟨44, [.inr (2, 2)],
 (Rs [Io (.alloc 210 [.sl true 115 [], .sl true 130 []]) 2]
 (Rs (Io (.call 227 [(false, .c (.string ⟨#[109, 97, 105, 110]⟩))]) 7 :: (Mv 7 6 :: (sq 8 [Io (.pfz 1 (.ext (.t 6) 0)), Xt 6 1] [Io (.alloc 210 [.sl true 115 [], .sl true 130 []]) 3, Sv [some 115, some 130] 3 8, Mv 9 4])))
 (.seq (.drw (sq 10 [Fa 0 3, Ld 1 10, Mv 0, Io (.frz (.call 361 [(true, .t 12)])), Ik 3 11 0, Fa 1 14] [Sv [some 100] 15 13]) [(1, 3)])
 (.seq (Rs (sq 16 [Mv 0, Io (.call 321 [(true, .t 16), (false, .c (.int .i64 7))]), Io (.bin .add (.c (.int .i64 2)) (.t 17))] [Mv 18 5])
 (blkC 0 (.loop (.seq (Rs (sq 19 [Mv 5, Bk .gtr 19 0] [])
 (Ct 20 .skip
 (.exit 0)))
 (.seq (.block 1 (.reg (sq 23 [Mv 0, Io (.rawl (.load 2 true (.t 3))), Io (.pfz 1 (.unr [1000384, 1000385] (.call 357 [(true, .t 23), (false, .t 24)])))] [Sv [some 115, some 130] 3 25])))
 (.reg (sq 21 [Mv 5, Bk .sub 21 1] [Mv 22 5])))))))
 (.seq (Rs (sq 26 [Mv 0, Io (.call 321 [(true, .t 26), (false, .c (.int .i64 4))]), Bk .eql 27 0, Mv 28] (Sg 29 30 [Fa 1 3, Ld 1 30, Ln 31, Bk .gtr 32 1] [Pf 29 33 34]))
 (Ct 34 (.reg (sq 35 [Fa 1 3, Ld 1 35, Fa 1 3, Ld 1 37, Ln 38, Bk .sub 39 1, Io (.trn (.sls 2 (.t 36) none (some (.t 40)))), Fa 1 3] [Sv [some 130] 42 41]))
 .skip))
 (Rs [La 2 3 43, Sv [some 115, some 130] 2 43]
 .ret)))))), lcF []⟩
def ks_eo9 : List (List (Option Nat)) := [[some 115, some 130]]
def gl_eo9_1 (a0 : Rd) : Nat → Int → Int → (List Commit) → (List Head) → Option (Int × (List Commit) × (List Head))
 | 0, _, _, _, _ => none
 | n71 + 1, v57, v58, v64, v67 => if (decide (v57 > 0)) = true then ((gf_ei9 (⟨a0.b, v58⟩ : Rd) (⟨v64, v67⟩ : Repo)).bind fun x72 => match x72 with | (none, p75) => (gl_eo9_1 a0 n71 (IntKind.i64.wrap (v57 - 1)) p75 v64 v67) | (some y74, p75) => (gl_eo9_1 a0 n71 (IntKind.i64.wrap (v57 - 1)) p75 y74.commits y74.heads)) else (some (v58, v64, v67))
def gf_eo9 (a0 : Rd) : Option (Repo × Int) := (gf_ck9 (⟨#[109, 97, 105, 110]⟩ : Str)).bind fun x2 => (gf_dv9 a0).bind fun x9 => (idx x2.1.commits 0).bind fun x13 => (gf_cw9 (⟨a0.b, x9.2⟩ : Rd) 7).bind fun x15 => (gl_eo9_1 a0 rounds (IntKind.i64.wrap (2 + x15.1)) x15.2 (List.set x2.1.commits (0 : Int).toNat (⟨x13.up, x9.1, x13.note⟩ : Commit)) x2.1.heads).bind fun q56 => (gf_cw9 (⟨a0.b, q56.1⟩ : Rd) 4).bind fun x90 => if (x90.1 == 0) = true then (if (decide ((q56.2.2.length : Int) > 1)) = true then ((slc q56.2.2 0 (IntKind.i64.wrap ((q56.2.2.length : Int) - 1))).bind fun x92 => some ((⟨q56.2.1, x92⟩ : Repo), x90.2)) else (some ((⟨q56.2.1, q56.2.2⟩ : Repo), x90.2))) else (some ((⟨q56.2.1, q56.2.2⟩ : Repo), x90.2))
def c_eo9 : Con := ⟨Rd × Option Addr × Nat, (Repo × Int), 355, fun a => [.pio 0 290], fun a => gf_eo9 a.1, fun a r => ⟨[(true, eRepoX r.1)], [some [[.v (.slice a.2.1 (List.map eU8 a.1.b).length a.2.2), .v (.int .i64 r.2)]]]⟩, fun a => [(true, 290, [[.rw a.2.1 a.2.2 (List.map eU8 a.1.b), .v (.int .i64 a.1.p)]])]⟩
/-! spec.l7Bent -/
def if_ef9 : IFn := ⟨77, [.inr (2, 2)],
 (Rs [Io (.alloc 210 [.sl true 115 [], .sl true 130 []]) 2]
 (Rs (sq 5 [Mv 0, Io (.call 355 [(true, .t 5)])] [Io (.alloc 210 [.sl true 115 [], .sl true 130 []]) 3, Sv [some 115, some 130] 3 6])
 (Rs (sq 7 [Mv 0, Fa 0 3, Ld 1 8, Ln 9, Io (.call 321 [(true, .t 7), (false, .t 10)])] [Mv 11 4])
 (.seq (Rs (sq 12 [Mv 0, Io (.call 321 [(true, .t 12), (false, .c (.int .i64 48))])] [])
 (.block 0 (seqC (.reg [Bk .eql 13 0 15, Mv 15 14])
 (Ct 14 (.drw (sq 16 [Fa 1 3, Ld 1 16, Mv 0, Fa 0 3, Ld 1 19, Ln 20, Io (.lit 17 [none] [.v (.int .i64 0)] 2 [(0, .c (.int .i64 (-1))), (1, .t 21)]), Io (.call 356 [(true, .t 18), (false, .t 22)]), Ik 2 17 0, Fa 1 24] [Sv [none] 25 23]) [(1, 4), (1, 6), (1, 7)])
 (Rs [Bk .eql 13 1 27, Mv 27 26]
 (Ct 26 (.drw (sq 28 [Fa 0 3, Ld 1 28, Mv 4, Fa 0 3, Ld 1 31, Mv 4, Ia 3 32 33, Fa 0 34, Ld 1 35, Mv 4, Io (.lit 17 [none] [.v (.int .i64 0)] 1 [(0, .t 37)]), Io (.app 17 true (.t 36) (.t 38)), Ia 3 29 30, Fa 0 40] [Sv [some 17] 41 39]) [(1, 4), (1, 8), (1, 10), (4, 10), (8, 10), (1, 11)])
 (Rs [Bk .eql 13 2 43, Mv 43 42]
 (Ct 42 (.drw (sq 44 [Fa 0 3, Ld 1 44, Mv 4, Mv 0, Io (.frz (.call 335 [(true, .t 47)])), Ia 3 45 46, Fa 1 49] [Sv [some 100] 50 48]) [(1, 4)])
 (Rs [Bk .eql 13 3 52, Mv 52 51]
 (Ct 51 (.reg (sq 53 [Fa 0 3, Ld 1 53, Mv 4, Ia 3 54 55, Fa 2 56] [Iz (.store [none] (.t 57) (.c (.string ⟨#[]⟩)))]))
 (Rs [Bk .eql 13 4 59, Mv 59 58]
 (Ct 58 (.drw (sq 60 [Fa 1 3, Ld 1 60, Fa 1 3, Ld 1 62, Ik 2 63 0, La 2 64, Io (.lit 130 [none, none] [.v (.string ⟨#[]⟩), .v (.int .i64 0)] 1 [(0, .t 65)]), Io (.app 130 true (.t 61) (.t 66)), Fa 1 3] [Sv [some 130] 68 67]) [(1, 3), (1, 5), (1, 6)])
 (Rs [Bk .eql 13 5 70, Mv 70 69]
 (Ct 69 (.reg (sq 71 [Fa 0 3, Ld 1 71, Mv 4, Ia 3 72 73, Fa 0 74] [Iz (.store [some 17] (.t 75) (.c (.slice none 0 0)))]))
 .skip))))))))))))))
 (Rs [La 2 3 76, Sv [some 115, some 130] 2 76]
 .ret))))), lcF []⟩
def ks_ef9 : List (List (Option Nat)) := [[some 115, some 130]]
def gf_ef9 (a0 : Rd) : Option (Repo × Int) := (gf_eo9 a0).bind fun x2 => (gf_cw9 (⟨a0.b, x2.2⟩ : Rd) (x2.1.commits.length : Int)).bind fun x9 => (gf_cw9 (⟨a0.b, x9.2⟩ : Rd) 48).bind fun x11 => ((some () : Option Unit)).bind fun q13 => if (x11.1 == 0) = true then ((gf_cu9 (⟨a0.b, x11.2⟩ : Rd) ([(-1), (x2.1.commits.length : Int)] : (List Int))).bind fun x25 => (idx x2.1.heads 0).bind fun x27 => some ((⟨x2.1.commits, (List.set x2.1.heads (0 : Int).toNat (⟨x27.name, x25.1⟩ : Head))⟩ : Repo), x25.2)) else (if (x11.1 == 1) = true then ((idx x2.1.commits x9.1).bind fun x29 => if fits (x29.up ++ ([x9.1] : (List Int))).length = true then some ((⟨(List.set x2.1.commits x9.1.toNat (⟨(x29.up ++ ([x9.1] : (List Int))), x29.sheet, x29.note⟩ : Commit)), x2.1.heads⟩ : Repo), x11.2) else none) else (if (x11.1 == 2) = true then ((gf_dp9 (⟨a0.b, x11.2⟩ : Rd)).bind fun x37 => (idx x2.1.commits x9.1).bind fun x41 => some ((⟨(List.set x2.1.commits x9.1.toNat (⟨x41.up, x37.1, x41.note⟩ : Commit)), x2.1.heads⟩ : Repo), x37.2)) else (if (x11.1 == 3) = true then ((idx x2.1.commits x9.1).bind fun x43 => some ((⟨(List.set x2.1.commits x9.1.toNat (⟨x43.up, x43.sheet, (⟨#[]⟩ : Str)⟩ : Commit)), x2.1.heads⟩ : Repo), x11.2)) else (if (x11.1 == 4) = true then ((idx x2.1.heads 0).bind fun x45 => if fits (x2.1.heads ++ ([x45] : (List Head))).length = true then some ((⟨x2.1.commits, (x2.1.heads ++ ([x45] : (List Head)))⟩ : Repo), x11.2) else none) else (if (x11.1 == 5) = true then ((idx x2.1.commits x9.1).bind fun x51 => some ((⟨(List.set x2.1.commits x9.1.toNat (⟨[], x51.sheet, x51.note⟩ : Commit)), x2.1.heads⟩ : Repo), x11.2)) else (some (x2.1, x11.2)))))))
def c_ef9 : Con := ⟨Rd × Option Addr × Nat, (Repo × Int), 317, fun a => [.pio 0 290], fun a => gf_ef9 a.1, fun a r => ⟨[(true, eRepoX r.1)], [some [[.v (.slice a.2.1 (List.map eU8 a.1.b).length a.2.2), .v (.int .i64 r.2)]]]⟩, fun a => [(true, 290, [[.rw a.2.1 a.2.2 (List.map eU8 a.1.b), .v (.int .i64 a.1.p)]])]⟩
/-! slices.Equal[[]impl.Head,impl.Head] -/
def if_bp9 : IFn := ⟨26, [.inl 4],
 (Rs [Kb false 4]
 (.seq (Rs (sq 6 [Mv 0, Ln 6, Mv 1, Ln 8, Bb .neq 7 9] [])
 (Ct 10 (Rs [Kb false 4]
 .ret)
 .skip))
 (.seq (Rs (sq 11 [Mv 0, Ln 11, Ki 0] [])
 (blkC 0 (.loop (Rs [Bb .lss 13 12 14]
 (.seq (Ct 14 .skip
 (.exit 0))
 (.seq (.block 1 (Rs [Mv 13 15, Mv 15 5]
 (.seq (.drw (sq 16 [Mv 0, Mv 5, Ia 2 16 17, La 2 18, Mv 1, Mv 5, Ia 2 20 21, La 2 22, Io (.eqs true true [2, 0] (.t 19) (.t 23))] []) [(3, 7)])
 (Ct 24 (Rs [Kb false 4]
 .ret)
 .skip))))
 (.reg [Bk .add 13 1 25, Mv 25 13])))))))
 (Rs [Kb true 4]
 .ret)))), lcF []⟩
def ks_bp9 : List (List (Option Nat)) := [[none]]
def gl_bp9_1 (a1 : (List Head)) : List Head → Nat → Option (Bool ⊕ Unit)
 | [], k16 => some (.inr ())
 | x17 :: l18, k16 => (idx a1 (k16 : Int)).bind fun x25 => if (!((x17.name == x25.name) && ((x17.at_ == x25.at_) && true))) = true then (some (.inl (false))) else (gl_bp9_1 a1 l18 (k16 + 1) )
def gf_bp9 (a0 : (List Head)) (a1 : (List Head)) : Option Bool := if ((a0.length : Int) != (a1.length : Int)) = true then (some (false)) else (if fits a0.length = true then ((gl_bp9_1 a1 a0 0 ).bind fun q => match q with | .inl r => some r | .inr q14 => some (true)) else none)
def c_bp9 : Con := ⟨(List Head) × (List Head), Bool, 331, fun a => [.ro (List.map eHead a.1), .ro (List.map eHead a.2)], fun a => gf_bp9 a.1 a.2, fun a r => ⟨[(false, [.v (.bool r)])], []⟩, fun a => []⟩
/-! slices.EqualFunc[[]impl.Commit,[]impl.Commit,impl.Commit,impl.Commit] -/
def if_bl9 : IFn := ⟨32, [.inl 6],
 (Rs [Kb false 6]
 (.seq (Rs (sq 10 [Mv 0, Ln 10, Mv 1, Ln 12, Bb .neq 11 13] [])
 (Ct 14 (Rs [Kb false 6]
 .ret)
 .skip))
 (.seq (Rs (sq 15 [Mv 0, Ln 15, Ki 0] [])
 (blkC 0 (.loop (Rs [Bb .lss 17 16 18]
 (.seq (Ct 18 .skip
 (.exit 0))
 (.seq (.block 1 (Rs (sq 19 [Mv 17, Ia 3 15 17, La 3 20] [Io (.alloc 115 [.sl true 17 [], .sl true 100 [], .v (.string ⟨#[]⟩)]) 8, Mv 19 7, Sv [some 17, some 100, none] 8 21])
 (Rs (sq 22 [Mv 1, Mv 7, Ia 3 22 23, La 3 24] [Io (.alloc 115 [.sl true 17 [], .sl true 100 [], .v (.string ⟨#[]⟩)]) 9, Sv [some 17, some 100, none] 9 25])
 (Rs (sq 26 [Mv 2, La 3 8, La 3 9, Io (.calld (.t 26) [(false, .t 27), (false, .t 28)]), Nt 29] [])
 (Ct 30 (Rs [Kb false 6]
 .ret)
 .skip)))))
 (.reg [Bk .add 17 1 31, Mv 31 17])))))))
 (Rs [Kb true 6]
 .ret)))), lcF []⟩
def ks_bl9 : List (List (Option Nat)) := [[none]]
def gl_bm9_1 (a1 : (List Commit)) : List Commit → Nat → Option (Bool ⊕ Unit)
 | [], k28 => some (.inr ())
 | x29 :: l30, k28 => (idx a1 (k28 : Int)).bind fun x38 => (gf_be9 x29 x38).bind fun x41 => if (!x41) = true then (some (.inl (false))) else (gl_bm9_1 a1 l30 (k28 + 1) )
def gf_bm9 (a0 : (List Commit)) (a1 : (List Commit)) : Option Bool := if ((a0.length : Int) != (a1.length : Int)) = true then (some (false)) else (if fits a0.length = true then ((gl_bm9_1 a1 a0 0 ).bind fun q => match q with | .inl r => some r | .inr q26 => some (true)) else none)
def c_bm9 : Con := ⟨(List Commit) × (List Commit), Bool, 329, fun a => [.ro (List.map (eCommit false) a.1), .ro (List.map (eCommit false) a.2), .fn 330 []], fun a => gf_bm9 a.1 a.2, fun a r => ⟨[(false, [.v (.bool r)])], []⟩, fun a => []⟩
/-! impl.RepoSame -/
def if_al9 : IFn := ⟨17, [.inl 4],
 (Rs (sq 2 [Io (.box 210 [some 115, some 130] (.t 0)), Io (.box 210 [some 115, some 130] (.t 1)), Kb false] [])
 (Rs (sq 5 [Fa 0 2, Ld 1 5, Fa 0 3, Ld 1 7, Io (.call 329 [(false, .t 6), (false, .t 8), (false, .f 330)]), Mv 9] (Sg 10 11 [Fa 1 2, Ld 1 11, Fa 1 3, Ld 1 13, Ca 331 [12, 14]] [Pf 10 15 16, Mv 16 4]))
 .ret)), lcF []⟩
def ks_al9 : List (List (Option Nat)) := [[none]]
def gf_al9 (a0 : Repo) (a1 : Repo) : Option Bool := (gf_bm9 a0.commits a1.commits).bind fun x3 => if x3 = true then ((gf_bp9 a0.heads a1.heads).bind fun x5 => some (x5)) else (some (false))
def c_al9 : Con := ⟨Repo × Repo, Bool, 228, fun a => [.agg [.ro (List.map (eCommit false) a.1.commits), .ro (List.map eHead a.1.heads)], .agg [.ro (List.map (eCommit false) a.2.commits), .ro (List.map eHead a.2.heads)]], fun a => gf_al9 a.1 a.2, fun a r => ⟨[(false, [.v (.bool r)])], []⟩, fun a => []⟩
/-! spec.DrawRepoSame -/
def if_cd9 : IFn := ⟨34, [.inr (2, 2), .inr (3, 2)],
 (Rs (sq 2 [Io (.alloc 210 [.sl true 115 [], .sl true 130 []]), Io (.alloc 210 [.sl true 115 [], .sl true 130 []])] [])
 (seqC (.reg (sq 6 [Mv 0, Ca 316 [6], Io (.call 317 [(true, .t 7)])] [Io (.alloc 210 [.sl true 115 [], .sl true 130 []]) 4, Sv [some 115, some 130] 4 8]))
 (Rs (sq 9 [Mv 0, Ca 316 [9], Io (.call 317 [(true, .t 10)])] [Io (.alloc 210 [.sl true 115 [], .sl true 130 []]) 5, Sv [some 115, some 130] 5 11])
 (.seq (Rs (sq 12 [Mv 0, Ln 12, Bk .gtr 13 0, Mv 14] (Sg 15 16 [Mv 0, Io (.iaddr 1 (.w 16) (.c (.int .i64 0))), Ld 1 17, Io (.bin .rem (.t 18) (.c (.int .u8 2))), Io (.bin .eql (.t 19) (.c (.int .u8 1)))] [Pf 15 20 21]))
 (Ct 21 (.drw (sq 22 [Fa 0 5, Ld 1 22, Fa 0 5, Ld 1 24, Io (.iaddr 3 (.w 25) (.c (.int .i64 0))), Fa 2 26, Ld 1 27, Io (.bin .add (.t 28) (.c (.string ⟨#[97]⟩))), Io (.iaddr 3 (.w 23) (.c (.int .i64 0))), Fa 2 30] [Sv [none] 31 29]) [(1, 3), (1, 6)])
 .skip))
 (.seq (.drw (sq 32 [La 2 4, La 2 5] [Sv [some 115, some 130] 2 32, Sv [some 115, some 130] 3 33]) [(0, 1), (1, 2)])
 .ret))))), lcF []⟩
def ks_cd9 : List (List (Option Nat)) := [[some 115, some 130], [some 115, some 130]]
def gf_cd9 (a0 : (List UInt8)) : Option (Repo × Repo) := (((gf_ct9 a0).bind fun x4 => (gf_ef9 x4).bind fun x7 => some (x7.1.commits, x7.1.heads) : Option ((List Commit) × (List Head)))).bind fun q3 => (gf_ct9 a0).bind fun x21 => (gf_ef9 x21).bind fun x24 => if (decide ((a0.length : Int) > 0)) = true then ((idx a0 0).bind fun x31 => if ((Int.tmod (x31.toNat : Int) 2) == 1) = true then ((idx x24.1.commits 0).bind fun x33 => (cat x33.note (⟨#[97]⟩ : Str)).bind fun x35 => some ((⟨q3.1, q3.2⟩ : Repo), (⟨(List.set x24.1.commits (0 : Int).toNat (⟨x33.up, x33.sheet, x35⟩ : Commit)), x24.1.heads⟩ : Repo))) else (some ((⟨q3.1, q3.2⟩ : Repo), x24.1))) else (some ((⟨q3.1, q3.2⟩ : Repo), x24.1))
def c_cd9 : Con := ⟨(List UInt8) × Option Addr × Nat, (Repo × Repo), 250, fun a => [.raw a.2.1 a.2.2 (List.map eU8 a.1)], fun a => gf_cd9 a.1, fun a r => ⟨[(true, eRepoX r.1), (true, eRepoX r.2)], []⟩, fun a => []⟩
/-! spec.l12Dec -/
def if_cs9 : IFn := ⟨31, [.inl 2],
 (Rs [Io (.mv (.c (.string ⟨#[]⟩))) 2]
 (.seq (Rs (sq 4 [Mv 0, Bk .lss 4 (-9223372036854775807)] [])
 (Ct 5 (Rs [Io (.mv (.c (.string ⟨#[45, 57, 50, 50, 51, 51, 55, 50, 48, 51, 54, 56, 53, 52, 55, 55, 53, 56, 48, 56]⟩))) 2]
 .ret)
 .skip))
 (.seq (Rs (sq 6 [Mv 0, Bk .lss 6 0] [])
 (Ct 7 (Rs (sq 8 [Mv 0, Io (.un .neg (.t 8)), Ca 337 [9], Io (.bin .add (.c (.string ⟨#[45]⟩)) (.t 10))] [Mv 11 2])
 .ret)
 .skip))
 (Rs [Io (.mv (.c (.string ⟨#[]⟩))) 3]
 (seqC (.block 0 (.loop (.seq (Rs (sq 12 [Mv 0, Bk .gtr 12 9] [])
 (Ct 13 .skip
 (.exit 0)))
 (.block 1 (Rs (sq 14 [Mv 0, Bk .rem 14 10, Io (.bin .add (.c (.int .i64 48)) (.t 15)), Io (.conv .u8 (.t 16)), Io (.lit 257 [none] [.v (.int .u8 0)] 1 [(0, .t 17)]), Io (.bytes (.t 18)), Mv 3, Bb .add 19 20] [Mv 21 3])
 (.reg (sq 22 [Mv 0, Bk .quo 22 10] [Mv 23 0])))))))
 (Rs (sq 24 [Mv 0, Io (.bin .add (.c (.int .i64 48)) (.t 24)), Io (.conv .u8 (.t 25)), Io (.lit 257 [none] [.v (.int .u8 0)] 1 [(0, .t 26)]), Io (.bytes (.t 27)), Mv 3, Bb .add 28 29] [Mv 30 2])
 .ret)))))), lcF []⟩
def ks_cs9 : List (List (Option Nat)) := [[none]]
def gl_cs9_1 : Nat → Int → Str → Option (Int × Str)
 | 0, _, _ => none
 | n16 + 1, v14, v15 => if (decide (v14 > 9)) = true then ((cat (bstr ([(IntKind.u8.wrap (IntKind.i64.wrap (48 + (Int.tmod v14 10))))] : (List Int))) v15).bind fun x18 => gl_cs9_1 n16 (IntKind.i64.wrap (Int.tdiv v14 10)) x18) else (some (v14, v15))
def gb_cs9 (rec : Int → Option Str) (a0 : Int) : Option Str := if (decide (a0 < (-9223372036854775807))) = true then (some ((⟨#[45, 57, 50, 50, 51, 51, 55, 50, 48, 51, 54, 56, 53, 52, 55, 55, 53, 56, 48, 56]⟩ : Str))) else (if (decide (a0 < 0)) = true then ((rec (IntKind.i64.wrap (0 - a0))).bind fun x1 => (cat (⟨#[45]⟩ : Str) x1).bind fun x3 => some (x3)) else ((gl_cs9_1 rounds a0 (⟨#[]⟩ : Str)).bind fun q13 => (cat (bstr ([(IntKind.u8.wrap (IntKind.i64.wrap (48 + q13.1)))] : (List Int))) q13.2).bind fun x23 => some (x23)))
def gf_cs9 : Nat → Int → Option Str
 | 0 => fun _ => none
 | fuel + 1 => gb_cs9 (gf_cs9 fuel)
def c_cs9 (fuel : Nat) : Con := ⟨Int, Str, 337, fun a => [.v (.int .i64 a)], fun a => gf_cs9 fuel a, fun a r => ⟨[(false, [.v (.string r)])], []⟩, fun a => []⟩
/-! spec.l4One -/
def if_eb9 : IFn := ⟨88, [.inl 2],
 (Rs (sq 1 [Io (.box 155 [none, none, none, none, some 66, some 82, none, none, none, some 66, some 82] (.t 0)), Kb false] [])
 (seqC (Rs (sq 3 [Fa 0 1, Ld 1 3, Ca 14 [4], Nt 5, Mv 6] (Sf 7 8 [Fa 1 1, Ld 1 8, Nt 9, Mv 10] (Sg 11 12 [Fa 6 1, Ld 1 12, Nt 13] (Gf 7 (Pf 11 14 15) :: (sq 16 [Pk 7 15, Mv 16] (Sf 17 18 [Fa 1 1, Ld 1 18, Mv 19] (Sg 20 21 [Fa 6 1, Ld 1 21] (Sf 17 23 [Pf 20 22, Mv 23] (Sg 24 25 [Fa 2 1, La 4 25, Fa 7 1, La 4 27, Ca 21 [26, 28]] [Gf 17 (Pf 24 29 30), Pk 17 30 31])))))))))
 (Ct 31 (Rs [Kb false 2]
 .ret)
 .skip))
 (seqC (Rs (sq 32 [Fa 1 1, Ld 1 32, Nt 33, Mv 34] (Sg 35 36 [Fa 2 1, La 4 36, Io (.build [.v (.string ⟨#[]⟩), .v (.int .i64 0), .nil, .nil] []), Ca 21 [37, 38], Nt 39] (sq 41 [Pf 35 40, Mv 41] (Sf 42 43 [Fa 6 1, Ld 1 43, Nt 44, Mv 45] (Sg 46 47 [Fa 7 1, La 4 47, Io (.build [.v (.string ⟨#[]⟩), .v (.int .i64 0), .nil, .nil] []), Ca 21 [48, 49], Nt 50] [Gf 42 (Pf 46 51 52), Pk 42 52 53])))))
 (Ct 53 (Rs [Kb false 2]
 .ret)
 .skip))
 (Rs (sq 54 [Fa 1 1, Ld 1 54, Nt 55, Mv 56] (Sf 57 58 [Fa 2 1, La 4 58, Ca 17 [59], Mv 60] (Sg 61 62 [Fa 2 1, Fa 0 62, Ld 1 63, Fa 0 1, Ld 1 65, Bb .eql 64 66] (Gf 57 (Pf 61 67 68) :: (sq 69 [Pk 57 68, Mv 69] (Sg 70 71 [Fa 6 1, Ld 1 71, Nt 72, Mv 73] (Sf 74 75 [Fa 7 1, La 4 75, Ca 17 [76], Mv 77] (Sg 78 79 [Fa 7 1, Fa 0 79, Ld 1 80, Fa 0 1, Ld 1 82, Bb .eql 81 83] [Gf 74 (Pf 78 84 85), Gt 70 (Pk 74 85 86), Pf 70 86 87, Mv 87 2]))))))))
 .ret)))), lcF []⟩
def ks_eb9 : List (List (Option Nat)) := [[none]]
def gf_eb9 (a0 : Change) : Option Bool := (((gf_cr9 a0.id).bind fun x9 => if (!x9) = true then (some (.inl (false))) else (if (!a0.had) = true then (if (!a0.has) = true then (some (.inl (false))) else (if a0.had = true then (if a0.has = true then ((gf_cf9 a0.was a0.now).bind fun x11 => if x11 = true then (some (.inl (false))) else (some (.inr (true, true)))) else (some (.inr (true, false)))) else (some (.inr (false, a0.has))))) else (if a0.had = true then (if a0.has = true then ((gf_cf9 a0.was a0.now).bind fun x13 => if x13 = true then (some (.inl (false))) else (some (.inr (true, true)))) else (some (.inr (true, false)))) else (some (.inr (false, a0.has))))) : Option (Bool ⊕ (Bool × Bool)))).bind fun q => match q with | .inl r => some r | .inr q8 => ((if (!q8.1) = true then ((gf_cf9 a0.was (⟨(⟨#[]⟩ : Str), ⟨0, []⟩, []⟩ : Feat)).bind fun x25 => if (!x25) = true then (some (.inl (false))) else (if (!q8.2) = true then ((gf_cf9 a0.now (⟨(⟨#[]⟩ : Str), ⟨0, []⟩, []⟩ : Feat)).bind fun x27 => if (!x27) = true then (some (.inl (false))) else (some (.inr ()))) else (some (.inr ())))) else (if (!q8.2) = true then ((gf_cf9 a0.now (⟨(⟨#[]⟩ : Str), ⟨0, []⟩, []⟩ : Feat)).bind fun x29 => if (!x29) = true then (some (.inl (false))) else (some (.inr ()))) else (some (.inr ()))) : Option (Bool ⊕ Unit))).bind fun q => match q with | .inl r => some r | .inr q24 => if (!q8.1) = true then (if (!q8.2) = true then (some (true)) else ((gf_ce9 a0.now).bind fun x31 => if x31 = true then (some ((seq a0.now.id a0.id))) else (some (false)))) else ((gf_ce9 a0.was).bind fun x33 => if x33 = true then (if (seq a0.was.id a0.id) = true then (if (!q8.2) = true then (some (true)) else ((gf_ce9 a0.now).bind fun x35 => if x35 = true then (some ((seq a0.now.id a0.id))) else (some (false)))) else (some (false))) else (some (false)))
def c_eb9 : Con := ⟨Change, Bool, 388, fun a => [.agg [.v (.string a.id), .v (.bool a.had), .v (.string a.was.id), .v (.int .i64 a.was.shape.kind), .ro (List.map ePt a.was.shape.pts), .ro (List.map eTag a.was.tags), .v (.bool a.has), .v (.string a.now.id), .v (.int .i64 a.now.shape.kind), .ro (List.map ePt a.now.shape.pts), .ro (List.map eTag a.now.tags)]], fun a => gf_eb9 a, fun a r => ⟨[(false, [.v (.bool r)])], []⟩, fun a => []⟩
/-! spec.DiffOk -/
def if_cb9 : IFn := ⟨37, [.inl 2],
 (Rs [Kb false 2]
 (.seq (Rs [Ki 0 3]
 (blkC 0 (.loop (.seq (Rs (sq 4 [Mv 3, Mv 0, Ln 5, Bb .lss 4 6] [])
 (Ct 7 .skip
 (.exit 0)))
 (.seq (.block 1 (.seq (.drw (sq 10 [Mv 0, Mv 3, Ia 11 10 11, La 11 12, Ca 388 [13], Nt 14, Mv 15] (Sf 16 17 [Mv 3, Bk .gtr 17 0, Mv 18] (Sg 19 20 [Mv 0, Mv 3, Ia 11 20 21, Fa 0 22, Ld 1 23, Mv 0, Mv 3, Bk .sub 26 1, Ia 11 25 27, Fa 0 28, Ld 1 29, Bb .leq 24 30] [Gf 16 (Pf 19 31 32), Pk 16 32 33]))) [(14, 20)])
 (Ct 33 (Rs [Kb false 2]
 .ret)
 .skip)))
 (.reg (sq 8 [Mv 3, Bk .add 8 1] [Mv 9 3])))))))
 (Rs (sq 34 [Mv 0, Ln 34, Bk .leq 35 16] [Mv 36 2])
 .ret))), lcF []⟩
def ks_cb9 : List (List (Option Nat)) := [[none]]
def gl_cb9_1 (a0 : (List Change)) : List Change → Nat → Option (Bool ⊕ Unit)
 | [], k20 => some (.inr ())
 | x21 :: l22, k20 => (gf_eb9 x21).bind fun x29 => if (!x29) = true then (some (.inl (false))) else (if (decide ((k20 : Int) > 0)) = true then ((idx a0 (IntKind.i64.wrap ((k20 : Int) - 1))).bind fun x31 => if (slt x21.id x31.id || seq x21.id x31.id) = true then (some (.inl (false))) else (gl_cb9_1 a0 l22 (k20 + 1) )) else (gl_cb9_1 a0 l22 (k20 + 1) ))
def gf_cb9 (a0 : (List Change)) : Option Bool := if fits a0.length = true then ((gl_cb9_1 a0 a0 0 ).bind fun q => match q with | .inl r => some r | .inr q18 => some ((decide ((a0.length : Int) ≤ 16)))) else none
def c_cb9 : Con := ⟨(List Change), Bool, 368, fun a => [.ro (List.map (eChange false) a)], fun a => gf_cb9 a, fun a r => ⟨[(false, [.v (.bool r)])], []⟩, fun a => []⟩
/-! spec.l1Word -/
def if_df9 : IFn := ⟨7, [.inl 2],
 (Rs [Io (.mv (.c (.string ⟨#[]⟩))) 2]
 (Rs (sq 3 [Io (.lit 49 [none] [.v (.string ⟨#[]⟩)] 4 [(0, .c (.string ⟨#[]⟩)), (1, .c (.string ⟨#[100, 111, 116]⟩)), (2, .c (.string ⟨#[108, 105, 110, 101]⟩)), (3, .c (.string ⟨#[114, 105, 110, 103]⟩))]), Mv 0, Ia 1 3 4, Ld 1 5] [Mv 6 2])
 .ret)), lcF []⟩
def ks_df9 : List (List (Option Nat)) := [[none]]
def gf_df9 (a0 : Int) : Option Str := (idx [(⟨#[]⟩ : Str), (⟨#[100, 111, 116]⟩ : Str), (⟨#[108, 105, 110, 101]⟩ : Str), (⟨#[114, 105, 110, 103]⟩ : Str)] a0).bind fun x2 => some (x2)
def c_df9 : Con := ⟨Int, Str, 403, fun a => [.v (.int .i64 a)], fun a => gf_df9 a, fun a r => ⟨[(false, [.v (.string r)])], []⟩, fun a => []⟩
/-! spec.ShapeText -/
def if_co9 : IFn := ⟨38, [.inl 2],
 (Rs (sq 1 [Io (.box 226 [none, some 66] (.t 0)), Io (.mv (.c (.string ⟨#[]⟩)))] [])
 (.seq (Rs (sq 5 [La 2 1, Ca 15 [5], Nt 6] [])
 (Ct 7 (Rs [Io (.mv (.c (.string ⟨#[]⟩))) 2]
 .ret)
 .skip))
 (Rs (sq 8 [Fa 0 1, Ld 1 8, Ca 403 [9]] [Mv 10 3])
 (.seq (Rs [Ki 0 4]
 (blkC 0 (.loop (.seq (Rs (sq 11 [Mv 4, Fa 1 1, Ld 1 12, Ln 13, Bb .lss 11 14] [])
 (Ct 15 .skip
 (.exit 0)))
 (.seq (.block 1 (.drw (sq 18 [Mv 3, Io (.bin .add (.t 18) (.c (.string ⟨#[32]⟩))), Fa 1 1, Ld 1 20, Mv 4, Ia 2 21 22, Fa 0 23, Ld 1 24, Ca 337 [25], Bb .add 19 26, Io (.bin .add (.t 27) (.c (.string ⟨#[44]⟩))), Fa 1 1, Ld 1 29, Mv 4, Ia 2 30 31, Fa 1 32, Ld 1 33, Ca 337 [34], Bb .add 28 35] [Mv 36 3]) [(3, 12), (7, 12), (8, 12), (3, 16), (7, 16), (8, 16)]))
 (.reg (sq 16 [Mv 4, Bk .add 16 1] [Mv 17 4])))))))
 (Rs [Mv 3 37, Mv 37 2]
 .ret))))), lcF []⟩
def ks_co9 : List (List (Option Nat)) := [[none]]
def gl_co9_1 : List Pt → Nat → Str → Option Str
 | [], k53, v51 => some v51
 | x54 :: l55, k53, v51 => (cat v51 (⟨#[32]⟩ : Str)).bind fun x62 => (gf_cs9 rounds x54.x).bind fun x64 => (cat x62 x64).bind fun x66 => (cat x66 (⟨#[44]⟩ : Str)).bind fun x68 => (gf_cs9 rounds x54.y).bind fun x70 => (cat x68 x70).bind fun x72 => gl_co9_1 l55 (k53 + 1) x72
def gf_co9 (a0 : Shape) : Option Str := (gf_cm9 a0).bind fun x2 => if (!x2) = true then (some ((⟨#[]⟩ : Str))) else ((gf_df9 a0.kind).bind fun x4 => if fits a0.pts.length = true then ((gl_co9_1 a0.pts 0 x4).bind fun q50 => some (q50)) else none)
def c_co9 : Con := ⟨Shape, Str, 398, fun a => [.agg [.v (.int .i64 a.kind), .ro (List.map ePt a.pts)]], fun a => gf_co9 a, fun a r => ⟨[(false, [.v (.string r)])], []⟩, fun a => []⟩
/-! spec.FeatText -/
def if_cg9 : IFn := ⟨40, [.inl 2],
 (Rs (sq 1 [Io (.box 100 [none, none, some 66, some 82] (.t 0)), Io (.mv (.c (.string ⟨#[]⟩)))] [])
 (.seq (Rs (sq 5 [La 4 1, Ca 17 [5], Nt 6] [])
 (Ct 7 (Rs [Io (.mv (.c (.string ⟨#[]⟩))) 2]
 .ret)
 .skip))
 (.seq (.drw (sq 8 [Fa 0 1, Ld 1 8, Io (.bin .add (.t 9) (.c (.string ⟨#[32]⟩))), Fa 1 1, La 2 11, Ca 398 [12], Bb .add 10 13] [Mv 14 3]) [(1, 4), (1, 5)])
 (.seq (Rs [Ki 0 4]
 (blkC 0 (.loop (.seq (Rs (sq 15 [Mv 4, Fa 3 1, Ld 1 16, Ln 17, Bb .lss 15 18] [])
 (Ct 19 .skip
 (.exit 0)))
 (.seq (.block 1 (.drw (sq 22 [Mv 3, Io (.bin .add (.t 22) (.c (.string ⟨#[32]⟩))), Fa 3 1, Ld 1 24, Mv 4, Ia 2 25 26, Fa 0 27, Ld 1 28, Bb .add 23 29, Io (.bin .add (.t 30) (.c (.string ⟨#[61]⟩))), Fa 3 1, Ld 1 32, Mv 4, Ia 2 33 34, Fa 1 35, Ld 1 36, Bb .add 31 37] [Mv 38 3]) [(3, 11), (7, 11), (3, 15), (7, 15)]))
 (.reg (sq 20 [Mv 4, Bk .add 20 1] [Mv 21 4])))))))
 (Rs [Mv 3 39, Mv 39 2]
 .ret))))), lcF []⟩
def ks_cg9 : List (List (Option Nat)) := [[none]]
def gl_cg9_1 : List Tag → Nat → Str → Option Str
 | [], k45, v43 => some v43
 | x46 :: l47, k45, v43 => (cat v43 (⟨#[32]⟩ : Str)).bind fun x54 => (cat x54 x46.key).bind fun x56 => (cat x56 (⟨#[61]⟩ : Str)).bind fun x58 => (cat x58 x46.val).bind fun x60 => gl_cg9_1 l47 (k45 + 1) x60
def gf_cg9 (a0 : Feat) : Option Str := (gf_ce9 a0).bind fun x2 => if (!x2) = true then (some ((⟨#[]⟩ : Str))) else ((cat a0.id (⟨#[32]⟩ : Str)).bind fun x4 => (gf_co9 a0.shape).bind fun x6 => (cat x4 x6).bind fun x8 => if fits a0.tags.length = true then ((gl_cg9_1 a0.tags 0 x8).bind fun q42 => some (q42)) else none)
def c_cg9 : Con := ⟨Feat, Str, 389, fun a => [.agg [.v (.string a.id), .v (.int .i64 a.shape.kind), .ro (List.map ePt a.shape.pts), .ro (List.map eTag a.tags)]], fun a => gf_cg9 a, fun a r => ⟨[(false, [.v (.string r)])], []⟩, fun a => []⟩
/-! spec.l4Word -/
def if_ed9 : IFn := ⟨9, [.inl 4],
 (Rs [Io (.box 100 [none, none, some 66, some 82] (.t 0)) 2, Io (.mv (.c (.string ⟨#[]⟩))) 4]
 (.seq (Rs (sq 5 [Mv 1, Nt 5] [])
 (Ct 6 (Rs [Io (.mv (.c (.string ⟨#[45]⟩))) 4]
 .ret)
 .skip))
 (Rs (sq 7 [La 4 2, Ca 389 [7]] [Mv 8 4])
 .ret))), lcF []⟩
def ks_ed9 : List (List (Option Nat)) := [[none]]
def gf_ed9 (a0 : Feat) (a1 : Bool) : Option Str := if (!a1) = true then (some ((⟨#[45]⟩ : Str))) else ((gf_cg9 a0).bind fun x2 => some (x2))
def c_ed9 : Con := ⟨Feat × Bool, Str, 369, fun a => [.agg [.v (.string a.1.id), .v (.int .i64 a.1.shape.kind), .ro (List.map ePt a.1.shape.pts), .ro (List.map eTag a.1.tags)], .v (.bool a.2)], fun a => gf_ed9 a.1 a.2, fun a r => ⟨[(false, [.v (.string r)])], []⟩, fun a => []⟩
/-! spec.DiffText -/
def if_cc9 : IFn := ⟨50, [.inl 2],
 (Rs [Io (.mv (.c (.string ⟨#[]⟩))) 2]
 (Rs [Io (.mv (.c (.string ⟨#[]⟩))) 3]
 (.seq (Rs [Ki 0 4]
 (blkC 0 (.loop (.seq (Rs (sq 5 [Mv 4, Mv 0, Ln 6, Bb .lss 5 7, Mv 8] (Sg 9 10 [Mv 0, Ca 368 [10]] [Pf 9 11 12]))
 (Ct 12 .skip
 (.exit 0)))
 (.seq (.block 1 (.drw (sq 15 [Mv 3, Mv 0, Mv 4, Ia 11 16 17, Fa 0 18, Ld 1 19, Bb .add 15 20, Io (.bin .add (.t 21) (.c (.string ⟨#[58, 32]⟩))), Mv 0, Mv 4, Ia 11 23 24, Fa 2 25, La 4 26, Mv 0, Mv 4, Ia 11 28 29, Fa 1 30, Ld 1 31, Ca 369 [27, 32], Bb .add 22 33, Io (.bin .add (.t 34) (.c (.string ⟨#[32, 62, 32]⟩))), Mv 0, Mv 4, Ia 11 36 37, Fa 7 38, La 4 39, Mv 0, Mv 4, Ia 11 41 42, Fa 6 43, Ld 1 44, Ca 369 [40, 45], Bb .add 35 46, Io (.bin .add (.t 47) (.c (.string ⟨#[10]⟩)))] [Mv 48 3]) [(5, 12), (5, 17), (12, 17), (5, 18), (5, 25), (12, 25), (17, 25), (18, 25), (5, 30), (12, 30), (17, 30), (18, 30), (25, 30), (5, 31)]))
 (.reg (sq 13 [Mv 4, Bk .add 13 1] [Mv 14 4])))))))
 (Rs [Mv 3 49, Mv 49 2]
 .ret)))), lcF []⟩
def ks_cc9 : List (List (Option Nat)) := [[none]]
def gl_cc9_1 (a0 : (List Change)) : List Change → Nat → Str → Option Str
 | [], k66, v64 => some v64
 | x67 :: l68, k66, v64 => (gf_cb9 a0).bind fun x75 => if x75 = true then ((cat v64 x67.id).bind fun x77 => (cat x77 (⟨#[58, 32]⟩ : Str)).bind fun x79 => (gf_ed9 x67.was x67.had).bind fun x81 => (cat x79 x81).bind fun x83 => (cat x83 (⟨#[32, 62, 32]⟩ : Str)).bind fun x85 => (gf_ed9 x67.now x67.has).bind fun x87 => (cat x85 x87).bind fun x89 => (cat x89 (⟨#[10]⟩ : Str)).bind fun x91 => gl_cc9_1 a0 l68 (k66 + 1) x91) else (some v64)
def gf_cc9 (a0 : (List Change)) : Option Str := if fits a0.length = true then ((gl_cc9_1 a0 a0 0 (⟨#[]⟩ : Str)).bind fun q63 => some (q63)) else none
def c_cc9 : Con := ⟨(List Change), Str, 338, fun a => [.ro (List.map (eChange false) a)], fun a => gf_cc9 a, fun a r => ⟨[(false, [.v (.string r)])], []⟩, fun a => []⟩
/-! spec.PackText -/
def if_ci9 : IFn := ⟨55, [.inl 2],
 (Rs [Io (.mv (.c (.string ⟨#[]⟩))) 2]
 (Rs [Io (.mv (.c (.string ⟨#[]⟩))) 3]
 (.seq (Rs [Ki 0 4]
 (blkC 0 (.loop (.seq (Rs (sq 6 [Mv 4, Mv 0, Ln 7, Bb .lss 6 8] [])
 (Ct 9 .skip
 (.exit 0)))
 (.seq (.block 1 (Rs (sq 12 [Mv 3, Mv 4, Ca 337 [13], Bb .add 12 14] [Mv 15 3])
 (.seq (Rs [Ki 0 5]
 (blkC 2 (.loop (.seq (Rs (sq 16 [Mv 5, Mv 0, Mv 4, Ia 3 17 18, Fa 0 19, Ld 1 20, Ln 21, Bb .lss 16 22] [])
 (Ct 23 .skip
 (.exit 2)))
 (.seq (.block 3 (.reg (sq 26 [Mv 3, Io (.bin .add (.t 26) (.c (.string ⟨#[32]⟩))), Mv 0, Mv 4, Ia 3 28 29, Fa 0 30, Ld 1 31, Mv 5, Ia 1 32 33, Ld 1 34, Ca 337 [35], Bb .add 27 36] [Mv 37 3])))
 (.reg (sq 24 [Mv 5, Bk .add 24 1] [Mv 25 5])))))))
 (.drw (sq 38 [Mv 3, Io (.bin .add (.t 38) (.c (.string ⟨#[32]⟩))), Mv 0, Mv 4, Ia 3 40 41, Fa 1 42, Ld 1 43, Bb .add 39 44, Io (.bin .add (.t 45) (.c (.string ⟨#[10]⟩))), Mv 0, Mv 4, Ia 3 47 48, Fa 2 49, Ld 1 50, Ca 338 [51], Bb .add 46 52] [Mv 53 3]) [(6, 13), (6, 14)]))))
 (.reg (sq 10 [Mv 4, Bk .add 10 1] [Mv 11 4])))))))
 (Rs [Mv 3 54, Mv 54 2]
 .ret)))), lcF []⟩
def ks_ci9 : List (List (Option Nat)) := [[none]]
def gl_ci9_5 : List Int → Nat → Str → Option Str
 | [], k237, v235 => some v235
 | x238 :: l239, k237, v235 => (cat v235 (⟨#[32]⟩ : Str)).bind fun x246 => (gf_cs9 rounds x238).bind fun x248 => (cat x246 x248).bind fun x250 => gl_ci9_5 l239 (k237 + 1) x250
def gl_ci9_4 : List Entry → Nat → Str → Option Str
 | [], k195, v193 => some v193
 | x196 :: l197, k195, v193 => (gf_cs9 rounds (k195 : Int)).bind fun x204 => (cat v193 x204).bind fun x206 => if fits x196.up.length = true then ((gl_ci9_5 x196.up 0 x206).bind fun q234 => (cat q234 (⟨#[32]⟩ : Str)).bind fun x253 => (cat x253 x196.note).bind fun x255 => (cat x255 (⟨#[10]⟩ : Str)).bind fun x257 => (gf_cc9 x196.diff).bind fun x259 => (cat x257 x259).bind fun x261 => gl_ci9_4 l197 (k195 + 1) x261) else none
def gf_ci9 (a0 : (List Entry)) : Option Str := if fits a0.length = true then ((gl_ci9_4 a0 0 (⟨#[]⟩ : Str)).bind fun q192 => some (q192)) else none
def c_ci9 : Con := ⟨(List Entry), Str, 260, fun a => [.ro (List.map (eEntry false) a)], fun a => gf_ci9 a, fun a r => ⟨[(false, [.v (.string r)])], []⟩, fun a => []⟩
/-! strconv.Itoa -/

def gf_et9 (a0 : Int) : Option Str := itoaF a0
def c_et9 : Con := itoaCon 339/-! (impl.Change).same -/
def if_aa9 : IFn := ⟨15, [.inl 2],
 (Rs (sq 1 [Io (.box 155 [none, none, none, none, some 66, some 82, none, none, none, some 66, some 82] (.t 0)), Kb false] [])
 (Rs (sq 3 [Fa 1 1, Ld 1 3, Fa 6 1, Ld 1 5, Io (.eqs false false [1] (.t 4) (.t 6)), Mv 7] (Sg 8 9 [Fa 2 1, La 4 9, Fa 7 1, La 4 11, Ca 130 [10, 12]] [Pf 8 13 14, Mv 14 2]))
 .ret)), lcF []⟩
def ks_aa9 : List (List (Option Nat)) := [[none]]
def gf_aa9 (a0 : Change) : Option Bool := if (a0.had == a0.has) = true then ((gf_ag9 a0.was a0.now).bind fun x2 => some (x2)) else (some (false))
def c_aa9 : Con := ⟨Change, Bool, 350, fun a => [.agg [.v (.string a.id), .v (.bool a.had), .v (.string a.was.id), .v (.int .i64 a.was.shape.kind), .ro (List.map ePt a.was.shape.pts), .ro (List.map eTag a.was.tags), .v (.bool a.has), .v (.string a.now.id), .v (.int .i64 a.now.shape.kind), .ro (List.map ePt a.now.shape.pts), .ro (List.map eTag a.now.tags)]], fun a => gf_aa9 a, fun a r => ⟨[(false, [.v (.bool r)])], []⟩, fun a => []⟩
/-! impl.noFeat -/
def if_bc9 : IFn := ⟨25, [.inl 2],
 (Rs (sq 1 [Io (.box 100 [none, none, some 66, some 82] (.t 0)), Kb false] [])
 (Rs (sq 3 [Fa 0 1, Ld 1 3, Io (.bin .eql (.t 4) (.c (.string ⟨#[]⟩))), Mv 5] (Sg 6 7 [Fa 1 1, Fa 0 7, Ld 1 8, Bk .eql 9 0] (sq 11 [Pf 6 10, Mv 11] (Sg 12 13 [Fa 1 1, Fa 1 13, Ld 1 14, Ln 15, Bk .eql 16 0] (sq 18 [Pf 12 17, Mv 18] (Sg 19 20 [Fa 3 1, Ld 1 20, Ln 21, Bk .eql 22 0] [Pf 19 23 24, Mv 24 2]))))))
 .ret)), lcF []⟩
def ks_bc9 : List (List (Option Nat)) := [[none]]
def gf_bc9 (a0 : Feat) : Option Bool := if (seq a0.id (⟨#[]⟩ : Str)) = true then (if (a0.shape.kind == 0) = true then (if ((a0.shape.pts.length : Int) == 0) = true then (some (((a0.tags.length : Int) == 0))) else (some (false))) else (some (false))) else (some (false))
def c_bc9 : Con := ⟨Feat, Bool, 393, fun a => [.agg [.v (.string a.id), .v (.int .i64 a.shape.kind), .ro (List.map ePt a.shape.pts), .ro (List.map eTag a.tags)]], fun a => gf_bc9 a, fun a r => ⟨[(false, [.v (.bool r)])], []⟩, fun a => []⟩
/-! impl.sideOk -/
def if_bg9 : IFn := ⟨19, [.inl 6],
 (Rs (sq 5 [Io (.box 100 [none, none, some 66, some 82] (.t 2)), Kb false] [])
 (.seq (Rs (sq 7 [Mv 1, Nt 7] [])
 (Ct 8 (Rs (sq 9 [La 4 5, Ca 393 [9]] [Mv 10 6])
 .ret)
 .skip))
 (Rs (sq 11 [La 4 5, Ca 82 [11], Mv 12] (Sg 13 14 [Fa 0 5, Ld 1 14, Mv 0, Bb .eql 15 16] [Pf 13 17 18, Mv 18 6]))
 .ret))), lcF []⟩
def ks_bg9 : List (List (Option Nat)) := [[none]]
def gf_bg9 (a0 : Str) (a1 : Bool) (a2 : Feat) : Option Bool := if (!a1) = true then ((gf_bc9 a2).bind fun x2 => some (x2)) else ((gf_af9 a2).bind fun x4 => if x4 = true then (some ((seq a2.id a0))) else (some (false)))
def c_bg9 : Con := ⟨Str × Bool × Feat, Bool, 376, fun a => [.v (.string a.1), .v (.bool a.2.1), .agg [.v (.string a.2.2.id), .v (.int .i64 a.2.2.shape.kind), .ro (List.map ePt a.2.2.shape.pts), .ro (List.map eTag a.2.2.tags)]], fun a => gf_bg9 a.1 a.2.1 a.2.2, fun a r => ⟨[(false, [.v (.bool r)])], []⟩, fun a => []⟩
/-! impl.DiffOk -/
def if_ac9 : IFn := ⟨59, [.inl 2],
 (Rs [Kb false 2]
 (.seq (Rs (sq 5 [Mv 0, Ln 5, Ki 0] [])
 (blkC 0 (.loop (Rs [Bb .lss 7 6 8]
 (.seq (Ct 8 .skip
 (.exit 0))
 (.seq (.block 1 (Rs (sq 9 [Mv 7, Ia 11 5 7, La 11 10] [Io (.alloc 155 [.v (.string ⟨#[]⟩), .v (.bool false), .v (.string ⟨#[]⟩), .v (.int .i64 0), .sl true 66 [], .sl true 82 [], .v (.bool false), .v (.string ⟨#[]⟩), .v (.int .i64 0), .sl true 66 [], .sl true 82 []]) 4, Mv 9 3, Sv [none, none, none, none, some 66, some 82, none, none, none, some 66, some 82] 4 11])
 (.seq (.drw (sq 12 [Fa 0 4, Ld 1 12, Ca 80 [13], Nt 14, Mv 15] (Sf 16 17 [Mv 3, Bk .gtr 17 0, Mv 18] (Sg 19 20 [Mv 0, Mv 3, Bk .sub 21 1, Ia 11 20 22, Fa 0 23, Ld 1 24, Fa 0 4, Ld 1 26, Bb .geq 25 27] (Gf 16 (Pf 19 28 29) :: (sq 30 [Pk 16 29, Mv 30] (Sf 31 32 [Fa 0 4, Ld 1 32, Fa 1 4, Ld 1 34, Fa 2 4, La 4 36, Ca 376 [33, 35, 37], Nt 38] (sq 40 [Pk 31 39, Mv 40] (Sf 41 42 [Fa 0 4, Ld 1 42, Fa 6 4, Ld 1 44, Fa 7 4, La 4 46, Ca 376 [43, 45, 47], Nt 48] (sq 50 [Pk 41 49, Mv 50] (Sf 51 52 [La 11 4, Ca 350 [52]] [Pk 51 53 54])))))))))) [(13, 15), (21, 23), (21, 25), (23, 25), (31, 33), (31, 35), (33, 35)])
 (Ct 54 (Rs [Kb false 2]
 .ret)
 .skip))))
 (.reg [Bk .add 7 1 55, Mv 55 7])))))))
 (Rs (sq 56 [Mv 0, Ln 56, Bk .leq 57 16] [Mv 58 2])
 .ret))), lcF []⟩
def ks_ac9 : List (List (Option Nat)) := [[none]]
def gl_ac9_1 (a0 : (List Change)) : List Change → Nat → Option (Bool ⊕ Unit)
 | [], k53 => some (.inr ())
 | x54 :: l55, k53 => (gf_aw9 x54.id).bind fun x63 => if (!x63) = true then (some (.inl (false))) else (if (decide ((k53 : Int) > 0)) = true then ((idx a0 (IntKind.i64.wrap ((k53 : Int) - 1))).bind fun x65 => if (!slt x65.id x54.id) = true then (some (.inl (false))) else ((gf_bg9 x54.id x54.had x54.was).bind fun x67 => if (!x67) = true then (some (.inl (false))) else ((gf_bg9 x54.id x54.has x54.now).bind fun x69 => if (!x69) = true then (some (.inl (false))) else ((gf_aa9 x54).bind fun x71 => if x71 = true then (some (.inl (false))) else (gl_ac9_1 a0 l55 (k53 + 1) ))))) else ((gf_bg9 x54.id x54.had x54.was).bind fun x73 => if (!x73) = true then (some (.inl (false))) else ((gf_bg9 x54.id x54.has x54.now).bind fun x75 => if (!x75) = true then (some (.inl (false))) else ((gf_aa9 x54).bind fun x77 => if x77 = true then (some (.inl (false))) else (gl_ac9_1 a0 l55 (k53 + 1) )))))
def gf_ac9 (a0 : (List Change)) : Option Bool := if fits a0.length = true then ((gl_ac9_1 a0 a0 0 ).bind fun q => match q with | .inl r => some r | .inr q51 => some ((decide ((a0.length : Int) ≤ 16)))) else none
def c_ac9 : Con := ⟨(List Change), Bool, 352, fun a => [.ro (List.map (eChange false) a)], fun a => gf_ac9 a, fun a r => ⟨[(false, [.v (.bool r)])], []⟩, fun a => []⟩
/-! (impl.Shape).text -/
def if_at9 : IFn := ⟨31, [.inl 2],
 (Rs (sq 1 [Io (.box 226 [none, some 66] (.t 0)), Io (.mv (.c (.string ⟨#[]⟩)))] [])
 (Rs (sq 6 [Io (.load 1 false (.g shNames)), Fa 0 1, Ld 1 7, Ia 1 6 8, Ld 1 9] [Mv 10 3])
 (.seq (Rs (sq 11 [Fa 1 1, Ld 1 11, Ln 12, Ki 0] [])
 (blkC 0 (.loop (Rs [Bb .lss 14 13 15]
 (.seq (Ct 15 .skip
 (.exit 0))
 (.seq (.block 1 (Rs (sq 16 [Ia 2 12 14, La 2 16] [Io (.alloc 66 [.v (.int .i64 0), .v (.int .i64 0)]) 5, Sv [none, none] 5 17])
 (.drw (sq 18 [Mv 3, Fa 0 5, Ld 1 19, Ca 339 [20], Io (.bin .add (.c (.string ⟨#[32]⟩)) (.t 21)), Io (.bin .add (.t 22) (.c (.string ⟨#[44]⟩))), Fa 1 5, Ld 1 24, Ca 339 [25], Bb .add 23 26, Bb .add 18 27] [Mv 28 3]) [(2, 7), (3, 7)])))
 (.reg [Bk .add 14 1 29, Mv 29 14])))))))
 (Rs [Mv 3 30, Mv 30 2]
 .ret)))), lcF []⟩
def ks_at9 : List (List (Option Nat)) := [[none]]
def gl_at9_1 : List Pt → Nat → Str → Option Str
 | [], k54, v52 => some v52
 | x55 :: l56, k54, v52 => (gf_et9 x55.x).bind fun x64 => (cat (⟨#[32]⟩ : Str) x64).bind fun x66 => (cat x66 (⟨#[44]⟩ : Str)).bind fun x68 => (gf_et9 x55.y).bind fun x70 => (cat x68 x70).bind fun x72 => (cat v52 x72).bind fun x74 => gl_at9_1 l56 (k54 + 1) x74
def gf_at9 (a0 : Shape) : Option Str := (idx shNames a0.kind).bind fun x2 => if fits a0.pts.length = true then ((gl_at9_1 a0.pts 0 x2).bind fun q51 => some (q51)) else none
def c_at9 : Con := ⟨Shape, Str, 392, fun a => [.agg [.v (.int .i64 a.kind), .ro (List.map ePt a.pts)]], fun a => gf_at9 a, fun a r => ⟨[(false, [.v (.string r)])], []⟩, fun a => []⟩
/-! impl.FeatText -/
def if_ah9 : IFn := ⟨34, [.inl 2],
 (Rs (sq 1 [Io (.box 100 [none, none, some 66, some 82] (.t 0)), Io (.mv (.c (.string ⟨#[]⟩)))] [])
 (.seq (Rs (sq 6 [La 4 1, Ca 82 [6], Nt 7] [])
 (Ct 8 (Rs [Io (.mv (.c (.string ⟨#[]⟩))) 2]
 .ret)
 .skip))
 (.seq (.drw (sq 9 [Fa 0 1, Ld 1 9, Io (.bin .add (.t 10) (.c (.string ⟨#[32]⟩))), Fa 1 1, La 2 12, Ca 392 [13], Bb .add 11 14] [Mv 15 3]) [(1, 4), (1, 5)])
 (.seq (Rs (sq 16 [Fa 3 1, Ld 1 16, Ln 17, Ki 0] [])
 (blkC 0 (.loop (Rs [Bb .lss 19 18 20]
 (.seq (Ct 20 .skip
 (.exit 0))
 (.seq (.block 1 (Rs (sq 21 [Ia 2 17 19, La 2 21] [Io (.alloc 82 [.v (.string ⟨#[]⟩), .v (.string ⟨#[]⟩)]) 5, Sv [none, none] 5 22])
 (.reg (sq 23 [Mv 3, Fa 0 5, Ld 1 24, Io (.bin .add (.c (.string ⟨#[32]⟩)) (.t 25)), Io (.bin .add (.t 26) (.c (.string ⟨#[61]⟩))), Fa 1 5, Ld 1 28, Bb .add 27 29, Bb .add 23 30] [Mv 31 3]))))
 (.reg [Bk .add 19 1 32, Mv 32 19])))))))
 (Rs [Mv 3 33, Mv 33 2]
 .ret))))), lcF []⟩
def ks_ah9 : List (List (Option Nat)) := [[none]]
def gl_ah9_1 : List Tag → Nat → Str → Option Str
 | [], k48, v46 => some v46
 | x49 :: l50, k48, v46 => (cat (⟨#[32]⟩ : Str) x49.key).bind fun x58 => (cat x58 (⟨#[61]⟩ : Str)).bind fun x60 => (cat x60 x49.val).bind fun x62 => (cat v46 x62).bind fun x64 => gl_ah9_1 l50 (k48 + 1) x64
def gf_ah9 (a0 : Feat) : Option Str := (gf_af9 a0).bind fun x2 => if (!x2) = true then (some ((⟨#[]⟩ : Str))) else ((cat a0.id (⟨#[32]⟩ : Str)).bind fun x4 => (gf_at9 a0.shape).bind fun x6 => (cat x4 x6).bind fun x8 => if fits a0.tags.length = true then ((gl_ah9_1 a0.tags 0 x8).bind fun q45 => some (q45)) else none)
def c_ah9 : Con := ⟨Feat, Str, 391, fun a => [.agg [.v (.string a.id), .v (.int .i64 a.shape.kind), .ro (List.map ePt a.shape.pts), .ro (List.map eTag a.tags)]], fun a => gf_ah9 a, fun a r => ⟨[(false, [.v (.string r)])], []⟩, fun a => []⟩
/-! impl.DiffText$1 -/
def if_ae9 : IFn := ⟨9, [.inl 4],
 (Rs (sq 3 [Io (.box 100 [none, none, some 66, some 82] (.t 1)), Io (.mv (.c (.string ⟨#[]⟩)))] [])
 (.seq (Rs (sq 5 [Mv 0, Nt 5] [])
 (Ct 6 (Rs [Io (.mv (.c (.string ⟨#[45]⟩))) 4]
 .ret)
 .skip))
 (Rs (sq 7 [La 4 3, Ca 391 [7]] [Mv 8 4])
 .ret))), lcF []⟩
def ks_ae9 : List (List (Option Nat)) := [[none]]
def gf_ae9 (a0 : Bool) (a1 : Feat) : Option Str := if (!a0) = true then (some ((⟨#[45]⟩ : Str))) else ((gf_ah9 a1).bind fun x2 => some (x2))
def c_ae9 : Con := ⟨Bool × Feat, Str, 371, fun a => [.v (.bool a.1), .agg [.v (.string a.2.id), .v (.int .i64 a.2.shape.kind), .ro (List.map ePt a.2.shape.pts), .ro (List.map eTag a.2.tags)]], fun a => gf_ae9 a.1 a.2, fun a r => ⟨[(false, [.v (.string r)])], []⟩, fun a => []⟩
/-! impl.DiffText -/
def if_ad9 : IFn := ⟨39, [.inl 2],
 (Rs [Io (.mv (.c (.string ⟨#[]⟩))) 2]
 (.seq (Rs (sq 7 [Mv 0, Ca 352 [7], Nt 8] [])
 (Ct 9 (Rs [Io (.mv (.c (.string ⟨#[]⟩))) 2]
 .ret)
 .skip))
 (Rs [Io (.mv (.f 371)) 3]
 (Rs [Io (.mv (.c (.string ⟨#[]⟩))) 4]
 (.seq (Rs (sq 10 [Mv 0, Ln 10, Ki 0] [])
 (blkC 0 (.loop (Rs [Bb .lss 12 11 13]
 (.seq (Ct 13 .skip
 (.exit 0))
 (.seq (.block 1 (Rs (sq 14 [Ia 11 10 12, La 11 14] [Io (.alloc 155 [.v (.string ⟨#[]⟩), .v (.bool false), .v (.string ⟨#[]⟩), .v (.int .i64 0), .sl true 66 [], .sl true 82 [], .v (.bool false), .v (.string ⟨#[]⟩), .v (.int .i64 0), .sl true 66 [], .sl true 82 []]) 6, Sv [none, none, none, none, some 66, some 82, none, none, none, some 66, some 82] 6 15])
 (.drw (sq 16 [Mv 4, Fa 0 6, Ld 1 17, Io (.bin .add (.t 18) (.c (.string ⟨#[58, 32]⟩))), Mv 3, Fa 1 6, Ld 1 21, Fa 2 6, La 4 23, Io (.calld (.t 20) [(false, .t 22), (false, .t 24)]), Bb .add 19 25, Io (.bin .add (.t 26) (.c (.string ⟨#[32, 62, 32]⟩))), Mv 3, Fa 6 6, Ld 1 29, Fa 7 6, La 4 31, Io (.calld (.t 28) [(false, .t 30), (false, .t 32)]), Bb .add 27 33, Io (.bin .add (.t 34) (.c (.string ⟨#[10]⟩))), Bb .add 16 35] [Mv 36 4]) [(2, 6), (2, 8), (6, 8), (2, 9), (2, 14), (6, 14), (8, 14), (9, 14), (2, 16), (6, 16), (8, 16), (9, 16), (14, 16), (2, 17)])))
 (.reg [Bk .add 12 1 37, Mv 37 12])))))))
 (Rs [Mv 4 38, Mv 38 2]
 .ret)))))), lcF []⟩
def ks_ad9 : List (List (Option Nat)) := [[none]]
def gl_ae9 : List Change → Nat → Str → Option Str
 | [], k65, v63 => some v63
 | x66 :: l67, k65, v63 => (cat x66.id (⟨#[58, 32]⟩ : Str)).bind fun x75 => (gf_ae9 x66.had x66.was).bind fun x77 => (cat x75 x77).bind fun x79 => (cat x79 (⟨#[32, 62, 32]⟩ : Str)).bind fun x81 => (gf_ae9 x66.has x66.now).bind fun x83 => (cat x81 x83).bind fun x85 => (cat x85 (⟨#[10]⟩ : Str)).bind fun x87 => (cat v63 x87).bind fun x89 => gl_ae9 l67 (k65 + 1) x89
def gf_ad9 (a0 : (List Change)) : Option Str := (gf_ac9 a0).bind fun x1 => if (!x1) = true then (some ((⟨#[]⟩ : Str))) else (if fits a0.length = true then ((gl_ae9 a0 0 (⟨#[]⟩ : Str)).bind fun q62 => some (q62)) else none)
def c_ad9 : Con := ⟨(List Change), Str, 340, fun a => [.ro (List.map (eChange false) a)], fun a => gf_ad9 a, fun a r => ⟨[(false, [.v (.string r)])], []⟩, fun a => []⟩
/-! impl.PackText -/
def if_aj9 : IFn := ⟨44, [.inl 2],
 (Rs [Io (.mv (.c (.string ⟨#[]⟩))) 2]
 (Rs [Io (.mv (.c (.string ⟨#[]⟩))) 3]
 (.seq (Rs (sq 8 [Mv 0, Ln 8, Ki 0] [])
 (blkC 0 (.loop (Rs [Bb .lss 10 9 11]
 (.seq (Ct 11 .skip
 (.exit 0))
 (.seq (.block 1 (Rs (sq 12 [Mv 10, Ia 3 8 10, La 3 13] [Io (.alloc 163 [.sl true 17 [], .v (.string ⟨#[]⟩), .sl true 155 []]) 5, Mv 12 4, Sv [some 17, none, some 155] 5 14])
 (Rs (sq 15 [Mv 3, Mv 4, Ca 339 [16], Bb .add 15 17] [Mv 18 3])
 (.seq (Rs (sq 19 [Fa 0 5, Ld 1 19, Ln 20, Ki 0] [])
 (blkC 2 (.loop (Rs [Bb .lss 22 21 23]
 (.seq (Ct 23 .skip
 (.exit 2))
 (.seq (.block 3 (Rs (sq 24 [Ia 1 20 22, Ld 1 24] [Mv 25 7])
 (.reg (sq 26 [Mv 3, Mv 7, Ca 339 [27], Io (.bin .add (.c (.string ⟨#[32]⟩)) (.t 28)), Bb .add 26 29] [Mv 30 3]))))
 (.reg [Bk .add 22 1 31, Mv 31 22])))))))
 (.drw (sq 32 [Mv 3, Fa 1 5, Ld 1 33, Io (.bin .add (.c (.string ⟨#[32]⟩)) (.t 34)), Io (.bin .add (.t 35) (.c (.string ⟨#[10]⟩))), Fa 2 5, Ld 1 37, Ca 340 [38], Bb .add 36 39, Bb .add 32 40] [Mv 41 3]) [(2, 6), (2, 7)])))))
 (.reg [Bk .add 10 1 42, Mv 42 10])))))))
 (Rs [Mv 3 43, Mv 43 2]
 .ret)))), lcF []⟩
def ks_aj9 : List (List (Option Nat)) := [[none]]
def gl_aj9_5 : List Int → Nat → Str → Option Str
 | [], k235, v233 => some v233
 | x236 :: l237, k235, v233 => (gf_et9 x236).bind fun x244 => (cat (⟨#[32]⟩ : Str) x244).bind fun x246 => (cat v233 x246).bind fun x248 => gl_aj9_5 l237 (k235 + 1) x248
def gl_aj9_4 : List Entry → Nat → Str → Option Str
 | [], k192, v190 => some v190
 | x193 :: l194, k192, v190 => (gf_et9 (k192 : Int)).bind fun x202 => (cat v190 x202).bind fun x204 => if fits x193.up.length = true then ((gl_aj9_5 x193.up 0 x204).bind fun q232 => (cat (⟨#[32]⟩ : Str) x193.note).bind fun x251 => (cat x251 (⟨#[10]⟩ : Str)).bind fun x253 => (gf_ad9 x193.diff).bind fun x255 => (cat x253 x255).bind fun x257 => (cat q232 x257).bind fun x259 => gl_aj9_4 l194 (k192 + 1) x259) else none
def gf_aj9 (a0 : (List Entry)) : Option Str := if fits a0.length = true then ((gl_aj9_4 a0 0 (⟨#[]⟩ : Str)).bind fun q189 => some (q189)) else none
def c_aj9 : Con := ⟨(List Entry), Str, 261, fun a => [.ro (List.map (eEntry false) a)], fun a => gf_aj9 a, fun a r => ⟨[(false, [.v (.string r)])], []⟩, fun a => []⟩
/-! spec.l9Was -/
def if_es9 : IFn := ⟨27, [.inl 4],
 (Rs [Io (.box 210 [some 115, some 130] (.t 0)) 2, Io (.mv (.zr)) 4]
 (.seq (Rs (sq 5 [Fa 0 2, Ld 1 5, Mv 1, Ia 3 6 7, Fa 0 8, Ld 1 9, Ln 10, Bk .eql 11 0] [])
 (Ct 12 (Rs [Io (.lit 100 [none, none, some 66, some 82] [.v (.string ⟨#[]⟩), .v (.int .i64 0), .sl true 66 [], .sl true 82 []] 0 []) 13, Io (.frz (.mv (.t 13))) 4]
 .ret)
 .skip))
 (.seq (.drw (sq 14 [Fa 0 2, Ld 1 14, Fa 0 2, Ld 1 16, Mv 1, Ia 3 17 18, Fa 0 19, Ld 1 20, Ik 1 21 0, Ld 1 22, Ia 3 15 23, Fa 1 24, Ld 1 25] [Io (.frz (.mv (.t 26))) 4]) [(1, 3), (1, 7), (1, 9)])
 .ret))), lcF []⟩
def ks_es9 : List (List (Option Nat)) := [[some 100]]
def gf_es9 (a0 : Repo) (a1 : Int) : Option (List Feat) := (idx a0.commits a1).bind fun x2 => if ((x2.up.length : Int) == 0) = true then (some (([] : (List Feat)))) else ((idx x2.up 0).bind fun x5 => (idx a0.commits x5).bind fun x7 => some (x7.sheet))
def c_es9 : Con := ⟨Repo × Int, (List Feat), 344, fun a => [.agg [.ro (List.map (eCommit false) a.1.commits), .ro (List.map eHead a.1.heads)], .v (.int .i64 a.2)], fun a => gf_es9 a.1 a.2, fun a r => ⟨[(false, [sl false 100 (List.map (eFeat false) r)])], []⟩, fun a => []⟩
/-! spec.l4Of -/
def if_ea9 : IFn := ⟨62, [.inl 4],
 (Rs [Io (.mv (.c (.slice none 0 0))) 4]
 (Rs [Io (.lit 155 [none, none, none, none, some 66, some 82, none, none, none, some 66, some 82] [.v (.string ⟨#[]⟩), .v (.bool false), .v (.string ⟨#[]⟩), .v (.int .i64 0), .sl true 66 [], .sl true 82 [], .v (.bool false), .v (.string ⟨#[]⟩), .v (.int .i64 0), .sl true 66 [], .sl true 82 []] 0 []) 12, Mv 12 5]
 (Rs (sq 13 [Mv 0, Mv 1, Ca 38 [13, 14]] [Mv 15 6])
 (.seq (Rs [Ki 0 7]
 (blkC 0 (.loop (.seq (Rs (sq 16 [Mv 7, Mv 6, Ln 17, Bb .lss 16 18] [])
 (Ct 19 .skip
 (.exit 0)))
 (.seq (.block 1 (Rs (sq 23 [Mv 0, Mv 6, Mv 7, Ia 1 24 25, Ld 1 26, Ca 52 [23, 27]] (Mv 28 22 :: (sq 29 [Xt 22 0, Xt 22 1] [Io (.alloc 100 [.v (.string ⟨#[]⟩), .v (.int .i64 0), .sl true 66 [], .sl true 82 []]) 8, Sv [none, none, some 66, some 82] 8 29, Mv 30 9])))
 (Rs (sq 32 [Mv 1, Mv 6, Mv 7, Ia 1 33 34, Ld 1 35, Ca 52 [32, 36]] (Mv 37 31 :: (sq 38 [Xt 31 0, Xt 31 1] [Io (.alloc 100 [.v (.string ⟨#[]⟩), .v (.int .i64 0), .sl true 66 [], .sl true 82 []]) 10, Sv [none, none, some 66, some 82] 10 38, Mv 39 11])))
 (Rs (sq 40 [Mv 9, Mv 11, Io (.eqs true false [1] (.t 40) (.t 41)), Mv 42] (Sf 43 44 [La 4 8, La 4 10, Ca 21 [44, 45], Nt 46] [Pk 43 47 48]))
 (Ct 48 (.drw (sq 49 [Mv 5, Mv 6, Mv 7, Ia 1 50 51, Ld 1 52, Mv 9, La 4 8, Mv 11, La 4 10, Io (.build [.v (.string ⟨#[]⟩), .v (.bool false), .v (.string ⟨#[]⟩), .v (.int .i64 0), .nil, .nil, .v (.bool false), .v (.string ⟨#[]⟩), .v (.int .i64 0), .nil, .nil] [(0, 1, .t 53), (1, 1, .t 54), (2, 4, .t 55), (6, 1, .t 56), (7, 4, .t 57)]), Io (.lit 155 [none, none, none, none, some 66, some 82, none, none, none, some 66, some 82] [.v (.string ⟨#[]⟩), .v (.bool false), .v (.string ⟨#[]⟩), .v (.int .i64 0), .sl true 66 [], .sl true 82 [], .v (.bool false), .v (.string ⟨#[]⟩), .v (.int .i64 0), .sl true 66 [], .sl true 82 []] 1 [(0, .t 58)]), Io (.app 155 true (.t 49) (.t 59))] [Mv 60 5]) [(4, 6), (4, 8), (6, 8)])
 .skip)))))
 (.reg (sq 20 [Mv 7, Bk .add 20 1] [Mv 21 7])))))))
 (Rs [Mv 5 61, Mv 61 4]
 .ret))))), lcF []⟩
def ks_ea9 : List (List (Option Nat)) := [[some 155]]
def gl_ea9_1 (a0 : (List Feat)) (a1 : (List Feat)) : List Str → Nat → (List Change) → Option (List Change)
 | [], k101, v96 => some v96
 | x102 :: l103, k101, v96 => (gf_ec9 a0 x102).bind fun x110 => (gf_ec9 a1 x102).bind fun x117 => if (!(x110.2 == x117.2)) = true then (if fits (v96 ++ ([(⟨x102, x110.2, x110.1, x117.2, x117.1⟩ : Change)] : (List Change))).length = true then gl_ea9_1 a0 a1 l103 (k101 + 1) (v96 ++ ([(⟨x102, x110.2, x110.1, x117.2, x117.1⟩ : Change)] : (List Change))) else none) else ((gf_cf9 x110.1 x117.1).bind fun x124 => if (!x124) = true then (if fits (v96 ++ ([(⟨x102, x110.2, x110.1, x117.2, x117.1⟩ : Change)] : (List Change))).length = true then gl_ea9_1 a0 a1 l103 (k101 + 1) (v96 ++ ([(⟨x102, x110.2, x110.1, x117.2, x117.1⟩ : Change)] : (List Change))) else none) else (gl_ea9_1 a0 a1 l103 (k101 + 1) v96))
def gf_ea9 (a0 : (List Feat)) (a1 : (List Feat)) : Option (List Change) := (gf_dy9 a0 a1).bind fun x2 => if fits x2.length = true then ((gl_ea9_1 a0 a1 x2 0 []).bind fun q94 => some (q94)) else none
def c_ea9 : Con := ⟨(List Feat) × (List Feat), (List Change), 346, fun a => [.ro (List.map (eFeat false) a.1), .ro (List.map (eFeat false) a.2)], fun a => gf_ea9 a.1 a.2, fun a r => ⟨[(false, [sl true 155 (List.map (eChange true) r)])], []⟩, fun a => []⟩
/-! spec.l4Copy -/
def if_dx9 : IFn := ⟨16, [.inr (2, 11)],
 (Rs (sq 1 [Io (.box 155 [none, none, none, none, some 66, some 82, none, none, none, some 66, some 82] (.t 0)), Io (.alloc 155 [.v (.string ⟨#[]⟩), .v (.bool false), .v (.string ⟨#[]⟩), .v (.int .i64 0), .sl true 66 [], .sl true 82 [], .v (.bool false), .v (.string ⟨#[]⟩), .v (.int .i64 0), .sl true 66 [], .sl true 82 []])] [])
 (.seq (.drw (sq 3 [Fa 0 1, Ld 1 3, Fa 1 1, Ld 1 5, Fa 2 1, La 4 7, Ca 30 [8], Fa 6 1, Ld 1 10, Fa 7 1, La 4 12, Ca 30 [13], Io (.build [.v (.string ⟨#[]⟩), .v (.bool false), .v (.string ⟨#[]⟩), .v (.int .i64 0), .nil, .nil, .v (.bool false), .v (.string ⟨#[]⟩), .v (.int .i64 0), .nil, .nil] [(0, 1, .t 4), (1, 1, .t 6), (2, 4, .t 9), (6, 1, .t 11), (7, 4, .t 14)])] [Sv [none, none, none, none, some 66, some 82, none, none, none, some 66, some 82] 2 15]) [(1, 3), (1, 5), (3, 5), (1, 6), (3, 6), (1, 8), (3, 8), (5, 8), (6, 8), (1, 10), (3, 10), (5, 10), (6, 10), (8, 10), (1, 11), (3, 11), (8, 11)])
 .ret)), lcF []⟩
def ks_dx9 : List (List (Option Nat)) := [[none, none, none, none, some 66, some 82, none, none, none, some 66, some 82]]
def gf_dx9 (a0 : Change) : Option Change := (gf_dh9 a0.was).bind fun x3 => (gf_dh9 a0.now).bind fun x9 => some ((⟨a0.id, a0.had, x3, a0.has, x9⟩ : Change))
def c_dx9 : Con := ⟨Change, Change, 375, fun a => [.agg [.v (.string a.id), .v (.bool a.had), .v (.string a.was.id), .v (.int .i64 a.was.shape.kind), .ro (List.map ePt a.was.shape.pts), .ro (List.map eTag a.was.tags), .v (.bool a.has), .v (.string a.now.id), .v (.int .i64 a.now.shape.kind), .ro (List.map ePt a.now.shape.pts), .ro (List.map eTag a.now.tags)]], fun a => gf_dx9 a, fun a r => ⟨[(true, eChange true r)], []⟩, fun a => []⟩
/-! spec.l9Diff -/
def if_er9 : IFn := ⟨21, [.inl 2],
 (Rs [Io (.mv (.c (.slice none 0 0))) 2]
 (Rs [Io (.lit 155 [none, none, none, none, some 66, some 82, none, none, none, some 66, some 82] [.v (.string ⟨#[]⟩), .v (.bool false), .v (.string ⟨#[]⟩), .v (.int .i64 0), .sl true 66 [], .sl true 82 [], .v (.bool false), .v (.string ⟨#[]⟩), .v (.int .i64 0), .sl true 66 [], .sl true 82 []] 0 []) 5, Mv 5 3]
 (.seq (Rs [Ki 0 4]
 (blkC 0 (.loop (.seq (Rs (sq 6 [Mv 4, Mv 0, Ln 7, Bb .lss 6 8] [])
 (Ct 9 .skip
 (.exit 0)))
 (.seq (.block 1 (.reg (sq 12 [Mv 3, Mv 0, Mv 4, Ia 11 13 14, La 11 15, Ca 375 [16], Io (.lit 155 [none, none, none, none, some 66, some 82, none, none, none, some 66, some 82] [.v (.string ⟨#[]⟩), .v (.bool false), .v (.string ⟨#[]⟩), .v (.int .i64 0), .sl true 66 [], .sl true 82 [], .v (.bool false), .v (.string ⟨#[]⟩), .v (.int .i64 0), .sl true 66 [], .sl true 82 []] 1 [(0, .t 17)]), Io (.app 155 true (.t 12) (.t 18))] [Mv 19 3])))
 (.reg (sq 10 [Mv 4, Bk .add 10 1] [Mv 11 4])))))))
 (Rs [Mv 3 20, Mv 20 2]
 .ret)))), lcF []⟩
def ks_er9 : List (List (Option Nat)) := [[some 155]]
def gl_er9_1 : List Change → Nat → (List Change) → Option (List Change)
 | [], k59, v56 => some v56
 | x60 :: l61, k59, v56 => (gf_dx9 x60).bind fun x68 => if fits (v56 ++ ([x68] : (List Change))).length = true then gl_er9_1 l61 (k59 + 1) (v56 ++ ([x68] : (List Change))) else none
def gf_er9 (a0 : (List Change)) : Option (List Change) := if fits a0.length = true then ((gl_er9_1 a0 0 []).bind fun q54 => some (q54)) else none
def c_er9 : Con := ⟨(List Change), (List Change), 347, fun a => [.ro (List.map (eChange false) a)], fun a => gf_er9 a, fun a r => ⟨[(false, [sl true 155 (List.map (eChange true) r)])], []⟩, fun a => []⟩
/-! spec.PackOf -/
def if_ch9 : IFn := ⟨41, [.inl 2],
 (Rs (sq 1 [Io (.box 210 [some 115, some 130] (.t 0)), Io (.mv (.c (.slice none 0 0)))] [])
 (Rs [Io (.lit 163 [some 17, none, some 155] [.sl true 17 [], .v (.string ⟨#[]⟩), .sl true 155 []] 0 []) 6, Mv 6 3]
 (.seq (Rs [Ki 0 4]
 (blkC 0 (.loop (.seq (Rs (sq 7 [Mv 4, Fa 0 1, Ld 1 8, Ln 9, Bb .lss 7 10, Mv 11] (Sg 12 13 [La 2 1, Ca 33 [13]] [Pf 12 14 15]))
 (Ct 15 .skip
 (.exit 0)))
 (.seq (.block 1 (Rs (sq 18 [Fa 0 1, Ld 1 18, Mv 4, Ia 3 19 20, La 3 21] [Io (.alloc 115 [.sl true 17 [], .sl true 100 [], .v (.string ⟨#[]⟩)]) 5, Sv [some 17, some 100, none] 5 22])
 (.drw (sq 23 [Mv 3, Io (.lit 17 [none] [.v (.int .i64 0)] 0 []), Fa 0 5, Ld 1 25, Io (.app 17 false (.t 24) (.t 26)), Fa 2 5, Ld 1 28, La 2 1, Mv 4, Ca 344 [30, 31], Fa 1 5, Ld 1 33, Ca 346 [32, 34], Ca 347 [35], Io (.build [.nil, .v (.string ⟨#[]⟩), .nil] [(0, 1, .t 27), (1, 1, .t 29), (2, 1, .t 36)]), Io (.lit 163 [some 17, none, some 155] [.sl true 17 [], .v (.string ⟨#[]⟩), .sl true 155 []] 1 [(0, .t 37)]), Io (.app 163 true (.t 23) (.t 38))] [Mv 39 3]) [(1, 3), (1, 6), (3, 6), (4, 6), (1, 7), (3, 7), (4, 7), (6, 7), (6, 9), (1, 11), (3, 11), (4, 11), (6, 11), (7, 11), (9, 11), (6, 12), (6, 13)])))
 (.reg (sq 16 [Mv 4, Bk .add 16 1] [Mv 17 4])))))))
 (Rs [Mv 3 40, Mv 40 2]
 .ret)))), lcF []⟩
def ks_ch9 : List (List (Option Nat)) := [[some 163]]
def gl_ch9_1 (a0 : Repo) : List Commit → Nat → (List Entry) → Option (List Entry)
 | [], k81, v78 => some v78
 | x82 :: l83, k81, v78 => (gf_cl9 a0).bind fun x90 => if x90 = true then (if fits ([] ++ x82.up).length = true then (gf_es9 a0 (k81 : Int)).bind fun x97 => (gf_ea9 x97 x82.sheet).bind fun x99 => (gf_er9 x99).bind fun x103 => if fits (v78 ++ ([(⟨([] ++ x82.up), x82.note, x103⟩ : Entry)] : (List Entry))).length = true then gl_ch9_1 a0 l83 (k81 + 1) (v78 ++ ([(⟨([] ++ x82.up), x82.note, x103⟩ : Entry)] : (List Entry))) else none else none) else (some v78)
def gf_ch9 (a0 : Repo) : Option (List Entry) := if fits a0.commits.length = true then ((gl_ch9_1 a0 a0.commits 0 []).bind fun q76 => some (q76)) else none
def c_ch9 : Con := ⟨Repo, (List Entry), 290, fun a => [.agg [.ro (List.map (eCommit false) a.commits), .ro (List.map eHead a.heads)]], fun a => gf_ch9 a, fun a r => ⟨[(false, [sl true 163 (List.map (eEntry true) r)])], []⟩, fun a => []⟩
/-! impl.DiffOf -/
def if_ab9 : IFn := ⟨55, [.inl 4],
 (Rs [Io (.mv (.c (.slice none 0 0))) 4]
 (Rs [Io (.lit 155 [none, none, none, none, some 66, some 82, none, none, none, some 66, some 82] [.v (.string ⟨#[]⟩), .v (.bool false), .v (.string ⟨#[]⟩), .v (.int .i64 0), .sl true 66 [], .sl true 82 [], .v (.bool false), .v (.string ⟨#[]⟩), .v (.int .i64 0), .sl true 66 [], .sl true 82 []] 0 []) 9, Mv 9 5]
 (.seq (Rs (sq 10 [Mv 0, Ca 86 [10], Nt 11, Mv 12] (Sf 13 14 [Mv 1, Ca 86 [14], Nt 15] [Pk 13 16 17]))
 (Ct 17 (Rs [Mv 5 18, Mv 18 4]
 .ret)
 .skip))
 (.seq (Rs (sq 19 [Mv 0, Mv 1, Io (.lit 545 [some 100] [.sl true 100 []] 2 [(0, .t 19), (1, .t 20)]), Ca 143 [21], Ln 22, Ki 0] [])
 (blkC 0 (.loop (Rs [Bb .lss 24 23 25]
 (.seq (Ct 25 .skip
 (.exit 0))
 (.seq (.block 1 (Rs (sq 26 [Ia 1 22 24, Ld 1 26] [Mv 27 7])
 (Rs (sq 28 [Mv 7, Io (.build [.v (.string ⟨#[]⟩), .v (.bool false), .v (.string ⟨#[]⟩), .v (.int .i64 0), .nil, .nil, .v (.bool false), .v (.string ⟨#[]⟩), .v (.int .i64 0), .nil, .nil] [(0, 1, .t 28)])] [Io (.alloc 155 [.v (.string ⟨#[]⟩), .v (.bool false), .v (.string ⟨#[]⟩), .v (.int .i64 0), .sl true 66 [], .sl true 82 [], .v (.bool false), .v (.string ⟨#[]⟩), .v (.int .i64 0), .sl true 66 [], .sl true 82 []]) 8, Sv [none, none, none, none, some 66, some 82, none, none, none, some 66, some 82] 8 29])
 (seqC (.reg (sq 31 [Mv 0, Mv 7, Ca 126 [31, 32]] (Mv 33 30 :: (sq 34 [Xt 30 0, Xt 30 1, Fa 2 8] [Sv [none, none, some 66, some 82] 36 34, Fa 1 8 37, Sv [none] 37 35]))))
 (Rs (sq 39 [Mv 1, Mv 7, Ca 126 [39, 40]] (Mv 41 38 :: (sq 42 [Xt 38 0, Xt 38 1, Fa 7 8] [Sv [none, none, some 66, some 82] 44 42, Fa 6 8 45, Sv [none] 45 43])))
 (Rs (sq 46 [La 11 8, Ca 350 [46], Nt 47] [])
 (Ct 48 (.reg (sq 49 [Mv 5, La 11 8, Io (.lit 155 [none, none, none, none, some 66, some 82, none, none, none, some 66, some 82] [.v (.string ⟨#[]⟩), .v (.bool false), .v (.string ⟨#[]⟩), .v (.int .i64 0), .sl true 66 [], .sl true 82 [], .v (.bool false), .v (.string ⟨#[]⟩), .v (.int .i64 0), .sl true 66 [], .sl true 82 []] 1 [(0, .t 50)]), Io (.app 155 true (.t 49) (.t 51))] [Mv 52 5]))
 .skip)))))))
 (.reg [Bk .add 24 1 53, Mv 53 24])))))))
 (Rs [Mv 5 54, Mv 54 4]
 .ret))))), lcF []⟩
def ks_ab9 : List (List (Option Nat)) := [[some 155]]
def gl_ab9_1 (a0 : (List Feat)) (a1 : (List Feat)) : List Str → Nat → (List Change) → Option (List Change)
 | [], k116, v113 => some v113
 | x117 :: l118, k116, v113 => (((gf_bf9 a0 x117).bind fun x127 => some (x127.1.shape.pts, x127.1.tags, x127.2, x127.1.id, x127.1.shape.kind) : Option ((List Pt) × (List Tag) × Bool × Str × Int))).bind fun q126 => (gf_bf9 a1 x117).bind fun x143 => (gf_aa9 (⟨x117, q126.2.2.1, ⟨q126.2.2.2.1, ⟨q126.2.2.2.2, q126.1⟩, q126.2.1⟩, x143.2, x143.1⟩ : Change)).bind fun x149 => if (!x149) = true then (if fits (v113 ++ ([(⟨x117, q126.2.2.1, ⟨q126.2.2.2.1, ⟨q126.2.2.2.2, q126.1⟩, q126.2.1⟩, x143.2, x143.1⟩ : Change)] : (List Change))).length = true then gl_ab9_1 a0 a1 l118 (k116 + 1) (v113 ++ ([(⟨x117, q126.2.2.1, ⟨q126.2.2.2.1, ⟨q126.2.2.2.2, q126.1⟩, q126.2.1⟩, x143.2, x143.1⟩ : Change)] : (List Change))) else none) else (gl_ab9_1 a0 a1 l118 (k116 + 1) v113)
def gf_ab9 (a0 : (List Feat)) (a1 : (List Feat)) : Option (List Change) := (gf_au9 a0).bind fun x2 => if (!x2) = true then (some (([] : (List Change)))) else ((gf_au9 a1).bind fun x4 => if (!x4) = true then (some (([] : (List Change)))) else ((gf_bb9 ([a0, a1] : (List (List Feat)))).bind fun x7 => if fits x7.length = true then ((gl_ab9_1 a0 a1 x7 0 []).bind fun q111 => some (q111)) else none))
def c_ab9 : Con := ⟨(List Feat) × (List Feat), (List Change), 298, fun a => [.ro (List.map (eFeat false) a.1), .ro (List.map (eFeat false) a.2)], fun a => gf_ab9 a.1 a.2, fun a r => ⟨[(false, [sl true 155 (List.map (eChange true) r)])], []⟩, fun a => []⟩
/-! impl.PackOf -/
def if_ai9 : IFn := ⟨49, [.inl 2],
 (Rs (sq 1 [Io (.box 210 [some 115, some 130] (.t 0)), Io (.mv (.c (.slice none 0 0)))] [])
 (Rs [Io (.lit 163 [some 17, none, some 155] [.sl true 17 [], .v (.string ⟨#[]⟩), .sl true 155 []] 0 []) 7, Mv 7 3]
 (.seq (Rs (sq 8 [La 2 1, Ca 96 [8], Nt 9] [])
 (Ct 10 (Rs [Mv 3 11, Mv 11 2]
 .ret)
 .skip))
 (.seq (Rs (sq 12 [Fa 0 1, Ld 1 12, Ln 13, Ki 0] [])
 (blkC 0 (.loop (Rs [Bb .lss 15 14 16]
 (.seq (Ct 16 .skip
 (.exit 0))
 (.seq (.block 1 (Rs (sq 17 [Ia 3 13 15, La 3 17] [Io (.alloc 115 [.sl true 17 [], .sl true 100 [], .v (.string ⟨#[]⟩)]) 5, Sv [some 17, some 100, none] 5 18])
 (Rs [Io (.frz (.lit 100 [none, none, some 66, some 82] [.v (.string ⟨#[]⟩), .v (.int .i64 0), .sl true 66 [], .sl true 82 []] 0 [])) 19, Mv 19 6]
 (seqC (Rs (sq 20 [Fa 0 5, Ld 1 20, Ln 21, Bk .gtr 22 0] [])
 (Ct 23 (.drw (sq 24 [Fa 0 1, Ld 1 24, Fa 0 5, Ld 1 26, Ik 1 27 0, Ld 1 28, Ia 3 25 29, Fa 1 30, Ld 1 31] [Mv 32 6]) [(1, 3), (1, 5)])
 .skip))
 (.drw (sq 33 [Mv 3, Io (.lit 17 [none] [.v (.int .i64 0)] 0 []), Fa 0 5, Ld 1 35, Io (.app 17 false (.t 34) (.t 36)), Fa 2 5, Ld 1 38, Mv 6, Fa 1 5, Ld 1 41, Ca 298 [40, 42], Io (.build [.nil, .v (.string ⟨#[]⟩), .nil] [(0, 1, .t 37), (1, 1, .t 39), (2, 1, .t 43)]), Io (.lit 163 [some 17, none, some 155] [.sl true 17 [], .v (.string ⟨#[]⟩), .sl true 155 []] 1 [(0, .t 44)]), Io (.app 163 true (.t 33) (.t 45))] [Mv 46 3]) [(1, 3), (1, 6), (3, 6), (4, 6), (1, 9), (3, 9), (4, 9), (6, 9), (6, 10)])))))
 (.reg [Bk .add 15 1 47, Mv 47 15])))))))
 (Rs [Mv 3 48, Mv 48 2]
 .ret))))), lcF []⟩
def ks_ai9 : List (List (Option Nat)) := [[some 163]]
def gl_ai9_1 (a0 : Repo) : List Commit → Nat → (List Entry) → Option (List Entry)
 | [], k92, v89 => some v89
 | x93 :: l94, k92, v89 => ((if (decide ((x93.up.length : Int) > 0)) = true then ((idx x93.up 0).bind fun x108 => (idx a0.commits x108).bind fun x110 => some x110.sheet) else (some []) : Option (List Feat))).bind fun q107 => if fits ([] ++ x93.up).length = true then (gf_ab9 q107 x93.sheet).bind fun x117 => if fits (v89 ++ ([(⟨([] ++ x93.up), x93.note, x117⟩ : Entry)] : (List Entry))).length = true then gl_ai9_1 a0 l94 (k92 + 1) (v89 ++ ([(⟨([] ++ x93.up), x93.note, x117⟩ : Entry)] : (List Entry))) else none else none
def gf_ai9 (a0 : Repo) : Option (List Entry) := (gf_ak9 a0).bind fun x3 => if (!x3) = true then (some (([] : (List Entry)))) else (if fits a0.commits.length = true then ((gl_ai9_1 a0 a0.commits 0 []).bind fun q87 => some (q87)) else none)
def c_ai9 : Con := ⟨Repo, (List Entry), 289, fun a => [.agg [.ro (List.map (eCommit false) a.commits), .ro (List.map eHead a.heads)]], fun a => gf_ai9 a, fun a r => ⟨[(false, [sl true 163 (List.map (eEntry true) r)])], []⟩, fun a => []⟩
/-! laws.FnPackSame -/
def if_bi9 : IFn := ⟨79, [.inl 2],
 (Rs [Kb false 2]
 (.seq (Rs (sq 8 [Mv 0, Ln 8, Bk .gtr 9 1048576] [])
 (Ct 10 (Rs [Kb true 2]
 .ret)
 .skip))
 (seqC (.reg (sq 12 [Mv 0, Io (.frz (.call 250 [(false, .t 12)]))] (Mv 13 11 :: (sq 14 [Xt 11 0, Xt 11 1] (sq 3 [Io (.alloc 210 [.sl true 115 [], .sl true 130 []]), Io (.alloc 210 [.sl true 115 [], .sl true 130 []])] [Sv [some 115, some 130] 3 14, Sv [some 115, some 130] 4 15])))))
 (Rs (sq 16 [La 2 3, Cw 289 [16], Cw 261 [17]] [Mv 18 5])
 (.seq (Rs (sq 19 [Mv 5, La 2 3, Cw 290 [20], Cw 260 [21], Bb .neq 19 22, Mv 23] (Sf 24 25 [La 2 3, Cw 33 [25], Nt 26] (sq 28 [Pk 24 27, Mv 28] (Sf 29 30 [La 2 4, Cw 33 [30], Nt 31] [Pk 29 32 33]))))
 (Ct 33 (Rs (sq 34 [Mv 5, La 2 3, Cw 290 [35], Cw 260 [36], Bb .eql 34 37] [Mv 38 2])
 .ret)
 .skip))
 (Rs (sq 39 [Fa 1 3, Ld 1 39, Ln 40, Fa 1 4, Ld 1 42, Ln 43, Bb .eql 41 44] [Mv 45 6])
 (.seq (Rs [Ki 0 7]
 (blkC 0 (.loop (.seq (Rs (sq 46 [Mv 7, Fa 1 3, Ld 1 47, Ln 48, Bb .lss 46 49, Mv 50] [Gt 51 (Mv 6 52), Pf 51 52 53])
 (Ct 53 .skip
 (.exit 0)))
 (.seq (.block 1 (.drw (sq 56 [Fa 1 3, Ld 1 56, Mv 7, Io (.iaddr 2 (.w 57) (.t 58)), La 2 59, Fa 1 4, Ld 1 61, Mv 7, Io (.iaddr 2 (.w 62) (.t 63)), La 2 64, Io (.eqs false true [2, 0] (.t 60) (.t 65))] [Mv 66 6]) [(1, 6), (4, 6), (1, 9), (4, 9)]))
 (.reg (sq 54 [Mv 7, Bk .add 54 1] [Mv 55 7])))))))
 (Rs (sq 67 [La 2 3, La 2 4, Cw 228 [67, 68], Mv 6, Mv 70] (Sg 71 72 [Mv 5, La 2 4, Cw 289 [73], Cw 261 [74], Bb .eql 72 75] (sq 77 [Pf 71 76, Io (.eqs false false [1] (.t 69) (.t 77))] [Mv 78 2])))
 .ret)))))))), lcF []⟩
def ks_bi9 : List (List (Option Nat)) := [[none]]
def gl_bi9_1 (q1 : ((List Commit) × (List Head) × (List Commit) × (List Head))) : List Head → Nat → Bool → Option Bool
 | [], k71, v69 => some v69
 | x72 :: l73, k71, v69 => if v69 = true then ((idx q1.2.2.2 (k71 : Int)).bind fun x80 => gl_bi9_1 q1 l73 (k71 + 1) ((x72.name == x80.name) && ((x72.at_ == x80.at_) && true))) else (some false)
def gf_bi9 (a0 : (List UInt8)) : Option Bool := if (decide ((a0.length : Int) > 1048576)) = true then (some (true)) else ((((gf_cd9 a0).bind fun x2 => some (x2.1.commits, x2.1.heads, x2.2.commits, x2.2.heads) : Option ((List Commit) × (List Head) × (List Commit) × (List Head)))).bind fun q1 => (gf_ai9 (⟨q1.1, q1.2.1⟩ : Repo)).bind fun x20 => (gf_aj9 x20).bind fun x24 => (gf_ch9 (⟨q1.1, q1.2.1⟩ : Repo)).bind fun x26 => (gf_ci9 x26).bind fun x30 => if (!seq x24 x30) = true then ((gf_ch9 (⟨q1.1, q1.2.1⟩ : Repo)).bind fun x36 => (gf_ci9 x36).bind fun x40 => some ((seq x24 x40))) else ((gf_cl9 (⟨q1.1, q1.2.1⟩ : Repo)).bind fun x32 => if (!x32) = true then ((gf_ch9 (⟨q1.1, q1.2.1⟩ : Repo)).bind fun x42 => (gf_ci9 x42).bind fun x46 => some ((seq x24 x46))) else ((gf_cl9 (⟨q1.2.2.1, q1.2.2.2⟩ : Repo)).bind fun x34 => if (!x34) = true then ((gf_ch9 (⟨q1.1, q1.2.1⟩ : Repo)).bind fun x48 => (gf_ci9 x48).bind fun x52 => some ((seq x24 x52))) else (if fits q1.2.1.length = true then ((gl_bi9_1 q1 q1.2.1 0 ((q1.2.1.length : Int) == (q1.2.2.2.length : Int))).bind fun q68 => (gf_al9 (⟨q1.1, q1.2.1⟩ : Repo) (⟨q1.2.2.1, q1.2.2.2⟩ : Repo)).bind fun x83 => if q68 = true then ((gf_ai9 (⟨q1.2.2.1, q1.2.2.2⟩ : Repo)).bind fun x85 => (gf_aj9 x85).bind fun x89 => some ((x83 == (seq x24 x89)))) else (some ((x83 == false)))) else none))))
def c_bi9 : Con := ⟨(List UInt8) × Option Addr × Nat, Bool, 288, fun a => [.raw a.2.1 a.2.2 (List.map eU8 a.1)], fun a => gf_bi9 a.1, fun a r => ⟨[(false, [.v (.bool r)])], []⟩, fun a => []⟩
end Go.Proofs.AM
