/- Lemmas of the proof (KHD), on an abstract machine. Conditions: none. -/
import Derived.Test.YtknajiljcemblaaGreatG2
set_option linter.unusedVariables false
set_option maxRecDepth 100000
set_option maxHeartbeats 4000000
namespace Go.Proofs.AM
attribute [local irreducible] vwp vstps vstpLs vstp vdo vret kseq kblk kloop kend kcut kloop2 frzV renV shutK pfzV trnV unrV
/-! spec.l1Num -/
def ib_cq9 : IC :=
 (Rs [Kb 2 false]
 (Rs [Mv 3 0, Bk 4 .geq 3 (-1000), Mv 5 4, Gt 5 (Mv 6 0), Gt 5 (Bk 7 .leq 6 1000), Io 8 (.pick (.t 5) (.t 7) (.c (.bool false))), Mv 2 8]
 .ret))
def if_cq9 : IFn := ⟨9, [.inl 2], ib_cq9, lcF []⟩
def ks_cq9 : List (List (Option Nat)) := [[none]]
def gf_cq9 (a0 : Int) : Option Bool := if (decide (a0 ≥ (-1000))) = true then (some ((decide (a0 ≤ 1000)))) else (some (false))
def c_cq9 : Con := ⟨Int, Bool, 12, fun a => [.v (.int .i64 a)], fun a => gf_cq9 a, fun a r => ⟨[(false, [.v (.bool r)])], []⟩, fun a => []⟩
/-! spec.l1Pts -/
def ib_cs9 : IC :=
 (Rs [Kb 2 false]
 (.seq (Rs [Ki 3 0]
 (blkC 0 (.loop (.seq (Rs [Mv 4 3, Mv 5 0, Ln 6 5, Bb 7 .lss 4 6]
 (Ct 7 .skip
 (.exit 0)))
 (.seq (.block 1 (.seq (.drw [Mv 10 0, Mv 11 3, Ia 12 2 10 11, Fa 13 0 12, Ld 14 1 13, Ca 15 12 [14], Nt 16 15, Mv 17 16, Gf 17 (Mv 18 0), Gf 17 (Mv 19 3), Gf 17 (Ia 20 2 18 19), Gf 17 (Fa 21 1 20), Gf 17 (Ld 22 1 21), Gf 17 (Ca 23 12 [22]), Gf 17 (Nt 24 23), Pk 25 17 24, Mv 26 25, Gf 26 (Mv 27 3), Gf 26 (Bk 28 .gtr 27 0), Gf 26 (Mv 29 28), Gt 29 (Mv 30 0), Gt 29 (Mv 31 3), Gt 29 (Ia 32 2 30 31), Gt 29 (La 33 2 32), Gt 29 (Mv 34 0), Gt 29 (Mv 35 3), Gt 29 (Bk 36 .sub 35 1), Gt 29 (Ia 37 2 34 36), Gt 29 (La 38 2 37), Gt 29 (Io 39 (.eqs false true [0, 0] (.t 33) (.t 38))), Gf 26 (Io 40 (.pick (.t 29) (.t 39) (.c (.bool false)))), Pk 41 26 40] [(23, 28)])
 (Ct 41 (Rs [Kb 2 false]
 .ret)
 .skip)))
 (.reg [Mv 8 3, Bk 9 .add 8 1, Mv 3 9]))))))
 (Rs [Mv 42 0, Ln 43 42, Bk 44 .leq 43 6, Mv 2 44]
 .ret)))
def if_cs9 : IFn := ⟨45, [.inl 2], ib_cs9, lcF []⟩
def ks_cs9 : List (List (Option Nat)) := [[none]]
def gl_cs9_1 (a0 : (List Pt)) : List Pt → Nat → Option (Bool ⊕ Unit)
 | [], k26 => some (.inr ())
 | x27 :: l28, k26 => (gf_cq9 x27.x).bind fun x35 => if (!x35) = true then (some (.inl (false))) else ((gf_cq9 x27.y).bind fun x37 => if (!x37) = true then (some (.inl (false))) else (if (decide ((k26 : Int) > 0)) = true then ((idx a0 (IntKind.i64.wrap ((k26 : Int) - 1))).bind fun x39 => if ((x27.x == x39.x) && ((x27.y == x39.y) && true)) = true then (some (.inl (false))) else (gl_cs9_1 a0 l28 (k26 + 1) )) else (gl_cs9_1 a0 l28 (k26 + 1) )))
def gf_cs9 (a0 : (List Pt)) : Option Bool := if fits a0.length = true then ((gl_cs9_1 a0 a0 0 ).bind fun q => match q with | .inl r => some r | .inr q24 => some ((decide ((a0.length : Int) ≤ 6)))) else none
def c_cs9 : Con := ⟨(List Pt), Bool, 13, fun a => [.ro (List.map ePt a)], fun a => gf_cs9 a, fun a r => ⟨[(false, [.v (.bool r)])], []⟩, fun a => []⟩
/-! spec.WordOk -/
def ib_cf9 : IC :=
 (Rs [Kb 2 false]
 (.seq (Rs [Ki 3 0]
 (blkC 0 (.loop (.seq (Rs [Mv 4 3, Mv 5 0, Io 6 (.len true (.t 5)), Bb 7 .lss 4 6]
 (Ct 7 .skip
 (.exit 0)))
 (.seq (.block 1 (Rs [Mv 10 0, Mv 11 3, Io 12 (.sidx (.t 10) (.t 11)), Io 13 (.bin .lss (.t 12) (.c (.int .u8 97))), Mv 14 13, Gf 14 (Mv 15 0), Gf 14 (Mv 16 3), Gf 14 (Io 17 (.sidx (.t 15) (.t 16))), Gf 14 (Io 18 (.bin .gtr (.t 17) (.c (.int .u8 122)))), Pk 19 14 18]
 (Ct 19 (Rs [Kb 2 false]
 .ret)
 .skip)))
 (.reg [Mv 8 3, Bk 9 .add 8 1, Mv 3 9]))))))
 (Rs [Mv 20 0, Io 21 (.len true (.t 20)), Bk 22 .geq 21 1, Mv 23 22, Gt 23 (Mv 24 0), Gt 23 (Io 25 (.len true (.t 24))), Gt 23 (Bk 26 .leq 25 6), Io 27 (.pick (.t 23) (.t 26) (.c (.bool false))), Mv 2 27]
 .ret)))
def if_cf9 : IFn := ⟨28, [.inl 2], ib_cf9, lcF []⟩
def ks_cf9 : List (List (Option Nat)) := [[none]]
def gl_cf9_1 : List UInt8 → Nat → Option (Bool ⊕ Unit)
 | [], k10 => some (.inr ())
 | x11 :: l12, k10 => if (decide ((x11.toNat : Int) < 97)) = true then (some (.inl (false))) else (if (decide ((x11.toNat : Int) > 122)) = true then (some (.inl (false))) else (gl_cf9_1 l12 (k10 + 1) ))
def gf_cf9 (a0 : Str) : Option Bool := if fits a0.size = true then ((gl_cf9_1 a0.data.toList 0 ).bind fun q => match q with | .inl r => some r | .inr q8 => if (decide ((a0.size : Int) ≥ 1)) = true then (some ((decide ((a0.size : Int) ≤ 6)))) else (some (false))) else none
def c_cf9 : Con := ⟨Str, Bool, 14, fun a => [.v (.string a)], fun a => gf_cf9 a, fun a r => ⟨[(false, [.v (.bool r)])], []⟩, fun a => []⟩
/-! spec.ShapeOk -/
def ib_ca9 : IC :=
 (Rs [Io 1 (.box 226 [none, some 66] (.t 0)), Kb 2 false]
 (Rs [Fa 4 1 1, Ld 5 1 4, Ln 6 5, Mv 3 6]
 (.seq (Rs [Fa 7 1 1, Ld 8 1 7, Ca 9 13 [8], Nt 10 9]
 (Ct 10 (Rs [Kb 2 false]
 .ret)
 .skip))
 (.seq (Rs [Fa 11 0 1, Ld 12 1 11]
 (.block 0 (Rs [Bk 14 .eql 12 1, Mv 13 14]
 (Ct 13 (Rs [Mv 15 3, Bk 16 .eql 15 1, Mv 2 16]
 .ret)
 (Rs [Bk 18 .eql 12 2, Mv 17 18]
 (Ct 17 (Rs [Mv 19 3, Bk 20 .geq 19 2, Mv 2 20]
 .ret)
 (Rs [Bk 22 .eql 12 3, Mv 21 22]
 (Ct 21 (.seq (.drw [Mv 23 3, Bk 24 .geq 23 3, Mv 25 24, Gt 25 (Fa 26 1 1), Gt 25 (Ld 27 1 26), Gt 25 (Io 28 (.iaddr 2 (.t 27) (.c (.int .i64 0)))), Gt 25 (La 29 2 28), Gt 25 (Fa 30 1 1), Gt 25 (Ld 31 1 30), Gt 25 (Mv 32 3), Gt 25 (Bk 33 .sub 32 1), Gt 25 (Ia 34 2 31 33), Gt 25 (La 35 2 34), Gt 25 (Io 36 (.eqs true true [0, 0] (.t 29) (.t 35))), Io 37 (.pick (.t 25) (.t 36) (.c (.bool false))), Mv 2 37] [(4, 8), (6, 8), (4, 12), (6, 12)])
 .ret)
 .skip))))))))
 (Rs [Kb 2 false]
 .ret)))))
def if_ca9 : IFn := ⟨38, [.inl 2], ib_ca9, lcF []⟩
def ks_ca9 : List (List (Option Nat)) := [[none]]
def gf_ca9 (a0 : Shape) : Option Bool := (gf_cs9 a0.pts).bind fun x2 => if (!x2) = true then (some (false)) else (if (a0.kind == 1) = true then (some (((a0.pts.length : Int) == 1))) else (if (a0.kind == 2) = true then (some ((decide ((a0.pts.length : Int) ≥ 2)))) else (if (a0.kind == 3) = true then (if (decide ((a0.pts.length : Int) ≥ 3)) = true then ((idx a0.pts 0).bind fun x4 => (idx a0.pts (IntKind.i64.wrap ((a0.pts.length : Int) - 1))).bind fun x6 => some ((!((x4.x == x6.x) && ((x4.y == x6.y) && true))))) else (some (false))) else (some (false)))))
def c_ca9 : Con := ⟨Shape, Bool, 15, fun a => [.agg [.v (.int .i64 a.kind), .ro (List.map ePt a.pts)]], fun a => gf_ca9 a, fun a r => ⟨[(false, [.v (.bool r)])], []⟩, fun a => []⟩
/-! spec.l2Tags -/
def ib_dc9 : IC :=
 (Rs [Kb 2 false]
 (.seq (Rs [Ki 3 0]
 (blkC 0 (.loop (.seq (Rs [Mv 4 3, Mv 5 0, Ln 6 5, Bb 7 .lss 4 6]
 (Ct 7 .skip
 (.exit 0)))
 (.seq (.block 1 (.seq (.drw [Mv 10 0, Mv 11 3, Ia 12 2 10 11, Fa 13 0 12, Ld 14 1 13, Ca 15 14 [14], Nt 16 15, Mv 17 16, Gf 17 (Mv 18 0), Gf 17 (Mv 19 3), Gf 17 (Ia 20 2 18 19), Gf 17 (Fa 21 1 20), Gf 17 (Ld 22 1 21), Gf 17 (Ca 23 14 [22]), Gf 17 (Nt 24 23), Pk 25 17 24, Mv 26 25, Gf 26 (Mv 27 3), Gf 26 (Bk 28 .gtr 27 0), Gf 26 (Mv 29 28), Gt 29 (Mv 30 0), Gt 29 (Mv 31 3), Gt 29 (Ia 32 2 30 31), Gt 29 (Fa 33 0 32), Gt 29 (Ld 34 1 33), Gt 29 (Mv 35 0), Gt 29 (Mv 36 3), Gt 29 (Bk 37 .sub 36 1), Gt 29 (Ia 38 2 35 37), Gt 29 (Fa 39 0 38), Gt 29 (Ld 40 1 39), Gt 29 (Bb 41 .leq 34 40), Gf 26 (Io 42 (.pick (.t 29) (.t 41) (.c (.bool false)))), Pk 43 26 42] [(24, 30)])
 (Ct 43 (Rs [Kb 2 false]
 .ret)
 .skip)))
 (.reg [Mv 8 3, Bk 9 .add 8 1, Mv 3 9]))))))
 (Rs [Mv 44 0, Ln 45 44, Bk 46 .leq 45 4, Mv 2 46]
 .ret)))
def if_dc9 : IFn := ⟨47, [.inl 2], ib_dc9, lcF []⟩
def ks_dc9 : List (List (Option Nat)) := [[none]]
def gl_dc9_1 (a0 : (List Tag)) : List Tag → Nat → Option (Bool ⊕ Unit)
 | [], k26 => some (.inr ())
 | x27 :: l28, k26 => (gf_cf9 x27.key).bind fun x35 => if (!x35) = true then (some (.inl (false))) else ((gf_cf9 x27.val).bind fun x37 => if (!x37) = true then (some (.inl (false))) else (if (decide ((k26 : Int) > 0)) = true then ((idx a0 (IntKind.i64.wrap ((k26 : Int) - 1))).bind fun x39 => if (slt x27.key x39.key || seq x27.key x39.key) = true then (some (.inl (false))) else (gl_dc9_1 a0 l28 (k26 + 1) )) else (gl_dc9_1 a0 l28 (k26 + 1) )))
def gf_dc9 (a0 : (List Tag)) : Option Bool := if fits a0.length = true then ((gl_dc9_1 a0 a0 0 ).bind fun q => match q with | .inl r => some r | .inr q24 => some ((decide ((a0.length : Int) ≤ 4)))) else none
def c_dc9 : Con := ⟨(List Tag), Bool, 16, fun a => [.ro (List.map eTag a)], fun a => gf_dc9 a, fun a r => ⟨[(false, [.v (.bool r)])], []⟩, fun a => []⟩
/-! spec.FeatOk -/
def ib_bu9 : IC :=
 (Rs [Io 1 (.box 100 [none, none, some 66, some 82] (.t 0)), Kb 2 false]
 (Rs [Fa 3 0 1, Ld 4 1 3, Ca 5 14 [4], Mv 6 5, Gt 6 (Fa 7 1 1), Gt 6 (La 8 2 7), Gt 6 (Ca 9 15 [8]), Io 10 (.pick (.t 6) (.t 9) (.c (.bool false))), Mv 11 10, Gt 11 (Fa 12 3 1), Gt 11 (Ld 13 1 12), Gt 11 (Ca 14 16 [13]), Io 15 (.pick (.t 11) (.t 14) (.c (.bool false))), Mv 2 15]
 .ret))
def if_bu9 : IFn := ⟨16, [.inl 2], ib_bu9, lcF []⟩
def ks_bu9 : List (List (Option Nat)) := [[none]]
def gf_bu9 (a0 : Feat) : Option Bool := (gf_cf9 a0.id).bind fun x2 => if x2 = true then ((gf_ca9 a0.shape).bind fun x4 => if x4 = true then ((gf_dc9 a0.tags).bind fun x6 => some (x6)) else (some (false))) else (some (false))
def c_bu9 : Con := ⟨Feat, Bool, 17, fun a => [.agg [.v (.string a.id), .v (.int .i64 a.shape.kind), .ro (List.map ePt a.shape.pts), .ro (List.map eTag a.tags)]], fun a => gf_bu9 a, fun a r => ⟨[(false, [.v (.bool r)])], []⟩, fun a => []⟩
/-! spec.l1Same -/
def ib_ct9 : IC :=
 (Rs [Kb 4 false]
 (.seq (Rs [Mv 6 0, Ln 7 6, Mv 8 1, Ln 9 8, Bb 10 .neq 7 9]
 (Ct 10 (Rs [Kb 4 false]
 .ret)
 .skip))
 (.seq (Rs [Ki 5 0]
 (blkC 0 (.loop (.seq (Rs [Mv 11 5, Mv 12 0, Ln 13 12, Bb 14 .lss 11 13]
 (Ct 14 .skip
 (.exit 0)))
 (.seq (.block 1 (.seq (.drw [Mv 17 0, Mv 18 5, Ia 19 2 17 18, La 20 2 19, Mv 21 1, Mv 22 5, Ia 23 2 21 22, La 24 2 23, Io 25 (.eqs true true [0, 0] (.t 20) (.t 24))] [(3, 7)])
 (Ct 25 (Rs [Kb 4 false]
 .ret)
 .skip)))
 (.reg [Mv 15 5, Bk 16 .add 15 1, Mv 5 16]))))))
 (Rs [Kb 4 true]
 .ret))))
def if_ct9 : IFn := ⟨26, [.inl 4], ib_ct9, lcF []⟩
def ks_ct9 : List (List (Option Nat)) := [[none]]
def gl_ct9_1 (a1 : (List Pt)) : List Pt → Nat → Option (Bool ⊕ Unit)
 | [], k16 => some (.inr ())
 | x17 :: l18, k16 => (idx a1 (k16 : Int)).bind fun x25 => if (!((x17.x == x25.x) && ((x17.y == x25.y) && true))) = true then (some (.inl (false))) else (gl_ct9_1 a1 l18 (k16 + 1) )
def gf_ct9 (a0 : (List Pt)) (a1 : (List Pt)) : Option Bool := if ((a0.length : Int) != (a1.length : Int)) = true then (some (false)) else (if fits a0.length = true then ((gl_ct9_1 a1 a0 0 ).bind fun q => match q with | .inl r => some r | .inr q14 => some (true)) else none)
def c_ct9 : Con := ⟨(List Pt) × (List Pt), Bool, 18, fun a => [.ro (List.map ePt a.1), .ro (List.map ePt a.2)], fun a => gf_ct9 a.1 a.2, fun a r => ⟨[(false, [.v (.bool r)])], []⟩, fun a => []⟩
/-! spec.ShapeSame -/
def ib_cb9 : IC :=
 (Rs [Io 2 (.box 226 [none, some 66] (.t 0)), Io 3 (.box 226 [none, some 66] (.t 1)), Kb 4 false]
 (Rs [Fa 5 0 2, Ld 6 1 5, Fa 7 0 3, Ld 8 1 7, Bb 9 .eql 6 8, Mv 10 9, Gt 10 (Fa 11 1 2), Gt 10 (Ld 12 1 11), Gt 10 (Fa 13 1 3), Gt 10 (Ld 14 1 13), Gt 10 (Ca 15 18 [12, 14]), Io 16 (.pick (.t 10) (.t 15) (.c (.bool false))), Mv 4 16]
 .ret))
def if_cb9 : IFn := ⟨17, [.inl 4], ib_cb9, lcF []⟩
def ks_cb9 : List (List (Option Nat)) := [[none]]
def gf_cb9 (a0 : Shape) (a1 : Shape) : Option Bool := if (a0.kind == a1.kind) = true then ((gf_ct9 a0.pts a1.pts).bind fun x3 => some (x3)) else (some (false))
def c_cb9 : Con := ⟨Shape × Shape, Bool, 19, fun a => [.agg [.v (.int .i64 a.1.kind), .ro (List.map ePt a.1.pts)], .agg [.v (.int .i64 a.2.kind), .ro (List.map ePt a.2.pts)]], fun a => gf_cb9 a.1 a.2, fun a r => ⟨[(false, [.v (.bool r)])], []⟩, fun a => []⟩
/-! spec.l2Same -/
def ib_db9 : IC :=
 (Rs [Kb 4 false]
 (.seq (Rs [Mv 6 0, Ln 7 6, Mv 8 1, Ln 9 8, Bb 10 .neq 7 9]
 (Ct 10 (Rs [Kb 4 false]
 .ret)
 .skip))
 (.seq (Rs [Ki 5 0]
 (blkC 0 (.loop (.seq (Rs [Mv 11 5, Mv 12 0, Ln 13 12, Bb 14 .lss 11 13]
 (Ct 14 .skip
 (.exit 0)))
 (.seq (.block 1 (.seq (.drw [Mv 17 0, Mv 18 5, Ia 19 2 17 18, La 20 2 19, Mv 21 1, Mv 22 5, Ia 23 2 21 22, La 24 2 23, Io 25 (.eqs true true [2, 2] (.t 20) (.t 24))] [(3, 7)])
 (Ct 25 (Rs [Kb 4 false]
 .ret)
 .skip)))
 (.reg [Mv 15 5, Bk 16 .add 15 1, Mv 5 16]))))))
 (Rs [Kb 4 true]
 .ret))))
def if_db9 : IFn := ⟨26, [.inl 4], ib_db9, lcF []⟩
def ks_db9 : List (List (Option Nat)) := [[none]]
def gl_db9_1 (a1 : (List Tag)) : List Tag → Nat → Option (Bool ⊕ Unit)
 | [], k16 => some (.inr ())
 | x17 :: l18, k16 => (idx a1 (k16 : Int)).bind fun x25 => if (!((x17.key == x25.key) && ((x17.val == x25.val) && true))) = true then (some (.inl (false))) else (gl_db9_1 a1 l18 (k16 + 1) )
def gf_db9 (a0 : (List Tag)) (a1 : (List Tag)) : Option Bool := if ((a0.length : Int) != (a1.length : Int)) = true then (some (false)) else (if fits a0.length = true then ((gl_db9_1 a1 a0 0 ).bind fun q => match q with | .inl r => some r | .inr q14 => some (true)) else none)
def c_db9 : Con := ⟨(List Tag) × (List Tag), Bool, 20, fun a => [.ro (List.map eTag a.1), .ro (List.map eTag a.2)], fun a => gf_db9 a.1 a.2, fun a r => ⟨[(false, [.v (.bool r)])], []⟩, fun a => []⟩
/-! spec.FeatSame -/
def ib_bv9 : IC :=
 (Rs [Io 2 (.box 100 [none, none, some 66, some 82] (.t 0)), Io 3 (.box 100 [none, none, some 66, some 82] (.t 1)), Kb 4 false]
 (Rs [Fa 5 0 2, Ld 6 1 5, Fa 7 0 3, Ld 8 1 7, Bb 9 .eql 6 8, Mv 10 9, Gt 10 (Fa 11 1 2), Gt 10 (La 12 2 11), Gt 10 (Fa 13 1 3), Gt 10 (La 14 2 13), Gt 10 (Ca 15 19 [12, 14]), Io 16 (.pick (.t 10) (.t 15) (.c (.bool false))), Mv 17 16, Gt 17 (Fa 18 3 2), Gt 17 (Ld 19 1 18), Gt 17 (Fa 20 3 3), Gt 17 (Ld 21 1 20), Gt 17 (Ca 22 20 [19, 21]), Io 23 (.pick (.t 17) (.t 22) (.c (.bool false))), Mv 4 23]
 .ret))
def if_bv9 : IFn := ⟨24, [.inl 4], ib_bv9, lcF []⟩
def ks_bv9 : List (List (Option Nat)) := [[none]]
def gf_bv9 (a0 : Feat) (a1 : Feat) : Option Bool := if (seq a0.id a1.id) = true then ((gf_cb9 a0.shape a1.shape).bind fun x3 => if x3 = true then ((gf_db9 a0.tags a1.tags).bind fun x5 => some (x5)) else (some (false))) else (some (false))
def c_bv9 : Con := ⟨Feat × Feat, Bool, 21, fun a => [.agg [.v (.string a.1.id), .v (.int .i64 a.1.shape.kind), .ro (List.map ePt a.1.shape.pts), .ro (List.map eTag a.1.tags)], .agg [.v (.string a.2.id), .v (.int .i64 a.2.shape.kind), .ro (List.map ePt a.2.shape.pts), .ro (List.map eTag a.2.tags)]], fun a => gf_bv9 a.1 a.2, fun a r => ⟨[(false, [.v (.bool r)])], []⟩, fun a => []⟩
/-! spec.l7Ints -/
def ib_dt9 : IC :=
 (Rs [Kb 4 false]
 (.seq (Rs [Mv 6 0, Ln 7 6, Mv 8 1, Ln 9 8, Bb 10 .neq 7 9]
 (Ct 10 (Rs [Kb 4 false]
 .ret)
 .skip))
 (.seq (Rs [Ki 5 0]
 (blkC 0 (.loop (.seq (Rs [Mv 11 5, Mv 12 0, Ln 13 12, Bb 14 .lss 11 13]
 (Ct 14 .skip
 (.exit 0)))
 (.seq (.block 1 (.seq (.drw [Mv 17 0, Mv 18 5, Ia 19 1 17 18, Ld 20 1 19, Mv 21 1, Mv 22 5, Ia 23 1 21 22, Ld 24 1 23, Bb 25 .neq 20 24] [(3, 7)])
 (Ct 25 (Rs [Kb 4 false]
 .ret)
 .skip)))
 (.reg [Mv 15 5, Bk 16 .add 15 1, Mv 5 16]))))))
 (Rs [Kb 4 true]
 .ret))))
def if_dt9 : IFn := ⟨26, [.inl 4], ib_dt9, lcF []⟩
def ks_dt9 : List (List (Option Nat)) := [[none]]
def gl_dt9_1 (a1 : (List Int)) : List Int → Nat → Option (Bool ⊕ Unit)
 | [], k16 => some (.inr ())
 | x17 :: l18, k16 => (idx a1 (k16 : Int)).bind fun x25 => if (x17 != x25) = true then (some (.inl (false))) else (gl_dt9_1 a1 l18 (k16 + 1) )
def gf_dt9 (a0 : (List Int)) (a1 : (List Int)) : Option Bool := if ((a0.length : Int) != (a1.length : Int)) = true then (some (false)) else (if fits a0.length = true then ((gl_dt9_1 a1 a0 0 ).bind fun q => match q with | .inl r => some r | .inr q14 => some (true)) else none)
def c_dt9 : Con := ⟨(List Int) × (List Int), Bool, 22, fun a => [.ro (List.map eInt a.1), .ro (List.map eInt a.2)], fun a => gf_dt9 a.1 a.2, fun a r => ⟨[(false, [.v (.bool r)])], []⟩, fun a => []⟩
/-! spec.SheetSame -/
def ib_cd9 : IC :=
 (Rs [Kb 4 false]
 (.seq (Rs [Mv 6 0, Ln 7 6, Mv 8 1, Ln 9 8, Bb 10 .neq 7 9]
 (Ct 10 (Rs [Kb 4 false]
 .ret)
 .skip))
 (.seq (Rs [Ki 5 0]
 (blkC 0 (.loop (.seq (Rs [Mv 11 5, Mv 12 0, Ln 13 12, Bb 14 .lss 11 13]
 (Ct 14 .skip
 (.exit 0)))
 (.seq (.block 1 (.seq (.drw [Mv 17 0, Mv 18 5, Ia 19 4 17 18, La 20 4 19, Mv 21 1, Mv 22 5, Ia 23 4 21 22, La 24 4 23, Ca 25 21 [20, 24], Nt 26 25] [(3, 7)])
 (Ct 26 (Rs [Kb 4 false]
 .ret)
 .skip)))
 (.reg [Mv 15 5, Bk 16 .add 15 1, Mv 5 16]))))))
 (Rs [Kb 4 true]
 .ret))))
def if_cd9 : IFn := ⟨27, [.inl 4], ib_cd9, lcF []⟩
def ks_cd9 : List (List (Option Nat)) := [[none]]
def gl_cd9_1 (a1 : (List Feat)) : List Feat → Nat → Option (Bool ⊕ Unit)
 | [], k22 => some (.inr ())
 | x23 :: l24, k22 => (idx a1 (k22 : Int)).bind fun x31 => (gf_bv9 x23 x31).bind fun x33 => if (!x33) = true then (some (.inl (false))) else (gl_cd9_1 a1 l24 (k22 + 1) )
def gf_cd9 (a0 : (List Feat)) (a1 : (List Feat)) : Option Bool := if ((a0.length : Int) != (a1.length : Int)) = true then (some (false)) else (if fits a0.length = true then ((gl_cd9_1 a1 a0 0 ).bind fun q => match q with | .inl r => some r | .inr q20 => some (true)) else none)
def c_cd9 : Con := ⟨(List Feat) × (List Feat), Bool, 23, fun a => [.ro (List.map (eFeat false) a.1), .ro (List.map (eFeat false) a.2)], fun a => gf_cd9 a.1 a.2, fun a r => ⟨[(false, [.v (.bool r)])], []⟩, fun a => []⟩
/-! spec.l7Same -/
def ib_dz9 : IC :=
 (Rs [Io 2 (.box 115 [some 17, some 100, none] (.t 0)), Io 3 (.box 115 [some 17, some 100, none] (.t 1)), Kb 4 false]
 (Rs [Fa 5 0 2, Ld 6 1 5, Fa 7 0 3, Ld 8 1 7, Ca 9 22 [6, 8], Mv 10 9, Gt 10 (Fa 11 1 2), Gt 10 (Ld 12 1 11), Gt 10 (Fa 13 1 3), Gt 10 (Ld 14 1 13), Gt 10 (Ca 15 23 [12, 14]), Io 16 (.pick (.t 10) (.t 15) (.c (.bool false))), Mv 17 16, Gt 17 (Fa 18 2 2), Gt 17 (Ld 19 1 18), Gt 17 (Fa 20 2 3), Gt 17 (Ld 21 1 20), Gt 17 (Bb 22 .eql 19 21), Io 23 (.pick (.t 17) (.t 22) (.c (.bool false))), Mv 4 23]
 .ret))
def if_dz9 : IFn := ⟨24, [.inl 4], ib_dz9, lcF []⟩
def ks_dz9 : List (List (Option Nat)) := [[none]]
def gf_dz9 (a0 : Commit) (a1 : Commit) : Option Bool := (gf_dt9 a0.up a1.up).bind fun x3 => if x3 = true then ((gf_cd9 a0.sheet a1.sheet).bind fun x5 => if x5 = true then (some ((seq a0.note a1.note))) else (some (false))) else (some (false))
def c_dz9 : Con := ⟨Commit × Commit, Bool, 24, fun a => [.agg [.ro (List.map eInt a.1.up), .ro (List.map (eFeat false) a.1.sheet), .v (.string a.1.note)], .agg [.ro (List.map eInt a.2.up), .ro (List.map (eFeat false) a.2.sheet), .v (.string a.2.note)]], fun a => gf_dz9 a.1 a.2, fun a r => ⟨[(false, [.v (.bool r)])], []⟩, fun a => []⟩
/-! spec.l7Up -/
def ib_ea9 : IC :=
 (Rs [Kb 4 false]
 (.seq (Rs [Ki 5 0]
 (blkC 0 (.loop (.seq (Rs [Mv 6 5, Mv 7 0, Ln 8 7, Bb 9 .lss 6 8]
 (Ct 9 .skip
 (.exit 0)))
 (.seq (.block 1 (Rs [Mv 12 0, Mv 13 5, Ia 14 1 12 13, Ld 15 1 14, Bk 16 .lss 15 0, Mv 17 16, Gf 17 (Mv 18 0), Gf 17 (Mv 19 5), Gf 17 (Ia 20 1 18 19), Gf 17 (Ld 21 1 20), Gf 17 (Mv 22 1), Gf 17 (Bb 23 .geq 21 22), Pk 24 17 23]
 (Ct 24 (Rs [Kb 4 false]
 .ret)
 .skip)))
 (.reg [Mv 10 5, Bk 11 .add 10 1, Mv 5 11]))))))
 (.seq (.drw [Mv 25 0, Ln 26 25, Bk 27 .leq 26 2, Mv 28 27, Gt 28 (Mv 29 0), Gt 28 (Ln 30 29), Gt 28 (Bk 31 .gtr 30 0), Gt 28 (Mv 32 1), Gt 28 (Bk 33 .gtr 32 0), Gt 28 (Io 34 (.eqs false false [1] (.t 31) (.t 33))), Io 35 (.pick (.t 28) (.t 34) (.c (.bool false))), Mv 36 35, Gt 36 (Mv 37 0), Gt 36 (Ln 38 37), Gt 36 (Bk 39 .lss 38 2), Gt 36 (Mv 40 39), Gf 40 (Mv 41 0), Gf 40 (Io 42 (.iaddr 1 (.t 41) (.c (.int .i64 0)))), Gf 40 (Ld 43 1 42), Gf 40 (Mv 44 0), Gf 40 (Io 45 (.iaddr 1 (.t 44) (.c (.int .i64 1)))), Gf 40 (Ld 46 1 45), Gf 40 (Bb 47 .neq 43 46), Gt 36 (Pk 48 40 47), Io 49 (.pick (.t 36) (.t 48) (.c (.bool false))), Mv 4 49] [(18, 21)])
 .ret)))
def if_ea9 : IFn := ⟨50, [.inl 4], ib_ea9, lcF []⟩
def ks_ea9 : List (List (Option Nat)) := [[none]]
def gl_ea9_1 (a1 : Int) : List Int → Nat → Option (Bool ⊕ Unit)
 | [], k10 => some (.inr ())
 | x11 :: l12, k10 => if (decide (x11 < 0)) = true then (some (.inl (false))) else (if (decide (x11 ≥ a1)) = true then (some (.inl (false))) else (gl_ea9_1 a1 l12 (k10 + 1) ))
def gf_ea9 (a0 : (List Int)) (a1 : Int) : Option Bool := if fits a0.length = true then ((gl_ea9_1 a1 a0 0 ).bind fun q => match q with | .inl r => some r | .inr q8 => if (decide ((a0.length : Int) ≤ 2)) = true then (if ((decide ((a0.length : Int) > 0)) == (decide (a1 > 0))) = true then (if (decide ((a0.length : Int) < 2)) = true then (some (true)) else ((idx a0 0).bind fun x19 => (idx a0 1).bind fun x21 => some ((x19 != x21)))) else (some (false))) else (some (false))) else none
def c_ea9 : Con := ⟨(List Int) × Int, Bool, 25, fun a => [.ro (List.map eInt a.1), .v (.int .i64 a.2)], fun a => gf_ea9 a.1 a.2, fun a r => ⟨[(false, [.v (.bool r)])], []⟩, fun a => []⟩
/-! spec.SheetOk -/
def ib_cc9 : IC :=
 (Rs [Kb 2 false]
 (.seq (Rs [Ki 3 0]
 (blkC 0 (.loop (.seq (Rs [Mv 4 3, Mv 5 0, Ln 6 5, Bb 7 .lss 4 6]
 (Ct 7 .skip
 (.exit 0)))
 (.seq (.block 1 (.seq (.drw [Mv 10 0, Mv 11 3, Ia 12 4 10 11, La 13 4 12, Ca 14 17 [13], Nt 15 14, Mv 16 15, Gf 16 (Mv 17 3), Gf 16 (Bk 18 .gtr 17 0), Gf 16 (Mv 19 18), Gt 19 (Mv 20 0), Gt 19 (Mv 21 3), Gt 19 (Ia 22 4 20 21), Gt 19 (Fa 23 0 22), Gt 19 (Ld 24 1 23), Gt 19 (Mv 25 0), Gt 19 (Mv 26 3), Gt 19 (Bk 27 .sub 26 1), Gt 19 (Ia 28 4 25 27), Gt 19 (Fa 29 0 28), Gt 19 (Ld 30 1 29), Gt 19 (Bb 31 .leq 24 30), Gf 16 (Io 32 (.pick (.t 19) (.t 31) (.c (.bool false)))), Pk 33 16 32] [(14, 20)])
 (Ct 33 (Rs [Kb 2 false]
 .ret)
 .skip)))
 (.reg [Mv 8 3, Bk 9 .add 8 1, Mv 3 9]))))))
 (Rs [Mv 34 0, Ln 35 34, Bk 36 .leq 35 8, Mv 2 36]
 .ret)))
def if_cc9 : IFn := ⟨37, [.inl 2], ib_cc9, lcF []⟩
def ks_cc9 : List (List (Option Nat)) := [[none]]
def gl_cc9_1 (a0 : (List Feat)) : List Feat → Nat → Option (Bool ⊕ Unit)
 | [], k20 => some (.inr ())
 | x21 :: l22, k20 => (gf_bu9 x21).bind fun x29 => if (!x29) = true then (some (.inl (false))) else (if (decide ((k20 : Int) > 0)) = true then ((idx a0 (IntKind.i64.wrap ((k20 : Int) - 1))).bind fun x31 => if (slt x21.id x31.id || seq x21.id x31.id) = true then (some (.inl (false))) else (gl_cc9_1 a0 l22 (k20 + 1) )) else (gl_cc9_1 a0 l22 (k20 + 1) ))
def gf_cc9 (a0 : (List Feat)) : Option Bool := if fits a0.length = true then ((gl_cc9_1 a0 a0 0 ).bind fun q => match q with | .inl r => some r | .inr q18 => some ((decide ((a0.length : Int) ≤ 8)))) else none
def c_cc9 : Con := ⟨(List Feat), Bool, 26, fun a => [.ro (List.map (eFeat false) a)], fun a => gf_cc9 a, fun a r => ⟨[(false, [.v (.bool r)])], []⟩, fun a => []⟩
/-! spec.l7Find -/
def ib_dq9 : IC :=
 (Rs [Io 2 (.box 210 [some 115, some 130] (.t 0)), Io 3 (.box 115 [some 17, some 100, none] (.t 1)), Ki 4 0]
 (.seq (Rs [Ki 5 0]
 (blkC 0 (.loop (.seq (Rs [Mv 6 5, Fa 7 0 2, Ld 8 1 7, Ln 9 8, Bb 10 .lss 6 9]
 (Ct 10 .skip
 (.exit 0)))
 (.seq (.block 1 (.seq (.drw [Fa 13 0 2, Ld 14 1 13, Mv 15 5, Ia 16 3 14 15, La 17 3 16, La 18 3 3, Ca 19 24 [17, 18]] [(1, 5), (4, 5)])
 (Ct 19 (Rs [Mv 20 5, Mv 4 20]
 .ret)
 .skip)))
 (.reg [Mv 11 5, Bk 12 .add 11 1, Mv 5 12]))))))
 (Rs [Ki 4 (-1)]
 .ret)))
def if_dq9 : IFn := ⟨21, [.inl 4], ib_dq9, lcF []⟩
def ks_dq9 : List (List (Option Nat)) := [[none]]
def gl_dq9_1 (a1 : Commit) : List Commit → Nat → Option (Int ⊕ Unit)
 | [], k24 => some (.inr ())
 | x25 :: l26, k24 => (gf_dz9 x25 a1).bind fun x33 => if x33 = true then (some (.inl ((k24 : Int)))) else (gl_dq9_1 a1 l26 (k24 + 1) )
def gf_dq9 (a0 : Repo) (a1 : Commit) : Option Int := if fits a0.commits.length = true then ((gl_dq9_1 a1 a0.commits 0 ).bind fun q => match q with | .inl r => some r | .inr q20 => some ((-1))) else none
def c_dq9 : Con := ⟨Repo × Commit, Int, 27, fun a => [.agg [.ro (List.map (eCommit false) a.1.commits), .ro (List.map eHead a.1.heads)], .agg [.ro (List.map eInt a.2.up), .ro (List.map (eFeat false) a.2.sheet), .v (.string a.2.note)]], fun a => gf_dq9 a.1 a.2, fun a r => ⟨[(false, [.v (.int .i64 r)])], []⟩, fun a => []⟩
/-! spec.l7Head -/
def ib_ds9 : IC :=
 (Rs [Io 2 (.box 210 [some 115, some 130] (.t 0)), Ki 4 0]
 (.seq (Rs [Ki 5 0]
 (blkC 0 (.loop (.seq (Rs [Mv 6 5, Fa 7 1 2, Ld 8 1 7, Ln 9 8, Bb 10 .lss 6 9]
 (Ct 10 .skip
 (.exit 0)))
 (.seq (.block 1 (Rs [Fa 13 1 2, Ld 14 1 13, Mv 15 5, Ia 16 2 14 15, Fa 17 0 16, Ld 18 1 17, Mv 19 1, Bb 20 .eql 18 19]
 (Ct 20 (Rs [Mv 21 5, Mv 4 21]
 .ret)
 .skip)))
 (.reg [Mv 11 5, Bk 12 .add 11 1, Mv 5 12]))))))
 (Rs [Ki 4 (-1)]
 .ret)))
def if_ds9 : IFn := ⟨22, [.inl 4], ib_ds9, lcF []⟩
def ks_ds9 : List (List (Option Nat)) := [[none]]
def gl_ds9_1 (a1 : Str) : List Head → Nat → Option (Int ⊕ Unit)
 | [], k14 => some (.inr ())
 | x15 :: l16, k14 => if (seq x15.name a1) = true then (some (.inl ((k14 : Int)))) else (gl_ds9_1 a1 l16 (k14 + 1) )
def gf_ds9 (a0 : Repo) (a1 : Str) : Option Int := if fits a0.heads.length = true then ((gl_ds9_1 a1 a0.heads 0 ).bind fun q => match q with | .inl r => some r | .inr q11 => some ((-1))) else none
def c_ds9 : Con := ⟨Repo × Str, Int, 28, fun a => [.agg [.ro (List.map (eCommit false) a.1.commits), .ro (List.map eHead a.1.heads)], .v (.string a.2)], fun a => gf_ds9 a.1 a.2, fun a r => ⟨[(false, [.v (.int .i64 r)])], []⟩, fun a => []⟩
/-! spec.l1Copy -/
def ib_co9 : IC :=
 (Rs [Io 1 (.box 226 [none, some 66] (.t 0)), Io 2 (.alloc 226 [.v (.int .i64 0), .sl true 66 []])]
 (.seq (.drw [Fa 3 0 1, Ld 4 1 3, Io 5 (.lit 66 [none, none] [.v (.int .i64 0), .v (.int .i64 0)] 0 []), Fa 6 1 1, Ld 7 1 6, Io 8 (.app 66 false (.t 5) (.t 7)), Io 9 (.build [.v (.int .i64 0), .nil] [(0, 1, .t 4), (1, 1, .t 8)]), Sv [none, some 66] 2 9] [(1, 2), (1, 4), (2, 4), (1, 5)])
 .ret))
def if_co9 : IFn := ⟨10, [.inr (2, 2)], ib_co9, lcF []⟩
def ks_co9 : List (List (Option Nat)) := [[none, some 66]]
def gf_co9 (a0 : Shape) : Option Shape := if fits ([] ++ a0.pts).length = true then some ((⟨a0.kind, ([] ++ a0.pts)⟩ : Shape)) else none
def c_co9 : Con := ⟨Shape, Shape, 29, fun a => [.agg [.v (.int .i64 a.kind), .ro (List.map ePt a.pts)]], fun a => gf_co9 a, fun a r => ⟨[(true, eShape true r)], []⟩, fun a => []⟩
/-! spec.l2Copy -/
def ib_cw9 : IC :=
 (Rs [Io 1 (.box 100 [none, none, some 66, some 82] (.t 0)), Io 2 (.alloc 100 [.v (.string ⟨#[]⟩), .v (.int .i64 0), .sl true 66 [], .sl true 82 []])]
 (.seq (.drw [Fa 3 0 1, Ld 4 1 3, Fa 5 1 1, La 6 2 5, Ca 7 29 [6], Io 8 (.lit 82 [none, none] [.v (.string ⟨#[]⟩), .v (.string ⟨#[]⟩)] 0 []), Fa 9 3 1, Ld 10 1 9, Io 11 (.app 82 false (.t 8) (.t 10)), Io 12 (.build [.v (.string ⟨#[]⟩), .v (.int .i64 0), .nil, .nil] [(0, 1, .t 4), (1, 2, .t 7), (3, 1, .t 11)]), Sv [none, none, some 66, some 82] 2 12] [(1, 3), (1, 4), (1, 5), (3, 5), (4, 5), (1, 7), (3, 7), (4, 7), (5, 7), (1, 8)])
 .ret))
def if_cw9 : IFn := ⟨13, [.inr (2, 4)], ib_cw9, lcF []⟩
def ks_cw9 : List (List (Option Nat)) := [[none, none, some 66, some 82]]
def gf_cw9 (a0 : Feat) : Option Feat := (gf_co9 a0.shape).bind fun x3 => if fits ([] ++ a0.tags).length = true then some ((⟨a0.id, x3, ([] ++ a0.tags)⟩ : Feat)) else none
def c_cw9 : Con := ⟨Feat, Feat, 30, fun a => [.agg [.v (.string a.id), .v (.int .i64 a.shape.kind), .ro (List.map ePt a.shape.pts), .ro (List.map eTag a.tags)]], fun a => gf_cw9 a, fun a r => ⟨[(true, eFeat true r)], []⟩, fun a => []⟩
/-! spec.l3Copy -/
def ib_df9 : IC :=
 (Rs [Io 2 (.mv (.c (.slice none 0 0)))]
 (Rs [Io 5 (.lit 100 [none, none, some 66, some 82] [.v (.string ⟨#[]⟩), .v (.int .i64 0), .sl true 66 [], .sl true 82 []] 0 []), Mv 3 5]
 (.seq (Rs [Ki 4 0]
 (blkC 0 (.loop (.seq (Rs [Mv 6 4, Mv 7 0, Ln 8 7, Bb 9 .lss 6 8]
 (Ct 9 .skip
 (.exit 0)))
 (.seq (.block 1 (.reg [Mv 12 3, Mv 13 0, Mv 14 4, Ia 15 4 13 14, La 16 4 15, Ca 17 30 [16], Io 18 (.lit 100 [none, none, some 66, some 82] [.v (.string ⟨#[]⟩), .v (.int .i64 0), .sl true 66 [], .sl true 82 []] 1 [(0, .t 17)]), Io 19 (.app 100 true (.t 12) (.t 18)), Mv 3 19]))
 (.reg [Mv 10 4, Bk 11 .add 10 1, Mv 4 11]))))))
 (Rs [Mv 20 3, Mv 2 20]
 .ret))))
def if_df9 : IFn := ⟨21, [.inl 2], ib_df9, lcF []⟩
def ks_df9 : List (List (Option Nat)) := [[some 100]]
def gl_df9_1 : List Feat → Nat → (List Feat) → Option (List Feat)
 | [], k49, v46 => some v46
 | x50 :: l51, k49, v46 => (gf_cw9 x50).bind fun x58 => if fits (v46 ++ ([x58] : (List Feat))).length = true then gl_df9_1 l51 (k49 + 1) (v46 ++ ([x58] : (List Feat))) else none
def gf_df9 (a0 : (List Feat)) : Option (List Feat) := if fits a0.length = true then ((gl_df9_1 a0 0 []).bind fun q44 => some (q44)) else none
def c_df9 : Con := ⟨(List Feat), (List Feat), 31, fun a => [.ro (List.map (eFeat false) a)], fun a => gf_df9 a, fun a r => ⟨[(false, [sl true 100 (List.map (eFeat true) r)])], []⟩, fun a => []⟩
/-! spec.l7One -/
def ib_dx9 : IC :=
 (Rs [Io 1 (.box 115 [some 17, some 100, none] (.t 0)), Io 2 (.alloc 115 [.sl true 17 [], .sl true 100 [], .v (.string ⟨#[]⟩)])]
 (.seq (.drw [Io 3 (.lit 17 [none] [.v (.int .i64 0)] 0 []), Fa 4 0 1, Ld 5 1 4, Io 6 (.app 17 false (.t 3) (.t 5)), Fa 7 1 1, Ld 8 1 7, Ca 9 31 [8], Fa 10 2 1, Ld 11 1 10, Io 12 (.build [.nil, .nil, .v (.string ⟨#[]⟩)] [(0, 1, .t 6), (1, 1, .t 9), (2, 1, .t 11)]), Sv [some 17, some 100, none] 2 12] [(0, 2), (0, 5), (2, 5), (3, 5), (0, 8), (2, 8), (3, 8), (5, 8), (6, 8)])
 .ret))
def if_dx9 : IFn := ⟨13, [.inr (2, 3)], ib_dx9, lcF []⟩
def ks_dx9 : List (List (Option Nat)) := [[some 17, some 100, none]]
def gf_dx9 (a0 : Commit) : Option Commit := if fits ([] ++ a0.up).length = true then (gf_df9 a0.sheet).bind fun x7 => some ((⟨([] ++ a0.up), x7, a0.note⟩ : Commit)) else none
def c_dx9 : Con := ⟨Commit, Commit, 32, fun a => [.agg [.ro (List.map eInt a.up), .ro (List.map (eFeat false) a.sheet), .v (.string a.note)]], fun a => gf_dx9 a, fun a r => ⟨[(true, eCommit true r)], []⟩, fun a => []⟩
/-! spec.RepoOk -/
def ib_bz9 : IC :=
 (Rs [Io 1 (.box 210 [some 115, some 130] (.t 0)), Kb 2 false]
 (.seq (Rs [Fa 7 0 1, Ld 8 1 7, Ln 9 8, Bk 10 .lss 9 1, Mv 11 10, Gf 11 (Fa 12 0 1), Gf 11 (Ld 13 1 12), Gf 11 (Ln 14 13), Gf 11 (Bk 15 .gtr 14 14), Pk 16 11 15, Mv 17 16, Gf 17 (Fa 18 1 1), Gf 17 (Ld 19 1 18), Gf 17 (Ln 20 19), Gf 17 (Bk 21 .lss 20 1), Pk 22 17 21, Mv 23 22, Gf 23 (Fa 24 1 1), Gf 23 (Ld 25 1 24), Gf 23 (Ln 26 25), Gf 23 (Bk 27 .gtr 26 4), Pk 28 23 27]
 (Ct 28 (Rs [Kb 2 false]
 .ret)
 .skip))
 (.seq (Rs [Ki 3 0]
 (blkC 0 (.loop (.seq (Rs [Mv 29 3, Fa 30 0 1, Ld 31 1 30, Ln 32 31, Bb 33 .lss 29 32]
 (Ct 33 .skip
 (.exit 0)))
 (.seq (.block 1 (Rs [Fa 36 0 1, Ld 37 1 36, Mv 38 3, Ia 39 3 37 38, La 40 3 39, Io 4 (.alloc 115 [.sl true 17 [], .sl true 100 [], .v (.string ⟨#[]⟩)]), Sv [some 17, some 100, none] 4 40]
 (Rs [Fa 41 0 4, Ld 42 1 41, Mv 43 3, Ca 44 25 [42, 43], Nt 45 44, Mv 46 45, Gf 46 (Fa 47 1 4), Gf 46 (Ld 48 1 47), Gf 46 (Ca 49 26 [48]), Gf 46 (Nt 50 49), Pk 51 46 50, Mv 52 51, Gf 52 (Fa 53 2 4), Gf 52 (Ld 54 1 53), Gf 52 (Ca 55 14 [54]), Gf 52 (Nt 56 55), Pk 57 52 56, Mv 58 57, Gf 58 (La 59 2 1), Gf 58 (La 60 3 4), Gf 58 (Ca 61 27 [59, 60]), Gf 58 (Mv 62 3), Gf 58 (Bb 63 .neq 61 62), Pk 64 58 63]
 (Ct 64 (Rs [Kb 2 false]
 .ret)
 .skip))))
 (.reg [Mv 34 3, Bk 35 .add 34 1, Mv 3 35]))))))
 (.seq (Rs [Ki 5 0]
 (blkC 2 (.loop (.seq (Rs [Mv 65 5, Fa 66 1 1, Ld 67 1 66, Ln 68 67, Bb 69 .lss 65 68]
 (Ct 69 .skip
 (.exit 2)))
 (.seq (.block 3 (Rs [Fa 72 1 1, Ld 73 1 72, Mv 74 5, Ia 75 2 73 74, La 76 2 75, Io 6 (.alloc 130 [.v (.string ⟨#[]⟩), .v (.int .i64 0)]), Sv [none, none] 6 76]
 (Rs [Fa 77 0 6, Ld 78 1 77, Ca 79 14 [78], Nt 80 79, Mv 81 80, Gf 81 (La 82 2 1), Gf 81 (Fa 83 0 6), Gf 81 (Ld 84 1 83), Gf 81 (Ca 85 28 [82, 84]), Gf 81 (Mv 86 5), Gf 81 (Bb 87 .neq 85 86), Pk 88 81 87, Mv 89 88, Gf 89 (Fa 90 1 6), Gf 89 (Ld 91 1 90), Gf 89 (Bk 92 .lss 91 0), Pk 93 89 92, Mv 94 93, Gf 94 (Fa 95 1 6), Gf 94 (Ld 96 1 95), Gf 94 (Fa 97 0 1), Gf 94 (Ld 98 1 97), Gf 94 (Ln 99 98), Gf 94 (Bb 100 .geq 96 99), Pk 101 94 100]
 (Ct 101 (Rs [Kb 2 false]
 .ret)
 .skip))))
 (.reg [Mv 70 5, Bk 71 .add 70 1, Mv 5 71]))))))
 (Rs [Kb 2 true]
 .ret)))))
def if_bz9 : IFn := ⟨102, [.inl 2], ib_bz9, lcF []⟩
def ks_bz9 : List (List (Option Nat)) := [[none]]
def gl_bz9_1 (a0 : Repo) : List Commit → Nat → Option (Bool ⊕ Unit)
 | [], k41 => some (.inr ())
 | x42 :: l43, k41 => (gf_ea9 x42.up (k41 : Int)).bind fun x51 => if (!x51) = true then (some (.inl (false))) else ((gf_cc9 x42.sheet).bind fun x53 => if (!x53) = true then (some (.inl (false))) else ((gf_cf9 x42.note).bind fun x55 => if (!x55) = true then (some (.inl (false))) else ((gf_dq9 a0 x42).bind fun x57 => if (x57 != (k41 : Int)) = true then (some (.inl (false))) else (gl_bz9_1 a0 l43 (k41 + 1) ))))
def gl_bz9_2 (a0 : Repo) : List Head → Nat → Option (Bool ⊕ Unit)
 | [], k87 => some (.inr ())
 | x88 :: l89, k87 => (gf_cf9 x88.name).bind fun x97 => if (!x97) = true then (some (.inl (false))) else ((gf_ds9 a0 x88.name).bind fun x99 => if (x99 != (k87 : Int)) = true then (some (.inl (false))) else (if (decide (x88.at_ < 0)) = true then (some (.inl (false))) else (if (decide (x88.at_ ≥ (a0.commits.length : Int))) = true then (some (.inl (false))) else (gl_bz9_2 a0 l89 (k87 + 1) ))))
def gf_bz9 (a0 : Repo) : Option Bool := if (decide ((a0.commits.length : Int) < 1)) = true then (some (false)) else (if (decide ((a0.commits.length : Int) > 14)) = true then (some (false)) else (if (decide ((a0.heads.length : Int) < 1)) = true then (some (false)) else (if (decide ((a0.heads.length : Int) > 4)) = true then (some (false)) else (if fits a0.commits.length = true then ((gl_bz9_1 a0 a0.commits 0 ).bind fun q => match q with | .inl r => some r | .inr q38 => if fits a0.heads.length = true then ((gl_bz9_2 a0 a0.heads 0 ).bind fun q => match q with | .inl r => some r | .inr q84 => some (true)) else none) else none))))
def c_bz9 : Con := ⟨Repo, Bool, 33, fun a => [.agg [.ro (List.map (eCommit false) a.commits), .ro (List.map eHead a.heads)]], fun a => gf_bz9 a, fun a r => ⟨[(false, [.v (.bool r)])], []⟩, fun a => []⟩
/-! spec.l7Marks -/
def ib_du9 : IC :=
 (Rs [Io 2 (.box 210 [some 115, some 130] (.t 0)), Io 4 (.mv (.c (.slice none 0 0)))]
 (Rs [Fa 9 0 2, Ld 10 1 9, Ln 11 10, Io 12 (.mks 33 [.v (.bool false)] (.t 11) (.t 11)), Mv 5 12]
 (.seq (Rs [Ki 6 0]
 (blkC 0 (.loop (.seq (Rs [Mv 13 6, Mv 14 1, Ln 15 14, Bb 16 .lss 13 15]
 (Ct 16 .skip
 (.exit 0)))
 (.seq (.block 1 (.reg [Mv 19 5, Mv 20 1, Mv 21 6, Ia 22 1 20 21, Ld 23 1 22, Ia 24 1 19 23, Iz (.store [none] (.t 24) (.c (.bool true)))]))
 (.reg [Mv 17 6, Bk 18 .add 17 1, Mv 6 18]))))))
 (.seq (Rs [Fa 25 0 2, Ld 26 1 25, Ln 27 26, Bk 28 .sub 27 1, Mv 7 28]
 (blkC 2 (.loop (.seq (Rs [Mv 29 7, Bk 30 .geq 29 0]
 (Ct 30 .skip
 (.exit 2)))
 (.seq (.block 3 (Rs [Ki 8 0]
 (blkC 4 (.loop (.seq (Rs [Mv 33 8, Fa 34 0 2, Ld 35 1 34, Mv 36 7, Ia 37 3 35 36, Fa 38 0 37, Ld 39 1 38, Ln 40 39, Bb 41 .lss 33 40, Mv 42 41, Gt 42 (Mv 43 5), Gt 42 (Mv 44 7), Gt 42 (Ia 45 1 43 44), Gt 42 (Ld 46 1 45), Io 47 (.pick (.t 42) (.t 46) (.c (.bool false)))]
 (Ct 47 .skip
 (.exit 4)))
 (.seq (.block 5 (.reg [Mv 50 5, Fa 51 0 2, Ld 52 1 51, Mv 53 7, Ia 54 3 52 53, Fa 55 0 54, Ld 56 1 55, Mv 57 8, Ia 58 1 56 57, Ld 59 1 58, Ia 60 1 50 59, Iz (.store [none] (.t 60) (.c (.bool true)))]))
 (.reg [Mv 48 8, Bk 49 .add 48 1, Mv 8 49])))))))
 (.reg [Mv 31 7, Bk 32 .sub 31 1, Mv 7 32]))))))
 (Rs [Mv 61 5, Mv 4 61]
 .ret)))))
def if_du9 : IFn := ⟨62, [.inl 4], ib_du9, lcF []⟩
def ks_du9 : List (List (Option Nat)) := [[some 33]]
def gl_du9_1 : List Int → Nat → (List Bool) → Option (List Bool)
 | [], k31, v28 => some v28
 | x32 :: l33, k31, v28 => (idx v28 x32).bind fun x40 => gl_du9_1 l33 (k31 + 1) (List.set v28 x32.toNat true)
def gl_du9_6 (a0 : Repo) (v208 : Int) : Nat → Int → (List Bool) → Option (List Bool)
 | 0, _, _ => none
 | n252 + 1, v247, v249 => (idx a0.commits v208).bind fun x253 => if (decide (v247 < (x253.up.length : Int))) = true then ((idx v249 v208).bind fun x255 => if x255 = true then ((idx x253.up v247).bind fun x257 => (idx v249 x257).bind fun x259 => gl_du9_6 a0 v208 n252 (IntKind.i64.wrap (v247 + 1)) (List.set v249 x257.toNat true)) else (some v249)) else (some v249)
def gl_du9_5 (a0 : Repo) : Nat → Int → (List Bool) → Option (List Bool)
 | 0, _, _ => none
 | n213 + 1, v208, v210 => if (decide (v208 ≥ 0)) = true then ((gl_du9_6 a0 v208 rounds 0 v210).bind fun q246 => gl_du9_5 a0 n213 (IntKind.i64.wrap (v208 - 1)) q246) else (some v210)
def gf_du9 (a0 : Repo) (a1 : (List Int)) : Option (List Bool) := if (decide (0 ≤ (a0.commits.length : Int)) && fits ((a0.commits.length : Int)).toNat) = true then if fits a1.length = true then ((gl_du9_1 a1 0 (List.replicate ((a0.commits.length : Int)).toNat false)).bind fun q25 => (gl_du9_5 a0 rounds (IntKind.i64.wrap ((a0.commits.length : Int) - 1)) q25).bind fun q207 => some (q207)) else none else none
def c_du9 : Con := ⟨Repo × (List Int), (List Bool), 35, fun a => [.agg [.ro (List.map (eCommit false) a.1.commits), .ro (List.map eHead a.1.heads)], .ro (List.map eInt a.2)], fun a => gf_du9 a.1 a.2, fun a r => ⟨[(false, [sl true 33 (List.map eBool r)])], []⟩, fun a => []⟩
/-! spec.l3Put -/
def ib_di9 : IC :=
 (Rs [Io 3 (.box 100 [none, none, some 66, some 82] (.t 1)), Io 4 (.mv (.c (.slice none 0 0)))]
 (Rs [Io 8 (.lit 100 [none, none, some 66, some 82] [.v (.string ⟨#[]⟩), .v (.int .i64 0), .sl true 66 [], .sl true 82 []] 0 []), Mv 5 8]
 (Rs [Kb 6 false]
 (.seq (Rs [Ki 7 0]
 (blkC 0 (.loop (.seq (Rs [Mv 9 7, Mv 10 0, Ln 11 10, Bb 12 .lss 9 11]
 (Ct 12 .skip
 (.exit 0)))
 (.seq (.block 1 (seqC (.seq (.drw [Mv 15 6, Nt 16 15, Mv 17 16, Gt 17 (Mv 18 0), Gt 17 (Mv 19 7), Gt 17 (Ia 20 4 18 19), Gt 17 (Fa 21 0 20), Gt 17 (Ld 22 1 21), Gt 17 (Fa 23 0 3), Gt 17 (Ld 24 1 23), Gt 17 (Bb 25 .geq 22 24), Io 26 (.pick (.t 17) (.t 25) (.c (.bool false)))] [(7, 9)])
 (Ct 26 (Rs [Mv 27 5, La 28 4 3, Io 29 (.lit 100 [none, none, some 66, some 82] [.v (.string ⟨#[]⟩), .v (.int .i64 0), .sl true 66 [], .sl true 82 []] 1 [(0, .t 28)]), Io 30 (.app 100 true (.t 27) (.t 29)), Mv 5 30]
 (.reg [Kb 6 true]))
 .skip))
 (.seq (.drw [Mv 31 0, Mv 32 7, Ia 33 4 31 32, Fa 34 0 33, Ld 35 1 34, Fa 36 0 3, Ld 37 1 36, Bb 38 .neq 35 37] [(4, 6)])
 (Ct 38 (.reg [Mv 39 5, Mv 40 0, Mv 41 7, Ia 42 4 40 41, La 43 4 42, Io 44 (.lit 100 [none, none, some 66, some 82] [.v (.string ⟨#[]⟩), .v (.int .i64 0), .sl true 66 [], .sl true 82 []] 1 [(0, .t 43)]), Io 45 (.app 100 true (.t 39) (.t 44)), Mv 5 45])
 .skip))))
 (.reg [Mv 13 7, Bk 14 .add 13 1, Mv 7 14]))))))
 (.seq (Rs [Mv 46 6, Nt 47 46]
 (Ct 47 (.reg [Mv 48 5, La 49 4 3, Io 50 (.lit 100 [none, none, some 66, some 82] [.v (.string ⟨#[]⟩), .v (.int .i64 0), .sl true 66 [], .sl true 82 []] 1 [(0, .t 49)]), Io 51 (.app 100 true (.t 48) (.t 50)), Mv 5 51])
 .skip))
 (Rs [Mv 52 5, Mv 4 52]
 .ret))))))
def if_di9 : IFn := ⟨53, [.inl 4], ib_di9, lcF []⟩
def ks_di9 : List (List (Option Nat)) := [[some 100]]
def gl_di9_1 (a1 : Feat) : List Feat → Nat → Bool → (List Feat) → Option (Bool × (List Feat))
 | [], k95, v89, v92 => some (v89, v92)
 | x96 :: l97, k95, v89, v92 => ((if (!v89) = true then (if (!slt x96.id a1.id) = true then (if fits (v92 ++ ([a1] : (List Feat))).length = true then some (true, (v92 ++ ([a1] : (List Feat)))) else none) else (some (v89, v92))) else (some (v89, v92)) : Option (Bool × (List Feat)))).bind fun q108 => if (!seq x96.id a1.id) = true then (if fits (q108.2 ++ ([x96] : (List Feat))).length = true then gl_di9_1 a1 l97 (k95 + 1) q108.1 (q108.2 ++ ([x96] : (List Feat))) else none) else (gl_di9_1 a1 l97 (k95 + 1) q108.1 q108.2)
def gf_di9 (a0 : (List Feat)) (a1 : Feat) : Option (List Feat) := if fits a0.length = true then ((gl_di9_1 a1 a0 0 false []).bind fun q88 => if (!q88.1) = true then (if fits (q88.2 ++ ([a1] : (List Feat))).length = true then some ((q88.2 ++ ([a1] : (List Feat)))) else none) else (some (q88.2))) else none
def c_di9 : Con := ⟨(List Feat) × Feat, (List Feat), 37, fun a => [.ro (List.map (eFeat false) a.1), .agg [.v (.string a.2.id), .v (.int .i64 a.2.shape.kind), .ro (List.map ePt a.2.shape.pts), .ro (List.map eTag a.2.tags)]], fun a => gf_di9 a.1 a.2, fun a r => ⟨[(false, [sl true 100 (List.map (eFeat false) r)])], []⟩, fun a => []⟩
/-! spec.l3Find -/
def ib_dh9 : IC :=
 (Rs [Ki 4 0]
 (.seq (Rs [Ki 5 0]
 (blkC 0 (.loop (.seq (Rs [Mv 6 5, Mv 7 0, Ln 8 7, Bb 9 .lss 6 8]
 (Ct 9 .skip
 (.exit 0)))
 (.seq (.block 1 (Rs [Mv 12 0, Mv 13 5, Ia 14 4 12 13, Fa 15 0 14, Ld 16 1 15, Mv 17 1, Bb 18 .eql 16 17]
 (Ct 18 (Rs [Mv 19 5, Mv 4 19]
 .ret)
 .skip)))
 (.reg [Mv 10 5, Bk 11 .add 10 1, Mv 5 11]))))))
 (Rs [Ki 4 (-1)]
 .ret)))
def if_dh9 : IFn := ⟨20, [.inl 4], ib_dh9, lcF []⟩
def ks_dh9 : List (List (Option Nat)) := [[none]]
def gl_dh9_1 (a1 : Str) : List Feat → Nat → Option (Int ⊕ Unit)
 | [], k10 => some (.inr ())
 | x11 :: l12, k10 => if (seq x11.id a1) = true then (some (.inl ((k10 : Int)))) else (gl_dh9_1 a1 l12 (k10 + 1) )
def gf_dh9 (a0 : (List Feat)) (a1 : Str) : Option Int := if fits a0.length = true then ((gl_dh9_1 a1 a0 0 ).bind fun q => match q with | .inl r => some r | .inr q8 => some ((-1))) else none
def c_dh9 : Con := ⟨(List Feat) × Str, Int, 39, fun a => [.ro (List.map (eFeat false) a.1), .v (.string a.2)], fun a => gf_dh9 a.1 a.2, fun a r => ⟨[(false, [.v (.int .i64 r)])], []⟩, fun a => []⟩
/-! spec.l2Put -/
def ib_da9 : IC :=
 (Rs [Io 6 (.mv (.c (.slice none 0 0)))]
 (Rs [Io 10 (.lit 82 [none, none] [.v (.string ⟨#[]⟩), .v (.string ⟨#[]⟩)] 0 []), Mv 7 10]
 (Rs [Kb 8 false]
 (.seq (Rs [Ki 9 0]
 (blkC 0 (.loop (.seq (Rs [Mv 11 9, Mv 12 0, Ln 13 12, Bb 14 .lss 11 13]
 (Ct 14 .skip
 (.exit 0)))
 (.seq (.block 1 (seqC (Rs [Mv 17 8, Nt 18 17, Mv 19 18, Gt 19 (Mv 20 0), Gt 19 (Mv 21 9), Gt 19 (Ia 22 2 20 21), Gt 19 (Fa 23 0 22), Gt 19 (Ld 24 1 23), Gt 19 (Mv 25 1), Gt 19 (Bb 26 .geq 24 25), Io 27 (.pick (.t 19) (.t 26) (.c (.bool false)))]
 (Ct 27 (Rs [Mv 28 7, Mv 29 1, Mv 30 2, Io 31 (.build [.v (.string ⟨#[]⟩), .v (.string ⟨#[]⟩)] [(0, 1, .t 29), (1, 1, .t 30)]), Io 32 (.lit 82 [none, none] [.v (.string ⟨#[]⟩), .v (.string ⟨#[]⟩)] 1 [(0, .t 31)]), Io 33 (.app 82 true (.t 28) (.t 32)), Mv 7 33]
 (.reg [Kb 8 true]))
 .skip))
 (Rs [Mv 34 0, Mv 35 9, Ia 36 2 34 35, Fa 37 0 36, Ld 38 1 37, Mv 39 1, Bb 40 .neq 38 39]
 (Ct 40 (.reg [Mv 41 7, Mv 42 0, Mv 43 9, Ia 44 2 42 43, La 45 2 44, Io 46 (.lit 82 [none, none] [.v (.string ⟨#[]⟩), .v (.string ⟨#[]⟩)] 1 [(0, .t 45)]), Io 47 (.app 82 true (.t 41) (.t 46)), Mv 7 47])
 .skip))))
 (.reg [Mv 15 9, Bk 16 .add 15 1, Mv 9 16]))))))
 (.seq (Rs [Mv 48 8, Nt 49 48]
 (Ct 49 (.reg [Mv 50 7, Mv 51 1, Mv 52 2, Io 53 (.build [.v (.string ⟨#[]⟩), .v (.string ⟨#[]⟩)] [(0, 1, .t 51), (1, 1, .t 52)]), Io 54 (.lit 82 [none, none] [.v (.string ⟨#[]⟩), .v (.string ⟨#[]⟩)] 1 [(0, .t 53)]), Io 55 (.app 82 true (.t 50) (.t 54)), Mv 7 55])
 .skip))
 (Rs [Mv 56 7, Mv 6 56]
 .ret))))))
def if_da9 : IFn := ⟨57, [.inl 6], ib_da9, lcF []⟩
def ks_da9 : List (List (Option Nat)) := [[some 82]]
def gl_da9_1 (a1 : Str) (a2 : Str) : List Tag → Nat → Bool → (List Tag) → Option (Bool × (List Tag))
 | [], k86, v81, v83 => some (v81, v83)
 | x87 :: l88, k86, v81, v83 => ((if (!v81) = true then (if (!slt x87.key a1) = true then (if fits (v83 ++ ([(⟨a1, a2⟩ : Tag)] : (List Tag))).length = true then some (true, (v83 ++ ([(⟨a1, a2⟩ : Tag)] : (List Tag)))) else none) else (some (v81, v83))) else (some (v81, v83)) : Option (Bool × (List Tag)))).bind fun q99 => if (!seq x87.key a1) = true then (if fits (q99.2 ++ ([x87] : (List Tag))).length = true then gl_da9_1 a1 a2 l88 (k86 + 1) q99.1 (q99.2 ++ ([x87] : (List Tag))) else none) else (gl_da9_1 a1 a2 l88 (k86 + 1) q99.1 q99.2)
def gf_da9 (a0 : (List Tag)) (a1 : Str) (a2 : Str) : Option (List Tag) := if fits a0.length = true then ((gl_da9_1 a1 a2 a0 0 false []).bind fun q80 => if (!q80.1) = true then (if fits (q80.2 ++ ([(⟨a1, a2⟩ : Tag)] : (List Tag))).length = true then some ((q80.2 ++ ([(⟨a1, a2⟩ : Tag)] : (List Tag)))) else none) else (some (q80.2))) else none
def c_da9 : Con := ⟨(List Tag) × Str × Str, (List Tag), 47, fun a => [.ro (List.map eTag a.1), .v (.string a.2.1), .v (.string a.2.2)], fun a => gf_da9 a.1 a.2.1 a.2.2, fun a r => ⟨[(false, [sl true 82 (List.map eTag r)])], []⟩, fun a => []⟩
/-! spec.l7Add -/
def ib_dn9 : IC :=
 (Rs [Io 3 (.box 210 [some 115, some 130] (.t 0)), Io 5 (.box 115 [some 17, some 100, none] (.t 2)), Io 6 (.alloc 210 [.sl true 115 [], .sl true 130 []])]
 (Rs [La 8 2 3, La 9 3 5, Ca 10 27 [8, 9], Mv 7 10]
 (.seq (Rs [Mv 11 7, Bk 12 .lss 11 0]
 (Ct 12 (Rs [Fa 13 0 3, Ld 14 1 13, Ln 15 14, Mv 7 15]
 (.drw [Fa 16 0 3, Ld 17 1 16, La 18 3 5, Ca 19 32 [18], Io 20 (.lit 115 [some 17, some 100, none] [.sl true 17 [], .sl true 100 [], .v (.string ⟨#[]⟩)] 1 [(0, .t 19)]), Io 21 (.app 115 true (.t 17) (.t 20)), Fa 22 0 3, Sv [some 115] 22 21] [(1, 2), (1, 3), (1, 4)]))
 .skip))
 (Rs [Fa 23 1 3, Ld 24 1 23, Mv 25 1, Mv 26 7, Ia 27 2 24 25, Fa 28 1 27, Sv [none] 28 26]
 (Rs [La 29 2 3, Sv [some 115, some 130] 6 29]
 .ret)))))
def if_dn9 : IFn := ⟨30, [.inr (6, 2)], ib_dn9, lcF []⟩
def ks_dn9 : List (List (Option Nat)) := [[some 115, some 130]]
def gf_dn9 (a0 : Repo) (a1 : Int) (a2 : Commit) : Option Repo := (gf_dq9 a0 a2).bind fun x4 => if (decide (x4 < 0)) = true then ((gf_dx9 a2).bind fun x6 => if fits (a0.commits ++ ([x6] : (List Commit))).length = true then (idx a0.heads a1).bind fun x16 => some ((⟨(a0.commits ++ ([x6] : (List Commit))), (List.set a0.heads a1.toNat (⟨x16.name, (a0.commits.length : Int)⟩ : Head))⟩ : Repo)) else none) else ((idx a0.heads a1).bind fun x18 => some ((⟨a0.commits, (List.set a0.heads a1.toNat (⟨x18.name, x4⟩ : Head))⟩ : Repo)))
def c_dn9 : Con := ⟨Repo × Int × Commit, Repo, 60, fun a => [.agg [.io 0 a.1.commits.length 115, .io 1 a.1.heads.length 130], .v (.int .i64 a.2.1), .agg [.ro (List.map eInt a.2.2.up), .ro (List.map (eFeat false) a.2.2.sheet), .v (.string a.2.2.note)]], fun a => gf_dn9 a.1 a.2.1 a.2.2, fun a r => ⟨[(true, eRepo true r)], [none, none]⟩, fun a => [(false, 115, List.map (eCommit true) a.1.commits), (false, 130, List.map eHead a.1.heads)]⟩
/-! spec.l7Copy -/
def ib_dp9 : IC :=
 (Rs [Io 1 (.box 210 [some 115, some 130] (.t 0)), Io 2 (.alloc 210 [.sl true 115 [], .sl true 130 []])]
 (Rs [Io 5 (.lit 130 [none, none] [.v (.string ⟨#[]⟩), .v (.int .i64 0)] 0 []), Fa 6 1 1, Ld 7 1 6, Io 8 (.app 130 false (.t 5) (.t 7)), Io 9 (.build [.nil, .nil] [(1, 1, .t 8)]), Io 3 (.alloc 210 [.sl true 115 [], .sl true 130 []]), Sv [some 115, some 130] 3 9]
 (.seq (Rs [Ki 4 0]
 (blkC 0 (.loop (.seq (Rs [Mv 10 4, Fa 11 0 1, Ld 12 1 11, Ln 13 12, Bb 14 .lss 10 13]
 (Ct 14 .skip
 (.exit 0)))
 (.seq (.block 1 (.drw [Fa 17 0 3, Ld 18 1 17, Fa 19 0 1, Ld 20 1 19, Mv 21 4, Ia 22 3 20 21, La 23 3 22, Ca 24 32 [23], Io 25 (.lit 115 [some 17, some 100, none] [.sl true 17 [], .sl true 100 [], .v (.string ⟨#[]⟩)] 1 [(0, .t 24)]), Io 26 (.app 115 true (.t 18) (.t 25)), Fa 27 0 3, Sv [some 115] 27 26] [(1, 3), (1, 6), (1, 7), (1, 8)]))
 (.reg [Mv 15 4, Bk 16 .add 15 1, Mv 4 16]))))))
 (Rs [La 28 2 3, Sv [some 115, some 130] 2 28]
 .ret))))
def if_dp9 : IFn := ⟨29, [.inr (2, 2)], ib_dp9, lcF []⟩
def ks_dp9 : List (List (Option Nat)) := [[some 115, some 130]]
def gl_dp9_1 : List Commit → Nat → (List Commit) → Option (List Commit)
 | [], k82, v76 => some v76
 | x83 :: l84, k82, v76 => (gf_dx9 x83).bind fun x91 => if fits (v76 ++ ([x91] : (List Commit))).length = true then gl_dp9_1 l84 (k82 + 1) (v76 ++ ([x91] : (List Commit))) else none
def gf_dp9 (a0 : Repo) : Option Repo := if fits ([] ++ a0.heads).length = true then if fits a0.commits.length = true then ((gl_dp9_1 a0.commits 0 []).bind fun q68 => some ((⟨q68, ([] ++ a0.heads)⟩ : Repo))) else none else none
def c_dp9 : Con := ⟨Repo, Repo, 61, fun a => [.agg [.ro (List.map (eCommit false) a.commits), .ro (List.map eHead a.heads)]], fun a => gf_dp9 a, fun a r => ⟨[(true, eRepo true r)], []⟩, fun a => []⟩
/-! impl.within -/
def ib_be9 : IC :=
 (Rs [Kb 6 false]
 (Rs [Mv 7 0, Mv 8 1, Bb 9 .geq 7 8, Mv 10 9, Gt 10 (Mv 11 0), Gt 10 (Mv 12 2), Gt 10 (Bb 13 .leq 11 12), Io 14 (.pick (.t 10) (.t 13) (.c (.bool false))), Mv 6 14]
 .ret))
def if_be9 : IFn := ⟨15, [.inl 6], ib_be9, lcF []⟩
def ks_be9 : List (List (Option Nat)) := [[none]]
def gf_be9 (a0 : Int) (a1 : Int) (a2 : Int) : Option Bool := if (decide (a0 ≥ a1)) = true then (some ((decide (a0 ≤ a2)))) else (some (false))
def c_be9 : Con := ⟨Int × Int × Int, Bool, 76, fun a => [.v (.int .i64 a.1), .v (.int .i64 a.2.1), .v (.int .i64 a.2.2)], fun a => gf_be9 a.1 a.2.1 a.2.2, fun a r => ⟨[(false, [.v (.bool r)])], []⟩, fun a => []⟩
/-! impl.ptOk -/
def ib_bc9 : IC :=
 (Rs [Io 1 (.box 66 [none, none] (.t 0)), Kb 2 false]
 (Rs [Fa 3 0 1, Ld 4 1 3, Io 5 (.call 76 [(false, .t 4), (false, .c (.int .i64 (-1000))), (false, .c (.int .i64 1000))]), Mv 6 5, Gt 6 (Fa 7 1 1), Gt 6 (Ld 8 1 7), Gt 6 (Io 9 (.call 76 [(false, .t 8), (false, .c (.int .i64 (-1000))), (false, .c (.int .i64 1000))])), Io 10 (.pick (.t 6) (.t 9) (.c (.bool false))), Mv 2 10]
 .ret))
def if_bc9 : IFn := ⟨11, [.inl 2], ib_bc9, lcF []⟩
def ks_bc9 : List (List (Option Nat)) := [[none]]
def gf_bc9 (a0 : Pt) : Option Bool := (gf_be9 a0.x (-1000) 1000).bind fun x2 => if x2 = true then ((gf_be9 a0.y (-1000) 1000).bind fun x4 => some (x4)) else (some (false))
def c_bc9 : Con := ⟨Pt, Bool, 79, fun a => [.agg [.v (.int .i64 a.x), .v (.int .i64 a.y)]], fun a => gf_bc9 a, fun a r => ⟨[(false, [.v (.bool r)])], []⟩, fun a => []⟩
/-! impl.WordOk -/
def ib_au9 : IC :=
 (Rs [Kb 2 false]
 (.seq (Rs [Mv 4 0, Io 5 (.len true (.t 4)), Ki 6 0]
 (blkC 0 (.loop (Rs [Bb 7 .lss 6 5]
 (.seq (Ct 7 .skip
 (.exit 0))
 (.seq (.block 1 (Rs [Mv 8 6, Mv 3 8]
 (Rs [Mv 9 0, Mv 10 3, Io 11 (.sidx (.t 9) (.t 10)), Io 12 (.bin .lss (.t 11) (.c (.int .u8 97))), Mv 13 12, Gf 13 (Mv 14 0), Gf 13 (Mv 15 3), Gf 13 (Io 16 (.sidx (.t 14) (.t 15))), Gf 13 (Io 17 (.bin .gtr (.t 16) (.c (.int .u8 122)))), Pk 18 13 17]
 (Ct 18 (Rs [Kb 2 false]
 .ret)
 .skip))))
 (.reg [Bk 19 .add 6 1, Mv 6 19])))))))
 (Rs [Mv 20 0, Io 21 (.len true (.t 20)), Io 22 (.call 76 [(false, .t 21), (false, .c (.int .i64 1)), (false, .c (.int .i64 6))]), Mv 2 22]
 .ret)))
def if_au9 : IFn := ⟨23, [.inl 2], ib_au9, lcF []⟩
def ks_au9 : List (List (Option Nat)) := [[none]]
def gl_au9_1 : List UInt8 → Nat → Option (Bool ⊕ Unit)
 | [], k10 => some (.inr ())
 | x11 :: l12, k10 => if (decide ((x11.toNat : Int) < 97)) = true then (some (.inl (false))) else (if (decide ((x11.toNat : Int) > 122)) = true then (some (.inl (false))) else (gl_au9_1 l12 (k10 + 1) ))
def gf_au9 (a0 : Str) : Option Bool := if fits a0.size = true then ((gl_au9_1 a0.data.toList 0 ).bind fun q => match q with | .inl r => some r | .inr q8 => (gf_be9 (a0.size : Int) 1 6).bind fun x19 => some (x19)) else none
def c_au9 : Con := ⟨Str, Bool, 80, fun a => [.v (.string a)], fun a => gf_au9 a, fun a r => ⟨[(false, [.v (.bool r)])], []⟩, fun a => []⟩
/-! impl.ShapeOk -/
def ib_al9 : IC :=
 (Rs [Io 1 (.box 226 [none, some 66] (.t 0)), Kb 2 false]
 (.seq (Rs [Fa 6 1 1, Ld 7 1 6, Ln 8 7, Ki 9 0]
 (blkC 0 (.loop (Rs [Bb 10 .lss 9 8]
 (.seq (Ct 10 .skip
 (.exit 0))
 (.seq (.block 1 (Rs [Mv 11 9, Ia 12 2 7 9, La 13 2 12, Io 4 (.alloc 66 [.v (.int .i64 0), .v (.int .i64 0)]), Mv 3 11, Sv [none, none] 4 13]
 (.seq (.drw [La 14 2 4, Ca 15 79 [14], Nt 16 15, Mv 17 16, Gf 17 (Mv 18 3), Gf 17 (Bk 19 .gtr 18 0), Gf 17 (Mv 20 19), Gt 20 (Fa 21 1 1), Gt 20 (Ld 22 1 21), Gt 20 (Mv 23 3), Gt 20 (Bk 24 .sub 23 1), Gt 20 (Ia 25 2 22 24), Gt 20 (La 26 2 25), Gt 20 (La 27 2 4), Gt 20 (Io 28 (.eqs false true [0, 0] (.t 26) (.t 27))), Gf 17 (Io 29 (.pick (.t 20) (.t 28) (.c (.bool false)))), Pk 30 17 29] [(8, 13), (12, 13)])
 (Ct 30 (Rs [Kb 2 false]
 .ret)
 .skip))))
 (.reg [Bk 31 .add 9 1, Mv 9 31])))))))
 (Rs [Fa 32 1 1, Ld 33 1 32, Ln 34 33, Mv 5 34]
 (.seq (Rs [Fa 35 0 1, Ld 36 1 35]
 (.block 2 (Rs [Bk 38 .eql 36 1, Mv 37 38]
 (Ct 37 (Rs [Mv 39 5, Bk 40 .eql 39 1, Mv 2 40]
 .ret)
 (Rs [Bk 42 .eql 36 2, Mv 41 42]
 (Ct 41 (Rs [Mv 43 5, Io 44 (.call 76 [(false, .t 43), (false, .c (.int .i64 2)), (false, .c (.int .i64 6))]), Mv 2 44]
 .ret)
 (Rs [Bk 46 .eql 36 3, Mv 45 46]
 (Ct 45 (.seq (.drw [Mv 47 5, Io 48 (.call 76 [(false, .t 47), (false, .c (.int .i64 3)), (false, .c (.int .i64 6))]), Mv 49 48, Gt 49 (Fa 50 1 1), Gt 49 (Ld 51 1 50), Gt 49 (Io 52 (.iaddr 2 (.t 51) (.c (.int .i64 0)))), Gt 49 (La 53 2 52), Gt 49 (Fa 54 1 1), Gt 49 (Ld 55 1 54), Gt 49 (Mv 56 5), Gt 49 (Bk 57 .sub 56 1), Gt 49 (Ia 58 2 55 57), Gt 49 (La 59 2 58), Gt 49 (Io 60 (.eqs true true [0, 0] (.t 53) (.t 59))), Io 61 (.pick (.t 49) (.t 60) (.c (.bool false))), Mv 2 61] [(4, 8), (6, 8), (4, 12), (6, 12)])
 .ret)
 .skip))))))))
 (Rs [Kb 2 false]
 .ret)))))
def if_al9 : IFn := ⟨62, [.inl 2], ib_al9, lcF []⟩
def ks_al9 : List (List (Option Nat)) := [[none]]
def gl_al9_1 (a0 : Shape) : List Pt → Nat → Option (Bool ⊕ Unit)
 | [], k27 => some (.inr ())
 | x28 :: l29, k27 => (gf_bc9 x28).bind fun x37 => if (!x37) = true then (some (.inl (false))) else (if (decide ((k27 : Int) > 0)) = true then ((idx a0.pts (IntKind.i64.wrap ((k27 : Int) - 1))).bind fun x39 => if ((x39.x == x28.x) && ((x39.y == x28.y) && true)) = true then (some (.inl (false))) else (gl_al9_1 a0 l29 (k27 + 1) )) else (gl_al9_1 a0 l29 (k27 + 1) ))
def gf_al9 (a0 : Shape) : Option Bool := if fits a0.pts.length = true then ((gl_al9_1 a0 a0.pts 0 ).bind fun q => match q with | .inl r => some r | .inr q24 => if (a0.kind == 1) = true then (some (((a0.pts.length : Int) == 1))) else (if (a0.kind == 2) = true then ((gf_be9 (a0.pts.length : Int) 2 6).bind fun x42 => some (x42)) else (if (a0.kind == 3) = true then ((gf_be9 (a0.pts.length : Int) 3 6).bind fun x44 => if x44 = true then ((idx a0.pts 0).bind fun x46 => (idx a0.pts (IntKind.i64.wrap ((a0.pts.length : Int) - 1))).bind fun x48 => some ((!((x46.x == x48.x) && ((x46.y == x48.y) && true))))) else (some (false))) else (some (false))))) else none
def c_al9 : Con := ⟨Shape, Bool, 81, fun a => [.agg [.v (.int .i64 a.kind), .ro (List.map ePt a.pts)]], fun a => gf_al9 a, fun a r => ⟨[(false, [.v (.bool r)])], []⟩, fun a => []⟩
/-! impl.FeatOk -/
def ib_aa9 : IC :=
 (Rs [Io 1 (.box 100 [none, none, some 66, some 82] (.t 0)), Kb 2 false]
 (.seq (Rs [Fa 5 3 1, Ld 6 1 5, Ln 7 6, Ki 8 0]
 (blkC 0 (.loop (Rs [Bb 9 .lss 8 7]
 (.seq (Ct 9 .skip
 (.exit 0))
 (.seq (.block 1 (Rs [Mv 10 8, Ia 11 2 6 8, La 12 2 11, Io 4 (.alloc 82 [.v (.string ⟨#[]⟩), .v (.string ⟨#[]⟩)]), Mv 3 10, Sv [none, none] 4 12]
 (.seq (.drw [Fa 13 0 4, Ld 14 1 13, Ca 15 80 [14], Nt 16 15, Mv 17 16, Gf 17 (Fa 18 1 4), Gf 17 (Ld 19 1 18), Gf 17 (Ca 20 80 [19]), Gf 17 (Nt 21 20), Pk 22 17 21, Mv 23 22, Gf 23 (Mv 24 3), Gf 23 (Bk 25 .gtr 24 0), Gf 23 (Mv 26 25), Gt 26 (Fa 27 3 1), Gt 26 (Ld 28 1 27), Gt 26 (Mv 29 3), Gt 26 (Bk 30 .sub 29 1), Gt 26 (Ia 31 2 28 30), Gt 26 (Fa 32 0 31), Gt 26 (Ld 33 1 32), Gt 26 (Fa 34 0 4), Gt 26 (Ld 35 1 34), Gt 26 (Bb 36 .geq 33 35), Gf 23 (Io 37 (.pick (.t 26) (.t 36) (.c (.bool false)))), Pk 38 23 37] [(15, 22), (20, 22)])
 (Ct 38 (Rs [Kb 2 false]
 .ret)
 .skip))))
 (.reg [Bk 39 .add 8 1, Mv 8 39])))))))
 (Rs [Fa 40 0 1, Ld 41 1 40, Ca 42 80 [41], Mv 43 42, Gt 43 (Fa 44 1 1), Gt 43 (La 45 2 44), Gt 43 (Ca 46 81 [45]), Io 47 (.pick (.t 43) (.t 46) (.c (.bool false))), Mv 48 47, Gt 48 (Fa 49 3 1), Gt 48 (Ld 50 1 49), Gt 48 (Ln 51 50), Gt 48 (Bk 52 .leq 51 4), Io 53 (.pick (.t 48) (.t 52) (.c (.bool false))), Mv 2 53]
 .ret)))
def if_aa9 : IFn := ⟨54, [.inl 2], ib_aa9, lcF []⟩
def ks_aa9 : List (List (Option Nat)) := [[none]]
def gl_aa9_1 (a0 : Feat) : List Tag → Nat → Option (Bool ⊕ Unit)
 | [], k33 => some (.inr ())
 | x34 :: l35, k33 => (gf_au9 x34.key).bind fun x43 => if (!x43) = true then (some (.inl (false))) else ((gf_au9 x34.val).bind fun x45 => if (!x45) = true then (some (.inl (false))) else (if (decide ((k33 : Int) > 0)) = true then ((idx a0.tags (IntKind.i64.wrap ((k33 : Int) - 1))).bind fun x47 => if (!slt x47.key x34.key) = true then (some (.inl (false))) else (gl_aa9_1 a0 l35 (k33 + 1) )) else (gl_aa9_1 a0 l35 (k33 + 1) )))
def gf_aa9 (a0 : Feat) : Option Bool := if fits a0.tags.length = true then ((gl_aa9_1 a0 a0.tags 0 ).bind fun q => match q with | .inl r => some r | .inr q30 => (gf_au9 a0.id).bind fun x50 => if x50 = true then ((gf_al9 a0.shape).bind fun x52 => if x52 = true then (some ((decide ((a0.tags.length : Int) ≤ 4)))) else (some (false))) else (some (false))) else none
def c_aa9 : Con := ⟨Feat, Bool, 82, fun a => [.agg [.v (.string a.id), .v (.int .i64 a.shape.kind), .ro (List.map ePt a.shape.pts), .ro (List.map eTag a.tags)]], fun a => gf_aa9 a, fun a r => ⟨[(false, [.v (.bool r)])], []⟩, fun a => []⟩
/-! slices.Equal[[]impl.Pt,impl.Pt] -/
def ib_bj9 : IC :=
 (Rs [Kb 4 false]
 (.seq (Rs [Mv 6 0, Ln 7 6, Mv 8 1, Ln 9 8, Bb 10 .neq 7 9]
 (Ct 10 (Rs [Kb 4 false]
 .ret)
 .skip))
 (.seq (Rs [Mv 11 0, Ln 12 11, Ki 13 0]
 (blkC 0 (.loop (Rs [Bb 14 .lss 13 12]
 (.seq (Ct 14 .skip
 (.exit 0))
 (.seq (.block 1 (Rs [Mv 15 13, Mv 5 15]
 (.seq (.drw [Mv 16 0, Mv 17 5, Ia 18 2 16 17, La 19 2 18, Mv 20 1, Mv 21 5, Ia 22 2 20 21, La 23 2 22, Io 24 (.eqs true true [0, 0] (.t 19) (.t 23))] [(3, 7)])
 (Ct 24 (Rs [Kb 4 false]
 .ret)
 .skip))))
 (.reg [Bk 25 .add 13 1, Mv 13 25])))))))
 (Rs [Kb 4 true]
 .ret))))
def if_bj9 : IFn := ⟨26, [.inl 4], ib_bj9, lcF []⟩
def ks_bj9 : List (List (Option Nat)) := [[none]]
def gl_bj9_1 (a1 : (List Pt)) : List Pt → Nat → Option (Bool ⊕ Unit)
 | [], k16 => some (.inr ())
 | x17 :: l18, k16 => (idx a1 (k16 : Int)).bind fun x25 => if (!((x17.x == x25.x) && ((x17.y == x25.y) && true))) = true then (some (.inl (false))) else (gl_bj9_1 a1 l18 (k16 + 1) )
def gf_bj9 (a0 : (List Pt)) (a1 : (List Pt)) : Option Bool := if ((a0.length : Int) != (a1.length : Int)) = true then (some (false)) else (if fits a0.length = true then ((gl_bj9_1 a1 a0 0 ).bind fun q => match q with | .inl r => some r | .inr q14 => some (true)) else none)
def c_bj9 : Con := ⟨(List Pt) × (List Pt), Bool, 127, fun a => [.ro (List.map ePt a.1), .ro (List.map ePt a.2)], fun a => gf_bj9 a.1 a.2, fun a r => ⟨[(false, [.v (.bool r)])], []⟩, fun a => []⟩
/-! impl.ShapeSame -/
def ib_am9 : IC :=
 (Rs [Io 2 (.box 226 [none, some 66] (.t 0)), Io 3 (.box 226 [none, some 66] (.t 1)), Kb 4 false]
 (Rs [Fa 5 0 2, Ld 6 1 5, Fa 7 0 3, Ld 8 1 7, Bb 9 .eql 6 8, Mv 10 9, Gt 10 (Fa 11 1 2), Gt 10 (Ld 12 1 11), Gt 10 (Fa 13 1 3), Gt 10 (Ld 14 1 13), Gt 10 (Ca 15 127 [12, 14]), Io 16 (.pick (.t 10) (.t 15) (.c (.bool false))), Mv 4 16]
 .ret))
def if_am9 : IFn := ⟨17, [.inl 4], ib_am9, lcF []⟩
def ks_am9 : List (List (Option Nat)) := [[none]]
def gf_am9 (a0 : Shape) (a1 : Shape) : Option Bool := if (a0.kind == a1.kind) = true then ((gf_bj9 a0.pts a1.pts).bind fun x3 => some (x3)) else (some (false))
def c_am9 : Con := ⟨Shape × Shape, Bool, 128, fun a => [.agg [.v (.int .i64 a.1.kind), .ro (List.map ePt a.1.pts)], .agg [.v (.int .i64 a.2.kind), .ro (List.map ePt a.2.pts)]], fun a => gf_am9 a.1 a.2, fun a r => ⟨[(false, [.v (.bool r)])], []⟩, fun a => []⟩
/-! slices.Equal[[]impl.Tag,impl.Tag] -/
def ib_bk9 : IC :=
 (Rs [Kb 4 false]
 (.seq (Rs [Mv 6 0, Ln 7 6, Mv 8 1, Ln 9 8, Bb 10 .neq 7 9]
 (Ct 10 (Rs [Kb 4 false]
 .ret)
 .skip))
 (.seq (Rs [Mv 11 0, Ln 12 11, Ki 13 0]
 (blkC 0 (.loop (Rs [Bb 14 .lss 13 12]
 (.seq (Ct 14 .skip
 (.exit 0))
 (.seq (.block 1 (Rs [Mv 15 13, Mv 5 15]
 (.seq (.drw [Mv 16 0, Mv 17 5, Ia 18 2 16 17, La 19 2 18, Mv 20 1, Mv 21 5, Ia 22 2 20 21, La 23 2 22, Io 24 (.eqs true true [2, 2] (.t 19) (.t 23))] [(3, 7)])
 (Ct 24 (Rs [Kb 4 false]
 .ret)
 .skip))))
 (.reg [Bk 25 .add 13 1, Mv 13 25])))))))
 (Rs [Kb 4 true]
 .ret))))
def if_bk9 : IFn := ⟨26, [.inl 4], ib_bk9, lcF []⟩
def ks_bk9 : List (List (Option Nat)) := [[none]]
def gl_bk9_1 (a1 : (List Tag)) : List Tag → Nat → Option (Bool ⊕ Unit)
 | [], k16 => some (.inr ())
 | x17 :: l18, k16 => (idx a1 (k16 : Int)).bind fun x25 => if (!((x17.key == x25.key) && ((x17.val == x25.val) && true))) = true then (some (.inl (false))) else (gl_bk9_1 a1 l18 (k16 + 1) )
def gf_bk9 (a0 : (List Tag)) (a1 : (List Tag)) : Option Bool := if ((a0.length : Int) != (a1.length : Int)) = true then (some (false)) else (if fits a0.length = true then ((gl_bk9_1 a1 a0 0 ).bind fun q => match q with | .inl r => some r | .inr q14 => some (true)) else none)
def c_bk9 : Con := ⟨(List Tag) × (List Tag), Bool, 129, fun a => [.ro (List.map eTag a.1), .ro (List.map eTag a.2)], fun a => gf_bk9 a.1 a.2, fun a r => ⟨[(false, [.v (.bool r)])], []⟩, fun a => []⟩
/-! impl.FeatSame -/
def ib_ab9 : IC :=
 (Rs [Io 2 (.box 100 [none, none, some 66, some 82] (.t 0)), Io 3 (.box 100 [none, none, some 66, some 82] (.t 1)), Kb 4 false]
 (Rs [Fa 5 0 2, Ld 6 1 5, Fa 7 0 3, Ld 8 1 7, Bb 9 .eql 6 8, Mv 10 9, Gt 10 (Fa 11 1 2), Gt 10 (La 12 2 11), Gt 10 (Fa 13 1 3), Gt 10 (La 14 2 13), Gt 10 (Ca 15 128 [12, 14]), Io 16 (.pick (.t 10) (.t 15) (.c (.bool false))), Mv 17 16, Gt 17 (Fa 18 3 2), Gt 17 (Ld 19 1 18), Gt 17 (Fa 20 3 3), Gt 17 (Ld 21 1 20), Gt 17 (Ca 22 129 [19, 21]), Io 23 (.pick (.t 17) (.t 22) (.c (.bool false))), Mv 4 23]
 .ret))
def if_ab9 : IFn := ⟨24, [.inl 4], ib_ab9, lcF []⟩
def ks_ab9 : List (List (Option Nat)) := [[none]]
def gf_ab9 (a0 : Feat) (a1 : Feat) : Option Bool := if (seq a0.id a1.id) = true then ((gf_am9 a0.shape a1.shape).bind fun x3 => if x3 = true then ((gf_bk9 a0.tags a1.tags).bind fun x5 => some (x5)) else (some (false))) else (some (false))
def c_ab9 : Con := ⟨Feat × Feat, Bool, 130, fun a => [.agg [.v (.string a.1.id), .v (.int .i64 a.1.shape.kind), .ro (List.map ePt a.1.shape.pts), .ro (List.map eTag a.1.tags)], .agg [.v (.string a.2.id), .v (.int .i64 a.2.shape.kind), .ro (List.map ePt a.2.shape.pts), .ro (List.map eTag a.2.tags)]], fun a => gf_ab9 a.1 a.2, fun a r => ⟨[(false, [.v (.bool r)])], []⟩, fun a => []⟩
/-! slices.EqualFunc[[]impl.Feat,[]impl.Feat,impl.Feat,impl.Feat] -/
def ib_bh9 : IC :=
 (Rs [Kb 6 false]
 (.seq (Rs [Mv 10 0, Ln 11 10, Mv 12 1, Ln 13 12, Bb 14 .neq 11 13]
 (Ct 14 (Rs [Kb 6 false]
 .ret)
 .skip))
 (.seq (Rs [Mv 15 0, Ln 16 15, Ki 17 0]
 (blkC 0 (.loop (Rs [Bb 18 .lss 17 16]
 (.seq (Ct 18 .skip
 (.exit 0))
 (.seq (.block 1 (Rs [Mv 19 17, Ia 20 4 15 17, La 21 4 20, Io 8 (.alloc 100 [.v (.string ⟨#[]⟩), .v (.int .i64 0), .sl true 66 [], .sl true 82 []]), Mv 7 19, Sv [none, none, some 66, some 82] 8 21]
 (Rs [Mv 22 1, Mv 23 7, Ia 24 4 22 23, La 25 4 24, Io 9 (.alloc 100 [.v (.string ⟨#[]⟩), .v (.int .i64 0), .sl true 66 [], .sl true 82 []]), Sv [none, none, some 66, some 82] 9 25]
 (Rs [Mv 26 2, La 27 4 8, La 28 4 9, Io 29 (.calld (.t 26) [(false, .t 27), (false, .t 28)]), Nt 30 29]
 (Ct 30 (Rs [Kb 6 false]
 .ret)
 .skip)))))
 (.reg [Bk 31 .add 17 1, Mv 17 31])))))))
 (Rs [Kb 6 true]
 .ret))))
def if_bh9 : IFn := ⟨32, [.inl 6], ib_bh9, lcF []⟩
def ks_bh9 : List (List (Option Nat)) := [[none]]
def gl_bi9_1 (a1 : (List Feat)) : List Feat → Nat → Option (Bool ⊕ Unit)
 | [], k28 => some (.inr ())
 | x29 :: l30, k28 => (idx a1 (k28 : Int)).bind fun x38 => (gf_ab9 x29 x38).bind fun x41 => if (!x41) = true then (some (.inl (false))) else (gl_bi9_1 a1 l30 (k28 + 1) )
def gf_bi9 (a0 : (List Feat)) (a1 : (List Feat)) : Option Bool := if ((a0.length : Int) != (a1.length : Int)) = true then (some (false)) else (if fits a0.length = true then ((gl_bi9_1 a1 a0 0 ).bind fun q => match q with | .inl r => some r | .inr q26 => some (true)) else none)
def c_bi9 : Con := ⟨(List Feat) × (List Feat), Bool, 325, fun a => [.ro (List.map (eFeat false) a.1), .ro (List.map (eFeat false) a.2), .fn 130 []], fun a => gf_bi9 a.1 a.2, fun a r => ⟨[(false, [.v (.bool r)])], []⟩, fun a => []⟩
/-! impl.SheetSame -/
def ib_ao9 : IC :=
 (Rs [Kb 4 false]
 (Rs [Mv 5 0, Mv 6 1, Io 7 (.call 325 [(false, .t 5), (false, .t 6), (false, .f 130)]), Mv 4 7]
 .ret))
def if_ao9 : IFn := ⟨8, [.inl 4], ib_ao9, lcF []⟩
def ks_ao9 : List (List (Option Nat)) := [[none]]
def gf_ao9 (a0 : (List Feat)) (a1 : (List Feat)) : Option Bool := (gf_bi9 a0 a1).bind fun x1 => some (x1)
def c_ao9 : Con := ⟨(List Feat) × (List Feat), Bool, 220, fun a => [.ro (List.map (eFeat false) a.1), .ro (List.map (eFeat false) a.2)], fun a => gf_ao9 a.1 a.2, fun a r => ⟨[(false, [.v (.bool r)])], []⟩, fun a => []⟩
/-! slices.Equal[[]int,int] -/
def ib_bl9 : IC :=
 (Rs [Kb 4 false]
 (.seq (Rs [Mv 6 0, Ln 7 6, Mv 8 1, Ln 9 8, Bb 10 .neq 7 9]
 (Ct 10 (Rs [Kb 4 false]
 .ret)
 .skip))
 (.seq (Rs [Mv 11 0, Ln 12 11, Ki 13 0]
 (blkC 0 (.loop (Rs [Bb 14 .lss 13 12]
 (.seq (Ct 14 .skip
 (.exit 0))
 (.seq (.block 1 (Rs [Mv 15 13, Mv 5 15]
 (.seq (.drw [Mv 16 0, Mv 17 5, Ia 18 1 16 17, Ld 19 1 18, Mv 20 1, Mv 21 5, Ia 22 1 20 21, Ld 23 1 22, Bb 24 .neq 19 23] [(3, 7)])
 (Ct 24 (Rs [Kb 4 false]
 .ret)
 .skip))))
 (.reg [Bk 25 .add 13 1, Mv 13 25])))))))
 (Rs [Kb 4 true]
 .ret))))
def if_bl9 : IFn := ⟨26, [.inl 4], ib_bl9, lcF []⟩
def ks_bl9 : List (List (Option Nat)) := [[none]]
def gl_bl9_1 (a1 : (List Int)) : List Int → Nat → Option (Bool ⊕ Unit)
 | [], k16 => some (.inr ())
 | x17 :: l18, k16 => (idx a1 (k16 : Int)).bind fun x25 => if (x17 != x25) = true then (some (.inl (false))) else (gl_bl9_1 a1 l18 (k16 + 1) )
def gf_bl9 (a0 : (List Int)) (a1 : (List Int)) : Option Bool := if ((a0.length : Int) != (a1.length : Int)) = true then (some (false)) else (if fits a0.length = true then ((gl_bl9_1 a1 a0 0 ).bind fun q => match q with | .inl r => some r | .inr q14 => some (true)) else none)
def c_bl9 : Con := ⟨(List Int) × (List Int), Bool, 358, fun a => [.ro (List.map eInt a.1), .ro (List.map eInt a.2)], fun a => gf_bl9 a.1 a.2, fun a r => ⟨[(false, [.v (.bool r)])], []⟩, fun a => []⟩
/-! impl.sameCommit -/
def ib_bd9 : IC :=
 (Rs [Io 2 (.box 115 [some 17, some 100, none] (.t 0)), Io 3 (.box 115 [some 17, some 100, none] (.t 1)), Kb 4 false]
 (Rs [Fa 5 0 2, Ld 6 1 5, Fa 7 0 3, Ld 8 1 7, Ca 9 358 [6, 8], Mv 10 9, Gt 10 (Fa 11 1 2), Gt 10 (Ld 12 1 11), Gt 10 (Fa 13 1 3), Gt 10 (Ld 14 1 13), Gt 10 (Ca 15 220 [12, 14]), Io 16 (.pick (.t 10) (.t 15) (.c (.bool false))), Mv 17 16, Gt 17 (Fa 18 2 2), Gt 17 (Ld 19 1 18), Gt 17 (Fa 20 2 3), Gt 17 (Ld 21 1 20), Gt 17 (Bb 22 .eql 19 21), Io 23 (.pick (.t 17) (.t 22) (.c (.bool false))), Mv 4 23]
 .ret))
def if_bd9 : IFn := ⟨24, [.inl 4], ib_bd9, lcF []⟩
def ks_bd9 : List (List (Option Nat)) := [[none]]
def gf_bd9 (a0 : Commit) (a1 : Commit) : Option Bool := (gf_bl9 a0.up a1.up).bind fun x3 => if x3 = true then ((gf_ao9 a0.sheet a1.sheet).bind fun x5 => if x5 = true then (some ((seq a0.note a1.note))) else (some (false))) else (some (false))
def c_bd9 : Con := ⟨Commit × Commit, Bool, 330, fun a => [.agg [.ro (List.map eInt a.1.up), .ro (List.map (eFeat false) a.1.sheet), .v (.string a.1.note)], .agg [.ro (List.map eInt a.2.up), .ro (List.map (eFeat false) a.2.sheet), .v (.string a.2.note)]], fun a => gf_bd9 a.1 a.2, fun a r => ⟨[(false, [.v (.bool r)])], []⟩, fun a => []⟩
/-! slices.Index[[]int,int] -/
def ib_bs9 : IC :=
 (Rs [Ki 4 0]
 (.seq (Rs [Mv 6 0, Ln 7 6, Ki 8 0]
 (blkC 0 (.loop (Rs [Bb 9 .lss 8 7]
 (.seq (Ct 9 .skip
 (.exit 0))
 (.seq (.block 1 (Rs [Mv 10 8, Mv 5 10]
 (Rs [Mv 11 1, Mv 12 0, Mv 13 5, Ia 14 1 12 13, Ld 15 1 14, Bb 16 .eql 11 15]
 (Ct 16 (Rs [Mv 17 5, Mv 4 17]
 .ret)
 .skip))))
 (.reg [Bk 18 .add 8 1, Mv 8 18])))))))
 (Rs [Ki 4 (-1)]
 .ret)))
def if_bs9 : IFn := ⟨19, [.inl 4], ib_bs9, lcF []⟩
def ks_bs9 : List (List (Option Nat)) := [[none]]
def gl_bs9_1 (a1 : Int) : List Int → Nat → Option (Int ⊕ Unit)
 | [], k10 => some (.inr ())
 | x11 :: l12, k10 => if (a1 == x11) = true then (some (.inl ((k10 : Int)))) else (gl_bs9_1 a1 l12 (k10 + 1) )
def gf_bs9 (a0 : (List Int)) (a1 : Int) : Option Int := if fits a0.length = true then ((gl_bs9_1 a1 a0 0 ).bind fun q => match q with | .inl r => some r | .inr q8 => some ((-1))) else none
def c_bs9 : Con := ⟨(List Int) × Int, Int, 85, fun a => [.ro (List.map eInt a.1), .v (.int .i64 a.2)], fun a => gf_bs9 a.1 a.2, fun a r => ⟨[(false, [.v (.int .i64 r)])], []⟩, fun a => []⟩
/-! impl.SheetOk -/
def ib_an9 : IC :=
 (Rs [Kb 2 false]
 (.seq (Rs [Mv 5 0, Ln 6 5, Ki 7 0]
 (blkC 0 (.loop (Rs [Bb 8 .lss 7 6]
 (.seq (Ct 8 .skip
 (.exit 0))
 (.seq (.block 1 (Rs [Mv 9 7, Ia 10 4 5 7, La 11 4 10, Io 4 (.alloc 100 [.v (.string ⟨#[]⟩), .v (.int .i64 0), .sl true 66 [], .sl true 82 []]), Mv 3 9, Sv [none, none, some 66, some 82] 4 11]
 (.seq (.drw [La 12 4 4, Ca 13 82 [12], Nt 14 13, Mv 15 14, Gf 15 (Mv 16 3), Gf 15 (Bk 17 .gtr 16 0), Gf 15 (Mv 18 17), Gt 18 (Mv 19 0), Gt 18 (Mv 20 3), Gt 18 (Bk 21 .sub 20 1), Gt 18 (Ia 22 4 19 21), Gt 18 (Fa 23 0 22), Gt 18 (Ld 24 1 23), Gt 18 (Fa 25 0 4), Gt 18 (Ld 26 1 25), Gt 18 (Bb 27 .geq 24 26), Gf 15 (Io 28 (.pick (.t 18) (.t 27) (.c (.bool false)))), Pk 29 15 28] [(12, 14)])
 (Ct 29 (Rs [Kb 2 false]
 .ret)
 .skip))))
 (.reg [Bk 30 .add 7 1, Mv 7 30])))))))
 (Rs [Mv 31 0, Ln 32 31, Bk 33 .leq 32 8, Mv 2 33]
 .ret)))
def if_an9 : IFn := ⟨34, [.inl 2], ib_an9, lcF []⟩
def ks_an9 : List (List (Option Nat)) := [[none]]
def gl_an9_1 (a0 : (List Feat)) : List Feat → Nat → Option (Bool ⊕ Unit)
 | [], k23 => some (.inr ())
 | x24 :: l25, k23 => (gf_aa9 x24).bind fun x33 => if (!x33) = true then (some (.inl (false))) else (if (decide ((k23 : Int) > 0)) = true then ((idx a0 (IntKind.i64.wrap ((k23 : Int) - 1))).bind fun x35 => if (!slt x35.id x24.id) = true then (some (.inl (false))) else (gl_an9_1 a0 l25 (k23 + 1) )) else (gl_an9_1 a0 l25 (k23 + 1) ))
def gf_an9 (a0 : (List Feat)) : Option Bool := if fits a0.length = true then ((gl_an9_1 a0 a0 0 ).bind fun q => match q with | .inl r => some r | .inr q21 => some ((decide ((a0.length : Int) ≤ 8)))) else none
def c_an9 : Con := ⟨(List Feat), Bool, 86, fun a => [.ro (List.map (eFeat false) a)], fun a => gf_an9 a, fun a r => ⟨[(false, [.v (.bool r)])], []⟩, fun a => []⟩
/-! (impl.Repo).commit$1 -/
def ib_ag9 : IC :=
 (Rs [Io 2 (.box 115 [some 17, some 100, none] (.t 0)), Kb 3 false]
 (Rs [La 4 3 2, La 5 3 1, Ca 6 330 [4, 5], Mv 3 6]
 .ret))
def if_ag9 : IFn := ⟨7, [.inl 3], ib_ag9, lcF []⟩
def ks_ag9 : List (List (Option Nat)) := [[none]]
def gf_ag9 (a0 : Commit) (a1 : Commit) : Option Bool := (gf_bd9 a0 a1).bind fun x2 => some (x2)
def c_ag9 : Con := ⟨Commit × Commit, Bool, 83, fun a => [.agg [.ro (List.map eInt a.1.up), .ro (List.map (eFeat false) a.1.sheet), .v (.string a.1.note)], .rptr [.sl false 1 (List.map eInt a.2.up), .sl false 4 (List.map (eFeat false) a.2.sheet), .v (.string a.2.note)]], fun a => gf_ag9 a.1 a.2, fun a r => ⟨[(false, [.v (.bool r)])], []⟩, fun a => []⟩
/-! slices.IndexFunc[[]impl.Commit,impl.Commit] -/
def ib_bo9 : IC :=
 (Rs [Ki 4 0]
 (.seq (Rs [Mv 6 0, Ln 7 6, Ki 8 0]
 (blkC 0 (.loop (Rs [Bb 9 .lss 8 7]
 (.seq (Ct 9 .skip
 (.exit 0))
 (.seq (.block 1 (Rs [Mv 10 8, Mv 5 10]
 (Rs [Mv 11 1, Mv 12 0, Mv 13 5, Ia 14 3 12 13, La 15 3 14, Io 16 (.calld (.t 11) [(false, .t 15)])]
 (Ct 16 (Rs [Mv 17 5, Mv 4 17]
 .ret)
 .skip))))
 (.reg [Bk 18 .add 8 1, Mv 8 18])))))))
 (Rs [Ki 4 (-1)]
 .ret)))
def if_bo9 : IFn := ⟨19, [.inl 4], ib_bo9, lcF []⟩
def ks_bo9 : List (List (Option Nat)) := [[none]]
def gl_bp9_1 (a1 : Commit) : List Commit → Nat → Option (Int ⊕ Unit)
 | [], k16 => some (.inr ())
 | x17 :: l18, k16 => (gf_ag9 x17 a1).bind fun x25 => if x25 = true then (some (.inl ((k16 : Int)))) else (gl_bp9_1 a1 l18 (k16 + 1) )
def gf_bp9 (a0 : (List Commit)) (a1 : Commit) : Option Int := if fits a0.length = true then ((gl_bp9_1 a1 a0 0 ).bind fun q => match q with | .inl r => some r | .inr q14 => some ((-1))) else none
def c_bp9 : Con := ⟨(List Commit) × Commit, Int, 84, fun a => [.ro (List.map (eCommit false) a.1), .fn 83 [.rptr [.sl false 1 (List.map eInt a.2.up), .sl false 4 (List.map (eFeat false) a.2.sheet), .v (.string a.2.note)]]], fun a => gf_bp9 a.1 a.2, fun a r => ⟨[(false, [.v (.int .i64 r)])], []⟩, fun a => []⟩
/-! (impl.Repo).commit -/
def ib_af9 : IC :=
 (Rs [Io 2 (.box 210 [some 115, some 130] (.t 0)), Io 3 (.box 115 [some 17, some 100, none] (.t 1)), Ki 4 0]
 (Rs [Fa 5 0 2, Ld 6 1 5, Io 7 (.mkf 83 [.t 3]), Ca 8 84 [6, 7], Mv 4 8]
 .ret))
def if_af9 : IFn := ⟨9, [.inl 4], ib_af9, lcF []⟩
def ks_af9 : List (List (Option Nat)) := [[none]]
def gf_af9 (a0 : Repo) (a1 : Commit) : Option Int := (gf_bp9 a0.commits a1).bind fun x3 => some (x3)
def c_af9 : Con := ⟨Repo × Commit, Int, 87, fun a => [.agg [.ro (List.map (eCommit false) a.1.commits), .ro (List.map eHead a.1.heads)], .agg [.ro (List.map eInt a.2.up), .ro (List.map (eFeat false) a.2.sheet), .v (.string a.2.note)]], fun a => gf_af9 a.1 a.2, fun a r => ⟨[(false, [.v (.int .i64 r)])], []⟩, fun a => []⟩
/-! slices.Contains[[]int,int] -/
def ib_bg9 : IC :=
 (Rs [Kb 4 false]
 (Rs [Mv 5 0, Mv 6 1, Ca 7 85 [5, 6], Bk 8 .geq 7 0, Mv 4 8]
 .ret))
def if_bg9 : IFn := ⟨9, [.inl 4], ib_bg9, lcF []⟩
def ks_bg9 : List (List (Option Nat)) := [[none]]
def gf_bg9 (a0 : (List Int)) (a1 : Int) : Option Bool := (gf_bs9 a0 a1).bind fun x1 => some ((decide (x1 ≥ 0)))
def c_bg9 : Con := ⟨(List Int) × Int, Bool, 88, fun a => [.ro (List.map eInt a.1), .v (.int .i64 a.2)], fun a => gf_bg9 a.1 a.2, fun a r => ⟨[(false, [.v (.bool r)])], []⟩, fun a => []⟩
/-! (impl.Repo).head$1 -/
def ib_ai9 : IC :=
 (Rs [Io 2 (.box 130 [none, none] (.t 0)), Kb 3 false]
 (Rs [Fa 4 0 2, Ld 5 1 4, Ld 6 1 1, Bb 7 .eql 5 6, Mv 3 7]
 .ret))
def if_ai9 : IFn := ⟨8, [.inl 3], ib_ai9, lcF []⟩
def ks_ai9 : List (List (Option Nat)) := [[none]]
def gf_ai9 (a0 : Head) (a1 : Str) : Option Bool := some ((seq a0.name a1))
def c_ai9 : Con := ⟨Head × Str, Bool, 77, fun a => [.agg [.v (.string a.1.name), .v (.int .i64 a.1.at_)], .rptr [.v (.string a.2)]], fun a => gf_ai9 a.1 a.2, fun a r => ⟨[(false, [.v (.bool r)])], []⟩, fun a => []⟩
/-! slices.IndexFunc[[]impl.Head,impl.Head] -/
def ib_bq9 : IC :=
 (Rs [Ki 4 0]
 (.seq (Rs [Mv 6 0, Ln 7 6, Ki 8 0]
 (blkC 0 (.loop (Rs [Bb 9 .lss 8 7]
 (.seq (Ct 9 .skip
 (.exit 0))
 (.seq (.block 1 (Rs [Mv 10 8, Mv 5 10]
 (Rs [Mv 11 1, Mv 12 0, Mv 13 5, Ia 14 2 12 13, La 15 2 14, Io 16 (.calld (.t 11) [(false, .t 15)])]
 (Ct 16 (Rs [Mv 17 5, Mv 4 17]
 .ret)
 .skip))))
 (.reg [Bk 18 .add 8 1, Mv 8 18])))))))
 (Rs [Ki 4 (-1)]
 .ret)))
def if_bq9 : IFn := ⟨19, [.inl 4], ib_bq9, lcF []⟩
def ks_bq9 : List (List (Option Nat)) := [[none]]
def gl_br9_1 (a1 : Str) : List Head → Nat → Option (Int ⊕ Unit)
 | [], k16 => some (.inr ())
 | x17 :: l18, k16 => (gf_ai9 x17 a1).bind fun x25 => if x25 = true then (some (.inl ((k16 : Int)))) else (gl_br9_1 a1 l18 (k16 + 1) )
def gf_br9 (a0 : (List Head)) (a1 : Str) : Option Int := if fits a0.length = true then ((gl_br9_1 a1 a0 0 ).bind fun q => match q with | .inl r => some r | .inr q14 => some ((-1))) else none
def c_br9 : Con := ⟨(List Head) × Str, Int, 78, fun a => [.ro (List.map eHead a.1), .fn 77 [.rptr [.v (.string a.2)]]], fun a => gf_br9 a.1 a.2, fun a r => ⟨[(false, [.v (.int .i64 r)])], []⟩, fun a => []⟩
/-! (impl.Repo).head -/
def ib_ah9 : IC :=
 (Rs [Io 2 (.box 210 [some 115, some 130] (.t 0)), Io 3 (.box 49 [none] (.t 1)), Ki 4 0]
 (Rs [Fa 5 1 2, Ld 6 1 5, Io 7 (.mkf 77 [.t 3]), Ca 8 78 [6, 7], Mv 4 8]
 .ret))
def if_ah9 : IFn := ⟨9, [.inl 4], ib_ah9, lcF []⟩
def ks_ah9 : List (List (Option Nat)) := [[none]]
def gf_ah9 (a0 : Repo) (a1 : Str) : Option Int := (gf_br9 a0.heads a1).bind fun x3 => some (x3)
def c_ah9 : Con := ⟨Repo × Str, Int, 89, fun a => [.agg [.ro (List.map (eCommit false) a.1.commits), .ro (List.map eHead a.1.heads)], .v (.string a.2)], fun a => gf_ah9 a.1 a.2, fun a r => ⟨[(false, [.v (.int .i64 r)])], []⟩, fun a => []⟩
/-! (impl.Repo).version -/
def ib_ak9 : IC :=
 (Rs [Io 2 (.box 210 [some 115, some 130] (.t 0)), Kb 4 false]
 (Rs [Mv 5 1, Fa 6 0 2, Ld 7 1 6, Ln 8 7, Bk 9 .sub 8 1, Io 10 (.call 76 [(false, .t 5), (false, .c (.int .i64 0)), (false, .t 9)]), Mv 4 10]
 .ret))
def if_ak9 : IFn := ⟨11, [.inl 4], ib_ak9, lcF []⟩
def ks_ak9 : List (List (Option Nat)) := [[none]]
def gf_ak9 (a0 : Repo) (a1 : Int) : Option Bool := (gf_be9 a1 0 (IntKind.i64.wrap ((a0.commits.length : Int) - 1))).bind fun x2 => some (x2)
def c_ak9 : Con := ⟨Repo × Int, Bool, 90, fun a => [.agg [.ro (List.map (eCommit false) a.1.commits), .ro (List.map eHead a.1.heads)], .v (.int .i64 a.2)], fun a => gf_ak9 a.1 a.2, fun a r => ⟨[(false, [.v (.bool r)])], []⟩, fun a => []⟩
/-! impl.cloneShape -/
def ib_az9 : IC :=
 (Rs [Io 1 (.box 226 [none, some 66] (.t 0)), Io 2 (.alloc 226 [.v (.int .i64 0), .sl true 66 []])]
 (.seq (.drw [Fa 3 0 1, Ld 4 1 3, Io 5 (.lit 66 [none, none] [.v (.int .i64 0), .v (.int .i64 0)] 0 []), Fa 6 1 1, Ld 7 1 6, Io 8 (.app 66 false (.t 5) (.t 7)), Io 9 (.build [.v (.int .i64 0), .nil] [(0, 1, .t 4), (1, 1, .t 8)]), Sv [none, some 66] 2 9] [(1, 2), (1, 4), (2, 4), (1, 5)])
 .ret))
def if_az9 : IFn := ⟨10, [.inr (2, 2)], ib_az9, lcF []⟩
def ks_az9 : List (List (Option Nat)) := [[none, some 66]]
def gf_az9 (a0 : Shape) : Option Shape := if fits ([] ++ a0.pts).length = true then some ((⟨a0.kind, ([] ++ a0.pts)⟩ : Shape)) else none
def c_az9 : Con := ⟨Shape, Shape, 91, fun a => [.agg [.v (.int .i64 a.kind), .ro (List.map ePt a.pts)]], fun a => gf_az9 a, fun a r => ⟨[(true, eShape true r)], []⟩, fun a => []⟩
/-! impl.cloneFeat -/
def ib_ax9 : IC :=
 (Rs [Io 1 (.box 100 [none, none, some 66, some 82] (.t 0)), Io 2 (.alloc 100 [.v (.string ⟨#[]⟩), .v (.int .i64 0), .sl true 66 [], .sl true 82 []])]
 (.seq (.drw [Fa 3 0 1, Ld 4 1 3, Fa 5 1 1, La 6 2 5, Ca 7 91 [6], Io 8 (.lit 82 [none, none] [.v (.string ⟨#[]⟩), .v (.string ⟨#[]⟩)] 0 []), Fa 9 3 1, Ld 10 1 9, Io 11 (.app 82 false (.t 8) (.t 10)), Io 12 (.build [.v (.string ⟨#[]⟩), .v (.int .i64 0), .nil, .nil] [(0, 1, .t 4), (1, 2, .t 7), (3, 1, .t 11)]), Sv [none, none, some 66, some 82] 2 12] [(1, 3), (1, 4), (1, 5), (3, 5), (4, 5), (1, 7), (3, 7), (4, 7), (5, 7), (1, 8)])
 .ret))
def if_ax9 : IFn := ⟨13, [.inr (2, 4)], ib_ax9, lcF []⟩
def ks_ax9 : List (List (Option Nat)) := [[none, none, some 66, some 82]]
def gf_ax9 (a0 : Feat) : Option Feat := (gf_az9 a0.shape).bind fun x3 => if fits ([] ++ a0.tags).length = true then some ((⟨a0.id, x3, ([] ++ a0.tags)⟩ : Feat)) else none
def c_ax9 : Con := ⟨Feat, Feat, 92, fun a => [.agg [.v (.string a.id), .v (.int .i64 a.shape.kind), .ro (List.map ePt a.shape.pts), .ro (List.map eTag a.tags)]], fun a => gf_ax9 a, fun a r => ⟨[(true, eFeat true r)], []⟩, fun a => []⟩
/-! impl.cloneSheet -/
def ib_ba9 : IC :=
 (Rs [Io 2 (.mv (.c (.slice none 0 0)))]
 (Rs [Io 6 (.lit 100 [none, none, some 66, some 82] [.v (.string ⟨#[]⟩), .v (.int .i64 0), .sl true 66 [], .sl true 82 []] 0 []), Mv 3 6]
 (.seq (Rs [Mv 7 0, Ln 8 7, Ki 9 0]
 (blkC 0 (.loop (Rs [Bb 10 .lss 9 8]
 (.seq (Ct 10 .skip
 (.exit 0))
 (.seq (.block 1 (Rs [Ia 11 4 7 9, La 12 4 11, Io 5 (.alloc 100 [.v (.string ⟨#[]⟩), .v (.int .i64 0), .sl true 66 [], .sl true 82 []]), Sv [none, none, some 66, some 82] 5 12]
 (.reg [Mv 13 3, La 14 4 5, Ca 15 92 [14], Io 16 (.lit 100 [none, none, some 66, some 82] [.v (.string ⟨#[]⟩), .v (.int .i64 0), .sl true 66 [], .sl true 82 []] 1 [(0, .t 15)]), Io 17 (.app 100 true (.t 13) (.t 16)), Mv 3 17])))
 (.reg [Bk 18 .add 9 1, Mv 9 18])))))))
 (Rs [Mv 19 3, Mv 2 19]
 .ret))))
def if_ba9 : IFn := ⟨20, [.inl 2], ib_ba9, lcF []⟩
def ks_ba9 : List (List (Option Nat)) := [[some 100]]
def gl_ba9_1 : List Feat → Nat → (List Feat) → Option (List Feat)
 | [], k52, v49 => some v49
 | x53 :: l54, k52, v49 => (gf_ax9 x53).bind fun x62 => if fits (v49 ++ ([x62] : (List Feat))).length = true then gl_ba9_1 l54 (k52 + 1) (v49 ++ ([x62] : (List Feat))) else none
def gf_ba9 (a0 : (List Feat)) : Option (List Feat) := if fits a0.length = true then ((gl_ba9_1 a0 0 []).bind fun q47 => some (q47)) else none
def c_ba9 : Con := ⟨(List Feat), (List Feat), 93, fun a => [.ro (List.map (eFeat false) a)], fun a => gf_ba9 a, fun a r => ⟨[(false, [sl true 100 (List.map (eFeat true) r)])], []⟩, fun a => []⟩
/-! impl.cloneCommit -/
def ib_aw9 : IC :=
 (Rs [Io 1 (.box 115 [some 17, some 100, none] (.t 0)), Io 2 (.alloc 115 [.sl true 17 [], .sl true 100 [], .v (.string ⟨#[]⟩)])]
 (.seq (.drw [Io 3 (.lit 17 [none] [.v (.int .i64 0)] 0 []), Fa 4 0 1, Ld 5 1 4, Io 6 (.app 17 false (.t 3) (.t 5)), Fa 7 1 1, Ld 8 1 7, Ca 9 93 [8], Fa 10 2 1, Ld 11 1 10, Io 12 (.build [.nil, .nil, .v (.string ⟨#[]⟩)] [(0, 1, .t 6), (1, 1, .t 9), (2, 1, .t 11)]), Sv [some 17, some 100, none] 2 12] [(0, 2), (0, 5), (2, 5), (3, 5), (0, 8), (2, 8), (3, 8), (5, 8), (6, 8)])
 .ret))
def if_aw9 : IFn := ⟨13, [.inr (2, 3)], ib_aw9, lcF []⟩
def ks_aw9 : List (List (Option Nat)) := [[some 17, some 100, none]]
def gf_aw9 (a0 : Commit) : Option Commit := if fits ([] ++ a0.up).length = true then (gf_ba9 a0.sheet).bind fun x7 => some ((⟨([] ++ a0.up), x7, a0.note⟩ : Commit)) else none
def c_aw9 : Con := ⟨Commit, Commit, 94, fun a => [.agg [.ro (List.map eInt a.up), .ro (List.map (eFeat false) a.sheet), .v (.string a.note)]], fun a => gf_aw9 a, fun a r => ⟨[(true, eCommit true r)], []⟩, fun a => []⟩
/-! impl.RepoOk -/
def ib_ad9 : IC :=
 (Rs [Io 1 (.box 210 [some 115, some 130] (.t 0)), Kb 2 false]
 (.seq (Rs [Fa 9 0 1, Ld 10 1 9, Ln 11 10, Io 12 (.call 76 [(false, .t 11), (false, .c (.int .i64 1)), (false, .c (.int .i64 14))]), Nt 13 12, Mv 14 13, Gf 14 (Fa 15 1 1), Gf 14 (Ld 16 1 15), Gf 14 (Ln 17 16), Gf 14 (Io 18 (.call 76 [(false, .t 17), (false, .c (.int .i64 1)), (false, .c (.int .i64 4))])), Gf 14 (Nt 19 18), Pk 20 14 19]
 (Ct 20 (Rs [Kb 2 false]
 .ret)
 .skip))
 (.seq (Rs [Fa 21 0 1, Ld 22 1 21, Ln 23 22, Ki 24 0]
 (blkC 0 (.loop (Rs [Bb 25 .lss 24 23]
 (.seq (Ct 25 .skip
 (.exit 0))
 (.seq (.block 1 (Rs [Mv 26 24, Ia 27 3 22 24, La 28 3 27, Io 4 (.alloc 115 [.sl true 17 [], .sl true 100 [], .v (.string ⟨#[]⟩)]), Mv 3 26, Sv [some 17, some 100, none] 4 28]
 (.seq (Rs [Fa 29 1 4, Ld 30 1 29, Ca 31 86 [30], Nt 32 31, Mv 33 32, Gf 33 (Fa 34 2 4), Gf 33 (Ld 35 1 34), Gf 33 (Ca 36 80 [35]), Gf 33 (Nt 37 36), Pk 38 33 37, Mv 39 38, Gf 39 (La 40 2 1), Gf 39 (La 41 3 4), Gf 39 (Ca 42 87 [40, 41]), Gf 39 (Mv 43 3), Gf 39 (Bb 44 .neq 42 43), Pk 45 39 44, Mv 46 45, Gf 46 (Mv 47 3), Gf 46 (Bk 48 .eql 47 0), Gf 46 (Fa 49 0 4), Gf 46 (Ld 50 1 49), Gf 46 (Ln 51 50), Gf 46 (Bk 52 .eql 51 0), Gf 46 (Io 53 (.eqs true false [1] (.t 48) (.t 52))), Pk 54 46 53, Mv 55 54, Gf 55 (Fa 56 0 4), Gf 55 (Ld 57 1 56), Gf 55 (Ln 58 57), Gf 55 (Bk 59 .gtr 58 2), Pk 60 55 59]
 (Ct 60 (Rs [Kb 2 false]
 .ret)
 .skip))
 (Rs [Fa 61 0 4, Ld 62 1 61, Ln 63 62, Ki 64 0]
 (blkC 2 (.loop (Rs [Bb 65 .lss 64 63]
 (.seq (Ct 65 .skip
 (.exit 2))
 (.seq (.block 3 (Rs [Mv 66 64, Ia 67 1 62 64, Ld 68 1 67, Mv 5 66, Mv 6 68]
 (Rs [Mv 69 6, Mv 70 3, Bk 71 .sub 70 1, Io 72 (.call 76 [(false, .t 69), (false, .c (.int .i64 0)), (false, .t 71)]), Nt 73 72, Mv 74 73, Gf 74 (Fa 75 0 4), Gf 74 (Ld 76 1 75), Gf 74 (Mv 77 5), Gf 74 (Io 78 (.sls 1 (.t 76) none (some (.t 77)))), Gf 74 (Mv 79 6), Gf 74 (Ca 80 88 [78, 79]), Pk 81 74 80]
 (Ct 81 (Rs [Kb 2 false]
 .ret)
 .skip))))
 (.reg [Bk 82 .add 64 1, Mv 64 82]))))))))))
 (.reg [Bk 83 .add 24 1, Mv 24 83])))))))
 (.seq (Rs [Fa 84 1 1, Ld 85 1 84, Ln 86 85, Ki 87 0]
 (blkC 4 (.loop (Rs [Bb 88 .lss 87 86]
 (.seq (Ct 88 .skip
 (.exit 4))
 (.seq (.block 5 (Rs [Mv 89 87, Ia 90 2 85 87, La 91 2 90, Io 8 (.alloc 130 [.v (.string ⟨#[]⟩), .v (.int .i64 0)]), Mv 7 89, Sv [none, none] 8 91]
 (Rs [Fa 92 0 8, Ld 93 1 92, Ca 94 80 [93], Nt 95 94, Mv 96 95, Gf 96 (La 97 2 1), Gf 96 (Fa 98 0 8), Gf 96 (Ld 99 1 98), Gf 96 (Ca 100 89 [97, 99]), Gf 96 (Mv 101 7), Gf 96 (Bb 102 .neq 100 101), Pk 103 96 102, Mv 104 103, Gf 104 (La 105 2 1), Gf 104 (Fa 106 1 8), Gf 104 (Ld 107 1 106), Gf 104 (Ca 108 90 [105, 107]), Gf 104 (Nt 109 108), Pk 110 104 109]
 (Ct 110 (Rs [Kb 2 false]
 .ret)
 .skip))))
 (.reg [Bk 111 .add 87 1, Mv 87 111])))))))
 (Rs [Kb 2 true]
 .ret)))))
def if_ad9 : IFn := ⟨112, [.inl 2], ib_ad9, lcF []⟩
def ks_ad9 : List (List (Option Nat)) := [[none]]
def gl_ad9_5 (k189 : Nat) (x190 : Commit) : List Int → Nat → Option (Bool ⊕ Unit)
 | [], k238 => some (.inr ())
 | x239 :: l240, k238 => (gf_be9 x239 0 (IntKind.i64.wrap ((k189 : Int) - 1))).bind fun x247 => if (!x247) = true then (some (.inl (false))) else ((slc x190.up 0 (k238 : Int)).bind fun x249 => (gf_bg9 x249 x239).bind fun x251 => if x251 = true then (some (.inl (false))) else (gl_ad9_5 k189 x190 l240 (k238 + 1) ))
def gl_ad9_4 (a0 : Repo) : List Commit → Nat → Option (Bool ⊕ Unit)
 | [], k189 => some (.inr ())
 | x190 :: l191, k189 => (gf_an9 x190.sheet).bind fun x199 => if (!x199) = true then (some (.inl (false))) else ((gf_au9 x190.note).bind fun x201 => if (!x201) = true then (some (.inl (false))) else ((gf_af9 a0 x190).bind fun x203 => if (x203 != (k189 : Int)) = true then (some (.inl (false))) else (if (!(((k189 : Int) == 0) == ((x190.up.length : Int) == 0))) = true then (some (.inl (false))) else (if (decide ((x190.up.length : Int) > 2)) = true then (some (.inl (false))) else (if fits x190.up.length = true then ((gl_ad9_5 k189 x190 x190.up 0 ).bind fun q => match q with | .inl r => some (.inl r) | .inr q234 => gl_ad9_4 a0 l191 (k189 + 1) ) else none)))))
def gl_ad9_6 (a0 : Repo) : List Head → Nat → Option (Bool ⊕ Unit)
 | [], k289 => some (.inr ())
 | x290 :: l291, k289 => (gf_au9 x290.name).bind fun x299 => if (!x299) = true then (some (.inl (false))) else ((gf_ah9 a0 x290.name).bind fun x301 => if (x301 != (k289 : Int)) = true then (some (.inl (false))) else ((gf_ak9 a0 x290.at_).bind fun x303 => if (!x303) = true then (some (.inl (false))) else (gl_ad9_6 a0 l291 (k289 + 1) )))
def gf_ad9 (a0 : Repo) : Option Bool := (gf_be9 (a0.commits.length : Int) 1 14).bind fun x2 => if (!x2) = true then (some (false)) else ((gf_be9 (a0.heads.length : Int) 1 4).bind fun x4 => if (!x4) = true then (some (false)) else (if fits a0.commits.length = true then ((gl_ad9_4 a0 a0.commits 0 ).bind fun q => match q with | .inl r => some r | .inr q186 => if fits a0.heads.length = true then ((gl_ad9_6 a0 a0.heads 0 ).bind fun q => match q with | .inl r => some r | .inr q286 => some (true)) else none) else none))
def c_ad9 : Con := ⟨Repo, Bool, 96, fun a => [.agg [.ro (List.map (eCommit false) a.commits), .ro (List.map eHead a.heads)]], fun a => gf_ad9 a, fun a r => ⟨[(false, [.v (.bool r)])], []⟩, fun a => []⟩
/-! (impl.Repo).past -/
def ib_aj9 : IC :=
 (Rs [Io 2 (.box 210 [some 115, some 130] (.t 0)), Io 4 (.mv (.c (.slice none 0 0)))]
 (Rs [Fa 9 0 2, Ld 10 1 9, Ln 11 10, Io 12 (.mks 33 [.v (.bool false)] (.t 11) (.t 11)), Mv 5 12]
 (Rs [Mv 13 5, Mv 14 1, Ia 15 1 13 14, Iz (.store [none] (.t 15) (.c (.bool true)))]
 (.seq (Rs [Mv 16 1, Mv 6 16]
 (blkC 0 (.loop (.seq (Rs [Mv 17 6, Bk 18 .geq 17 0]
 (Ct 18 .skip
 (.exit 0)))
 (.seq (.block 1 (Rs [Mv 21 5, Mv 22 6, Ia 23 1 21 22, Ld 24 1 23]
 (Ct 24 (Rs [Fa 25 0 2, Ld 26 1 25, Mv 27 6, Ia 28 3 26 27, Fa 29 0 28, Ld 30 1 29, Ln 31 30, Ki 32 0]
 (blkC 2 (.loop (Rs [Bb 33 .lss 32 31]
 (.seq (Ct 33 .skip
 (.exit 2))
 (.seq (.block 3 (Rs [Ia 34 1 30 32, Ld 35 1 34, Mv 8 35]
 (.reg [Mv 36 5, Mv 37 8, Ia 38 1 36 37, Iz (.store [none] (.t 38) (.c (.bool true)))])))
 (.reg [Bk 39 .add 32 1, Mv 32 39])))))))
 .skip)))
 (.reg [Mv 19 6, Bk 20 .sub 19 1, Mv 6 20]))))))
 (Rs [Mv 40 5, Mv 4 40]
 .ret)))))
def if_aj9 : IFn := ⟨41, [.inl 4], ib_aj9, lcF []⟩
def ks_aj9 : List (List (Option Nat)) := [[some 33]]
def gl_aj9_5 : List Int → Nat → (List Bool) → Option (List Bool)
 | [], k187, v184 => some v184
 | x188 :: l189, k187, v184 => (idx v184 x188).bind fun x196 => gl_aj9_5 l189 (k187 + 1) (List.set v184 x188.toNat true)
def gl_aj9_4 (a0 : Repo) : Nat → Int → (List Bool) → Option (List Bool)
 | 0, _, _ => none
 | n156 + 1, v151, v153 => if (decide (v151 ≥ 0)) = true then ((idx v153 v151).bind fun x157 => if x157 = true then ((idx a0.commits v151).bind fun x159 => if fits x159.up.length = true then ((gl_aj9_5 x159.up 0 v153).bind fun q181 => gl_aj9_4 a0 n156 (IntKind.i64.wrap (v151 - 1)) q181) else none) else (gl_aj9_4 a0 n156 (IntKind.i64.wrap (v151 - 1)) v153)) else (some v153)
def gf_aj9 (a0 : Repo) (a1 : Int) : Option (List Bool) := if (decide (0 ≤ (a0.commits.length : Int)) && fits ((a0.commits.length : Int)).toNat) = true then (idx (List.replicate ((a0.commits.length : Int)).toNat false) a1).bind fun x5 => (gl_aj9_4 a0 rounds a1 (List.set (List.replicate ((a0.commits.length : Int)).toNat false) a1.toNat true)).bind fun q150 => some (q150) else none
def c_aj9 : Con := ⟨Repo × Int, (List Bool), 97, fun a => [.agg [.ro (List.map (eCommit false) a.1.commits), .ro (List.map eHead a.1.heads)], .v (.int .i64 a.2)], fun a => gf_aj9 a.1 a.2, fun a r => ⟨[(false, [sl true 33 (List.map eBool r)])], []⟩, fun a => []⟩
/-! impl.cloneRepo -/
def ib_ay9 : IC :=
 (Rs [Io 1 (.box 210 [some 115, some 130] (.t 0)), Io 2 (.alloc 210 [.sl true 115 [], .sl true 130 []])]
 (Rs [Io 6 (.lit 115 [some 17, some 100, none] [.sl true 17 [], .sl true 100 [], .v (.string ⟨#[]⟩)] 0 []), Io 7 (.lit 130 [none, none] [.v (.string ⟨#[]⟩), .v (.int .i64 0)] 0 []), Fa 8 1 1, Ld 9 1 8, Io 10 (.app 130 false (.t 7) (.t 9)), Io 11 (.build [.nil, .nil] [(0, 1, .t 6), (1, 1, .t 10)]), Io 3 (.alloc 210 [.sl true 115 [], .sl true 130 []]), Sv [some 115, some 130] 3 11]
 (.seq (Rs [Fa 12 0 1, Ld 13 1 12, Ln 14 13, Ki 15 0]
 (blkC 0 (.loop (Rs [Bb 16 .lss 15 14]
 (.seq (Ct 16 .skip
 (.exit 0))
 (.seq (.block 1 (Rs [Ia 17 3 13 15, La 18 3 17, Io 5 (.alloc 115 [.sl true 17 [], .sl true 100 [], .v (.string ⟨#[]⟩)]), Sv [some 17, some 100, none] 5 18]
 (.drw [Fa 19 0 3, Ld 20 1 19, La 21 3 5, Ca 22 94 [21], Io 23 (.lit 115 [some 17, some 100, none] [.sl true 17 [], .sl true 100 [], .v (.string ⟨#[]⟩)] 1 [(0, .t 22)]), Io 24 (.app 115 true (.t 20) (.t 23)), Fa 25 0 3, Sv [some 115] 25 24] [(1, 2), (1, 3), (1, 4)])))
 (.reg [Bk 26 .add 15 1, Mv 15 26])))))))
 (Rs [La 27 2 3, Sv [some 115, some 130] 2 27]
 .ret))))
def if_ay9 : IFn := ⟨28, [.inr (2, 2)], ib_ay9, lcF []⟩
def ks_ay9 : List (List (Option Nat)) := [[some 115, some 130]]
def gl_ay9_1 : List Commit → Nat → (List Commit) → Option (List Commit)
 | [], k83, v77 => some v77
 | x84 :: l85, k83, v77 => (gf_aw9 x84).bind fun x93 => if fits (v77 ++ ([x93] : (List Commit))).length = true then gl_ay9_1 l85 (k83 + 1) (v77 ++ ([x93] : (List Commit))) else none
def gf_ay9 (a0 : Repo) : Option Repo := if fits ([] ++ a0.heads).length = true then if fits a0.commits.length = true then ((gl_ay9_1 a0.commits 0 []).bind fun q70 => some ((⟨q70, ([] ++ a0.heads)⟩ : Repo))) else none else none
def c_ay9 : Con := ⟨Repo, Repo, 150, fun a => [.agg [.ro (List.map (eCommit false) a.commits), .ro (List.map eHead a.heads)]], fun a => gf_ay9 a, fun a r => ⟨[(true, eRepo true r)], []⟩, fun a => []⟩
/-! spec.l10Same -/
def ib_ch9 : IC :=
 (Rs [Io 4 (.box 210 [some 115, some 130] (.t 0)), Io 6 (.box 210 [some 115, some 130] (.t 2)), Kb 8 false]
 (Rs [Fa 12 0 4, Ld 13 1 12, Mv 14 1, Ia 15 3 13 14, La 16 3 15, Io 9 (.alloc 115 [.sl true 17 [], .sl true 100 [], .v (.string ⟨#[]⟩)]), Sv [some 17, some 100, none] 9 16]
 (Rs [Fa 17 0 6, Ld 18 1 17, Mv 19 3, Ia 20 3 18 19, La 21 3 20, Io 10 (.alloc 115 [.sl true 17 [], .sl true 100 [], .v (.string ⟨#[]⟩)]), Sv [some 17, some 100, none] 10 21]
 (.seq (Rs [Fa 22 2 9, Ld 23 1 22, Fa 24 2 10, Ld 25 1 24, Bb 26 .neq 23 25, Mv 27 26, Gf 27 (Fa 28 0 9), Gf 27 (Ld 29 1 28), Gf 27 (Ln 30 29), Gf 27 (Fa 31 0 10), Gf 27 (Ld 32 1 31), Gf 27 (Ln 33 32), Gf 27 (Bb 34 .neq 30 33), Pk 35 27 34, Mv 36 35, Gf 36 (Fa 37 1 9), Gf 36 (Ld 38 1 37), Gf 36 (Fa 39 1 10), Gf 36 (Ld 40 1 39), Gf 36 (Ca 41 23 [38, 40]), Gf 36 (Nt 42 41), Pk 43 36 42]
 (Ct 43 (Rs [Kb 8 false]
 .ret)
 .skip))
 (.seq (Rs [Ki 11 0]
 (blkC 0 (.loop (.seq (Rs [Mv 44 11, Fa 45 0 9, Ld 46 1 45, Ln 47 46, Bb 48 .lss 44 47]
 (Ct 48 .skip
 (.exit 0)))
 (.seq (.block 1 (.seq (.drw [La 51 2 4, Fa 52 0 9, Ld 53 1 52, Mv 54 11, Ia 55 1 53 54, Ld 56 1 55, La 57 2 6, Fa 58 0 10, Ld 59 1 58, Mv 60 11, Ia 61 1 59 60, Ld 62 1 61, Ca 63 314 [51, 56, 57, 62], Nt 64 63] [(0, 2), (0, 5), (0, 6), (2, 6), (5, 6), (0, 8), (2, 8), (5, 8), (6, 8), (0, 11), (2, 11), (5, 11), (6, 11)])
 (Ct 64 (Rs [Kb 8 false]
 .ret)
 .skip)))
 (.reg [Mv 49 11, Bk 50 .add 49 1, Mv 11 50]))))))
 (Rs [Kb 8 true]
 .ret))))))
def if_ch9 : IFn := ⟨65, [.inl 8], ib_ch9, lcF []⟩
def ks_ch9 : List (List (Option Nat)) := [[none]]
def gl_ch9_1 (x6 : Commit) (rec : Repo → Int → Repo → Int → Option Bool) (a0 : Repo) (a2 : Repo) : List Int → Nat → Option (Bool ⊕ Unit)
 | [], k44 => some (.inr ())
 | x45 :: l46, k44 => (idx x6.up (k44 : Int)).bind fun x53 => (rec a0 x45 a2 x53).bind fun x55 => if (!x55) = true then (some (.inl (false))) else (gl_ch9_1 x6 rec a0 a2 l46 (k44 + 1) )
def gb_ch9 (rec : Repo → Int → Repo → Int → Option Bool) (a0 : Repo) (a1 : Int) (a2 : Repo) (a3 : Int) : Option Bool := (idx a0.commits a1).bind fun x3 => (idx a2.commits a3).bind fun x6 => if (!seq x3.note x6.note) = true then (some (false)) else (if ((x3.up.length : Int) != (x6.up.length : Int)) = true then (some (false)) else ((gf_cd9 x3.sheet x6.sheet).bind fun x9 => if (!x9) = true then (some (false)) else (if fits x3.up.length = true then ((gl_ch9_1 x6 rec a0 a2 x3.up 0 ).bind fun q => match q with | .inl r => some r | .inr q38 => some (true)) else none)))
def gf_ch9 : Nat → Repo → Int → Repo → Int → Option Bool
 | 0 => fun _ _ _ _ => none
 | fuel + 1 => gb_ch9 (gf_ch9 fuel)
def c_ch9 (fuel : Nat) : Con := ⟨Repo × Int × Repo × Int, Bool, 314, fun a => [.agg [.ro (List.map (eCommit false) a.1.commits), .ro (List.map eHead a.1.heads)], .v (.int .i64 a.2.1), .agg [.ro (List.map (eCommit false) a.2.2.1.commits), .ro (List.map eHead a.2.2.1.heads)], .v (.int .i64 a.2.2.2)], fun a => gf_ch9 fuel a.1 a.2.1 a.2.2.1 a.2.2.2, fun a r => ⟨[(false, [.v (.bool r)])], []⟩, fun a => []⟩
/-! impl.alike -/
def ib_av9 : IC :=
 (Rs [Io 2 (.box 210 [some 115, some 130] (.t 0)), Io 3 (.box 210 [some 115, some 130] (.t 1)), Io 4 (.mv (.c (.slice none 0 0)))]
 (Rs [Fa 12 0 2, Ld 13 1 12, Ln 14 13, Io 15 (.mks 241 [.sl true 33 []] (.t 14) (.t 14)), Mv 5 15]
 (.seq (Rs [Fa 16 0 2, Ld 17 1 16, Ln 18 17, Ki 19 0]
 (blkC 0 (.loop (Rs [Bb 20 .lss 19 18]
 (.seq (Ct 20 .skip
 (.exit 0))
 (.seq (.block 1 (Rs [Mv 21 19, Ia 22 3 17 19, La 23 3 22, Io 7 (.alloc 115 [.sl true 17 [], .sl true 100 [], .v (.string ⟨#[]⟩)]), Mv 6 21, Sv [some 17, some 100, none] 7 23]
 (Rs [Mv 24 5, Mv 25 6, Fa 26 0 3, Ld 27 1 26, Ln 28 27, Io 29 (.mks 33 [.v (.bool false)] (.t 28) (.t 28)), Ia 30 1 24 25, Sv [some 33] 30 29]
 (Rs [Fa 31 0 3, Ld 32 1 31, Ln 33 32, Ki 34 0]
 (blkC 2 (.loop (Rs [Bb 35 .lss 34 33]
 (.seq (Ct 35 .skip
 (.exit 2))
 (.seq (.block 3 (Rs [Mv 36 34, Ia 37 3 32 34, La 38 3 37, Io 9 (.alloc 115 [.sl true 17 [], .sl true 100 [], .v (.string ⟨#[]⟩)]), Mv 8 36, Sv [some 17, some 100, none] 9 38]
 (Rs [Fa 39 2 7, Ld 40 1 39, Fa 41 2 9, Ld 42 1 41, Bb 43 .eql 40 42, Mv 44 43, Gt 44 (Fa 45 1 7), Gt 44 (Ld 46 1 45), Gt 44 (Fa 47 1 9), Gt 44 (Ld 48 1 47), Gt 44 (Ca 49 220 [46, 48]), Io 50 (.pick (.t 44) (.t 49) (.c (.bool false))), Mv 51 50, Gt 51 (Fa 52 0 7), Gt 51 (Ld 53 1 52), Gt 51 (Ln 54 53), Gt 51 (Fa 55 0 9), Gt 51 (Ld 56 1 55), Gt 51 (Ln 57 56), Gt 51 (Bb 58 .eql 54 57), Io 59 (.pick (.t 51) (.t 58) (.c (.bool false))), Mv 10 59]
 (.seq (Rs [Ki 11 0]
 (blkC 4 (.loop (.seq (Rs [Mv 60 11, Fa 61 0 7, Ld 62 1 61, Ln 63 62, Bb 64 .lss 60 63, Mv 65 64, Gt 65 (Mv 66 10), Io 67 (.pick (.t 65) (.t 66) (.c (.bool false)))]
 (Ct 67 .skip
 (.exit 4)))
 (.seq (.block 5 (.drw [Mv 70 5, Fa 71 0 7, Ld 72 1 71, Mv 73 11, Ia 74 1 72 73, Ld 75 1 74, Ia 76 1 70 75, Ld 77 1 76, Fa 78 0 9, Ld 79 1 78, Mv 80 11, Ia 81 1 79 80, Ld 82 1 81, Ia 83 1 77 82, Io 84 (.shut (.t 76) (.load 1 false (.t 83))), Mv 10 84] [(2, 9), (5, 9), (7, 9), (2, 12), (5, 12), (7, 12)]))
 (.reg [Mv 68 11, Bk 69 .add 68 1, Mv 11 69]))))))
 (.reg [Mv 85 5, Mv 86 6, Ia 87 1 85 86, Ld 88 1 87, Mv 89 8, Mv 90 10, Ia 91 1 88 89, Iz (.shut (.t 87) (.store [none] (.t 91) (.t 90)))])))))
 (.reg [Bk 92 .add 34 1, Mv 34 92]))))))))))
 (.reg [Bk 93 .add 19 1, Mv 19 93])))))))
 (Rs [Mv 94 5, Mv 4 94]
 .ret))))
def if_av9 : IFn := ⟨95, [.inl 4], ib_av9, lcF []⟩
def ks_av9 : List (List (Option Nat)) := [[some 241]]
def gl_av9_51 (v2136 : (List (List Bool))) (x2141 : Commit) : List Int → Nat → Bool → Bool → Option (Bool × Bool)
 | [], k2204, v2196, v2198 => some (v2196, v2198)
 | x2205 :: l2206, k2204, v2196, v2198 => if v2196 = true then ((idx v2136 x2205).bind fun x2213 => (idx x2141.up (k2204 : Int)).bind fun x2217 => (idx x2213 x2217).bind fun x2219 => gl_av9_51 v2136 x2141 l2206 (k2204 + 1) x2219 v2198) else (some (false, v2198))
def gl_av9_52 (x1713 : Commit) : Nat → Option Unit
 | 0 => none
 | n2245 + 1 => if (decide (0 < (x1713.up.length : Int))) = true then (some ()) else (some ())
def gl_av9_53 (x1713 : Commit) : Nat → Option Unit
 | 0 => none
 | n2268 + 1 => if (decide (0 < (x1713.up.length : Int))) = true then (some ()) else (some ())
def gl_av9_50 (x1713 : Commit) (k1712 : Nat) : List Commit → Nat → (List (List Bool)) → Option (List (List Bool))
 | [], k2140, v2136 => some v2136
 | x2141 :: l2142, k2140, v2136 => if (seq x1713.note x2141.note) = true then ((gf_ao9 x1713.sheet x2141.sheet).bind fun x2150 => if x2150 = true then (if fits x1713.up.length = true then ((gl_av9_51 v2136 x2141 x1713.up 0 ((x1713.up.length : Int) == (x2141.up.length : Int)) ((x1713.up.length : Int) == (x2141.up.length : Int))).bind fun q2195 => (idx v2136 (k1712 : Int)).bind fun x2228 => (idx x2228 (k2140 : Int)).bind fun x2232 => gl_av9_50 x1713 k1712 l2142 (k2140 + 1) (List.set v2136 (k1712 : Int).toNat (List.set x2228 (k2140 : Int).toNat q2195.1))) else none) else ((gl_av9_52 x1713 rounds ).bind fun q2239 => (idx v2136 (k1712 : Int)).bind fun x2251 => (idx x2251 (k2140 : Int)).bind fun x2255 => gl_av9_50 x1713 k1712 l2142 (k2140 + 1) (List.set v2136 (k1712 : Int).toNat (List.set x2251 (k2140 : Int).toNat false)))) else ((gl_av9_53 x1713 rounds ).bind fun q2262 => (idx v2136 (k1712 : Int)).bind fun x2273 => (idx x2273 (k2140 : Int)).bind fun x2277 => gl_av9_50 x1713 k1712 l2142 (k2140 + 1) (List.set v2136 (k1712 : Int).toNat (List.set x2273 (k2140 : Int).toNat false)))
def gl_av9_40 (a1 : Repo) : List Commit → Nat → (List (List Bool)) → Option (List (List Bool))
 | [], k1712, v1709 => some v1709
 | x1713 :: l1714, k1712, v1709 => if (decide (0 ≤ (a1.commits.length : Int)) && fits ((a1.commits.length : Int)).toNat) = true then (idx v1709 (k1712 : Int)).bind fun x1725 => if fits a1.commits.length = true then ((gl_av9_50 x1713 k1712 a1.commits 0 (List.set v1709 (k1712 : Int).toNat (List.replicate ((a1.commits.length : Int)).toNat false))).bind fun q2133 => gl_av9_40 a1 l1714 (k1712 + 1) q2133) else none else none
def gf_av9 (a0 : Repo) (a1 : Repo) : Option (List (List Bool)) := if (decide (0 ≤ (a0.commits.length : Int)) && fits ((a0.commits.length : Int)).toNat) = true then if fits a0.commits.length = true then ((gl_av9_40 a1 a0.commits 0 (List.replicate ((a0.commits.length : Int)).toNat ([] : (List Bool)))).bind fun q1706 => some (q1706)) else none else none
def c_av9 : Con := ⟨Repo × Repo, (List (List Bool)), 315, fun a => [.agg [.ro (List.map (eCommit false) a.1.commits), .ro (List.map eHead a.1.heads)], .agg [.ro (List.map (eCommit false) a.2.commits), .ro (List.map eHead a.2.heads)]], fun a => gf_av9 a.1 a.2, fun a r => ⟨[(false, [sl true 241 (List.map (eSl true 33 eBool) r)])], []⟩, fun a => []⟩
/-! impl.SyncSame -/
def ib_as9 : IC :=
 (Rs [Io 4 (.box 210 [some 115, some 130] (.t 0)), Io 6 (.box 210 [some 115, some 130] (.t 2)), Kb 8 false]
 (Rs [La 9 2 4, Ca 10 96 [9], Mv 11 10, Gt 11 (La 12 2 6), Gt 11 (Ca 13 96 [12]), Io 14 (.pick (.t 11) (.t 13) (.c (.bool false))), Mv 15 14, Gt 15 (La 16 2 4), Gt 15 (Mv 17 1), Gt 15 (Ca 18 90 [16, 17]), Io 19 (.pick (.t 15) (.t 18) (.c (.bool false))), Mv 20 19, Gt 20 (La 21 2 6), Gt 20 (Mv 22 3), Gt 20 (Ca 23 90 [21, 22]), Io 24 (.pick (.t 20) (.t 23) (.c (.bool false))), Mv 25 24, Gt 25 (La 26 2 4), Gt 25 (La 27 2 6), Gt 25 (Ca 28 315 [26, 27]), Gt 25 (Mv 29 1), Gt 25 (Ia 30 1 28 29), Gt 25 (Ld 31 1 30), Gt 25 (Mv 32 3), Gt 25 (Ia 33 1 31 32), Gt 25 (Io 34 (.shut (.t 30) (.load 1 false (.t 33)))), Io 35 (.pick (.t 25) (.t 34) (.c (.bool false))), Mv 8 35]
 .ret))
def if_as9 : IFn := ⟨36, [.inl 8], ib_as9, lcF []⟩
def ks_as9 : List (List (Option Nat)) := [[none]]
def gf_as9 (a0 : Repo) (a1 : Int) (a2 : Repo) (a3 : Int) : Option Bool := (gf_ad9 a0).bind fun x3 => if x3 = true then ((gf_ad9 a2).bind fun x5 => if x5 = true then ((gf_ak9 a0 a1).bind fun x7 => if x7 = true then ((gf_ak9 a2 a3).bind fun x9 => if x9 = true then ((gf_av9 a0 a2).bind fun x11 => (idx x11 a1).bind fun x15 => (idx x15 a3).bind fun x19 => some (x19)) else (some (false))) else (some (false))) else (some (false))) else (some (false))
def c_as9 : Con := ⟨Repo × Int × Repo × Int, Bool, 209, fun a => [.agg [.ro (List.map (eCommit false) a.1.commits), .ro (List.map eHead a.1.heads)], .v (.int .i64 a.2.1), .agg [.ro (List.map (eCommit false) a.2.2.1.commits), .ro (List.map eHead a.2.2.1.heads)], .v (.int .i64 a.2.2.2)], fun a => gf_as9 a.1 a.2.1 a.2.2.1 a.2.2.2, fun a r => ⟨[(false, [.v (.bool r)])], []⟩, fun a => []⟩
/-! spec.l12Open -/
def ib_cj9 : IC :=
 (Rs [Io 2 (.mv (.c (.pointer none)))]
 (.seq (Rs [Mv 3 0, Ln 4 3, Bk 5 .gtr 4 2000]
 (Ct 5 (.reg [Mv 6 0, Io 7 (.sls 1 (.t 6) none (some (.c (.int .i64 2000)))), Mv 0 7])
 .skip))
 (Rs [Mv 8 0, Io 9 (.build [.nil, .v (.int .i64 0)] [(0, 1, .t 8)]), Io 10 (.box 290 [some 257, none] (.t 9)), Mv 2 10]
 .ret)))
def if_cj9 : IFn := ⟨11, [.inl 2], ib_cj9, lcF []⟩
def ks_cj9 : List (List (Option Nat)) := [[none]]
def gf_cj9 (a0 : (List UInt8)) : Option Rd := if (decide ((a0.length : Int) > 2000)) = true then ((slc a0 0 2000).bind fun x1 => some ((⟨x1, 0⟩ : Rd))) else (some ((⟨a0, 0⟩ : Rd)))
def c_cj9 : Con := ⟨(List UInt8) × Option Addr × Nat, Rd, 316, fun a => [.raw a.2.1 a.2.2 (List.map eU8 a.1)], fun a => gf_cj9 a.1, fun a r => ⟨[(false, [.bx 290 [.rw a.2.1 a.2.2 (List.map eU8 r.b), .v (.int .i64 r.p)]])], []⟩, fun a => []⟩
/-! (*spec.l12Rd).pick -/
def ib_cm9 : IC :=
 (Rs [Ki 4 0]
 (Rs [Mv 7 0, Mv 8 0, Io 9 (.nilck (.t 8)), Fa 10 1 9, Ld 11 1 10, Bk 12 .add 11 1, Io 13 (.nilck (.t 7)), Fa 14 1 13, Sv [none] 14 12]
 (.seq (Rs [Mv 15 1, Bk 16 .lss 15 1, Mv 17 16, Gf 17 (Mv 18 0), Gf 17 (Io 19 (.nilck (.t 18))), Gf 17 (Fa 20 0 19), Gf 17 (Ld 21 1 20), Gf 17 (Ln 22 21), Gf 17 (Bk 23 .eql 22 0), Pk 24 17 23]
 (Ct 24 (Rs [Ki 4 0]
 .ret)
 .skip))
 (Rs [Mv 25 0, Io 26 (.nilck (.t 25)), Fa 27 1 26, Ld 28 1 27, Bk 29 .sub 28 1, Mv 5 29]
 (.seq (Rs [Mv 30 5, Mv 31 0, Io 32 (.nilck (.t 31)), Fa 33 0 32, Ld 34 1 33, Ln 35 34, Bb 36 .lss 30 35]
 (Ct 36 (Rs [Mv 37 0, Io 38 (.nilck (.t 37)), Fa 39 0 38, Ld 40 1 39, Mv 41 5, Ia 42 1 40 41, Ld 43 1 42, Io 44 (.conv .i64 (.t 43)), Mv 45 1, Bb 46 .rem 44 45, Mv 4 46]
 .ret)
 .skip))
 (.seq (.drw [Mv 47 0, Io 48 (.nilck (.t 47)), Fa 49 0 48, Ld 50 1 49, Mv 51 5, Mv 52 0, Io 53 (.nilck (.t 52)), Fa 54 0 53, Ld 55 1 54, Ln 56 55, Bb 57 .rem 51 56, Ia 58 1 50 57, Ld 59 1 58, Io 60 (.conv .i64 (.t 59)), Bk 61 .mul 60 131, Mv 62 0, Io 63 (.nilck (.t 62)), Fa 64 0 63, Ld 65 1 64, Mv 66 5, Bk 67 .mul 66 7, Bk 68 .add 67 3, Mv 69 0, Io 70 (.nilck (.t 69)), Fa 71 0 70, Ld 72 1 71, Ln 73 72, Bb 74 .rem 68 73, Ia 75 1 65 74, Ld 76 1 75, Io 77 (.conv .i64 (.t 76)), Bk 78 .mul 77 1117, Bb 79 .add 61 78, Mv 80 5, Bk 81 .mul 80 29, Bb 82 .add 79 81, Mv 83 5, Mv 84 0, Io 85 (.nilck (.t 84)), Fa 86 0 85, Ld 87 1 86, Ln 88 87, Bb 89 .quo 83 88, Bk 90 .mul 89 53, Bb 91 .add 82 90, Mv 6 91] [(3, 8), (3, 18), (8, 18), (12, 18), (3, 25), (8, 25), (12, 25), (18, 25), (3, 29), (8, 29), (12, 29), (3, 40), (8, 40), (12, 40), (18, 40), (25, 40), (29, 40)])
 (Rs [Mv 92 6, Mv 93 6, Bk 94 .quo 93 64, Bb 95 .xor 92 94, Mv 6 95]
 (Rs [Mv 96 6, Mv 97 1, Bb 98 .rem 96 97, Mv 4 98]
 .ret))))))))
def if_cm9 : IFn := ⟨99, [.inl 4], ib_cm9, lcF []⟩
def ks_cm9 : List (List (Option Nat)) := [[none]]
def gf_cm9 (a0 : Rd) (a1 : Int) : Option (Int × Int) := if (decide (a1 < 1)) = true then (some (0, (IntKind.i64.wrap (a0.p + 1)))) else (if ((a0.b.length : Int) == 0) = true then (some (0, (IntKind.i64.wrap (a0.p + 1)))) else (if (decide ((IntKind.i64.wrap ((IntKind.i64.wrap (a0.p + 1)) - 1)) < (a0.b.length : Int))) = true then ((idx a0.b (IntKind.i64.wrap ((IntKind.i64.wrap (a0.p + 1)) - 1))).bind fun x1 => (imod (IntKind.i64.wrap (x1.toNat : Int)) a1).bind fun x3 => some (x3, (IntKind.i64.wrap (a0.p + 1)))) else ((imod (IntKind.i64.wrap ((IntKind.i64.wrap (a0.p + 1)) - 1)) (a0.b.length : Int)).bind fun x5 => (idx a0.b x5).bind fun x7 => (imod (IntKind.i64.wrap ((IntKind.i64.wrap ((IntKind.i64.wrap ((IntKind.i64.wrap (a0.p + 1)) - 1)) * 7)) + 3)) (a0.b.length : Int)).bind fun x9 => (idx a0.b x9).bind fun x11 => (idiv (IntKind.i64.wrap ((IntKind.i64.wrap (a0.p + 1)) - 1)) (a0.b.length : Int)).bind fun x13 => (imod (ixor (IntKind.i64.wrap ((IntKind.i64.wrap ((IntKind.i64.wrap ((IntKind.i64.wrap ((IntKind.i64.wrap (x7.toNat : Int)) * 131)) + (IntKind.i64.wrap ((IntKind.i64.wrap (x11.toNat : Int)) * 1117)))) + (IntKind.i64.wrap ((IntKind.i64.wrap ((IntKind.i64.wrap (a0.p + 1)) - 1)) * 29)))) + (IntKind.i64.wrap (x13 * 53)))) (IntKind.i64.wrap (Int.tdiv (IntKind.i64.wrap ((IntKind.i64.wrap ((IntKind.i64.wrap ((IntKind.i64.wrap ((IntKind.i64.wrap (x7.toNat : Int)) * 131)) + (IntKind.i64.wrap ((IntKind.i64.wrap (x11.toNat : Int)) * 1117)))) + (IntKind.i64.wrap ((IntKind.i64.wrap ((IntKind.i64.wrap (a0.p + 1)) - 1)) * 29)))) + (IntKind.i64.wrap (x13 * 53)))) 64))) a1).bind fun x15 => some (x15, (IntKind.i64.wrap (a0.p + 1))))))
def c_cm9 : Con := ⟨Rd × Int × Option Addr × Nat, (Int × Int), 321, fun a => [.pio 0 290, .v (.int .i64 a.2.1)], fun a => gf_cm9 a.1 a.2.1, fun a r => ⟨[(false, [.v (.int .i64 r.1)])], [some [[.v (.slice a.2.2.1 (List.map eU8 a.1.b).length a.2.2.2), .v (.int .i64 r.2)]]]⟩, fun a => [(true, 290, [[.rw a.2.2.1 a.2.2.2 (List.map eU8 a.1.b), .v (.int .i64 a.1.p)]])]⟩
/-! (*spec.l12Rd).of -/
def ib_cl9 : IC :=
 (Rs [Io 4 (.mv (.c (.string ⟨#[]⟩)))]
 (Rs [Mv 5 1, Mv 6 0, Mv 7 1, Ln 8 7, Io 9 (.call 321 [(true, .t 6), (false, .t 8)]), Ia 10 1 5 9, Ld 11 1 10, Mv 4 11]
 .ret))
def if_cl9 : IFn := ⟨12, [.inl 4], ib_cl9, lcF []⟩
def ks_cl9 : List (List (Option Nat)) := [[none]]
def gf_cl9 (a0 : Rd) (a1 : (List Str)) : Option (Str × Int) := (gf_cm9 a0 (a1.length : Int)).bind fun x1 => (idx a1 x1.1).bind fun x3 => some (x3, x1.2)
def c_cl9 : Con := ⟨Rd × (List Str) × Option Addr × Nat, (Str × Int), 326, fun a => [.pio 0 290, .ro (List.map eStr a.2.1)], fun a => gf_cl9 a.1 a.2.1, fun a r => ⟨[(false, [.v (.string r.1)])], [some [[.v (.slice a.2.2.1 (List.map eU8 a.1.b).length a.2.2.2), .v (.int .i64 r.2)]]]⟩, fun a => [(true, 290, [[.rw a.2.2.1 a.2.2.2 (List.map eU8 a.1.b), .v (.int .i64 a.1.p)]])]⟩
/-! spec.l2Id -/
def ib_cy9 : IC :=
 (Rs [Io 2 (.mv (.c (.string ⟨#[]⟩)))]
 (Rs [Mv 3 0, Io 4 (.lit 49 [none] [.v (.string ⟨#[]⟩)] 5 [(0, .c (.string ⟨#[97]⟩)), (1, .c (.string ⟨#[98]⟩)), (2, .c (.string ⟨#[99]⟩)), (3, .c (.string ⟨#[100]⟩)), (4, .c (.string ⟨#[101]⟩))]), Io 5 (.call 326 [(true, .t 3), (false, .t 4)]), Mv 2 5]
 .ret))
def if_cy9 : IFn := ⟨6, [.inl 2], ib_cy9, lcF []⟩
def ks_cy9 : List (List (Option Nat)) := [[none]]
def gf_cy9 (a0 : Rd) : Option (Str × Int) := (gf_cl9 a0 ([(⟨#[97]⟩ : Str), (⟨#[98]⟩ : Str), (⟨#[99]⟩ : Str), (⟨#[100]⟩ : Str), (⟨#[101]⟩ : Str)] : (List Str))).bind fun x2 => some (x2.1, x2.2)
def c_cy9 : Con := ⟨Rd × Option Addr × Nat, (Str × Int), 362, fun a => [.pio 0 290], fun a => gf_cy9 a.1, fun a r => ⟨[(false, [.v (.string r.1)])], [some [[.v (.slice a.2.1 (List.map eU8 a.1.b).length a.2.2), .v (.int .i64 r.2)]]]⟩, fun a => [(true, 290, [[.rw a.2.1 a.2.2 (List.map eU8 a.1.b), .v (.int .i64 a.1.p)]])]⟩
/-! spec.l2Key -/
def ib_cz9 : IC :=
 (Rs [Io 2 (.mv (.c (.string ⟨#[]⟩)))]
 (Rs [Mv 3 0, Io 4 (.lit 49 [none] [.v (.string ⟨#[]⟩)] 4 [(0, .c (.string ⟨#[110, 97, 109, 101]⟩)), (1, .c (.string ⟨#[107, 105, 110, 100]⟩)), (2, .c (.string ⟨#[117, 115, 101]⟩)), (3, .c (.string ⟨#[116, 111, 110, 101]⟩))]), Io 5 (.call 326 [(true, .t 3), (false, .t 4)]), Mv 2 5]
 .ret))
def if_cz9 : IFn := ⟨6, [.inl 2], ib_cz9, lcF []⟩
def ks_cz9 : List (List (Option Nat)) := [[none]]
def gf_cz9 (a0 : Rd) : Option (Str × Int) := (gf_cl9 a0 ([(⟨#[110, 97, 109, 101]⟩ : Str), (⟨#[107, 105, 110, 100]⟩ : Str), (⟨#[117, 115, 101]⟩ : Str), (⟨#[116, 111, 110, 101]⟩ : Str)] : (List Str))).bind fun x2 => some (x2.1, x2.2)
def c_cz9 : Con := ⟨Rd × Option Addr × Nat, (Str × Int), 365, fun a => [.pio 0 290], fun a => gf_cz9 a.1, fun a r => ⟨[(false, [.v (.string r.1)])], [some [[.v (.slice a.2.1 (List.map eU8 a.1.b).length a.2.2), .v (.int .i64 r.2)]]]⟩, fun a => [(true, 290, [[.rw a.2.1 a.2.2 (List.map eU8 a.1.b), .v (.int .i64 a.1.p)]])]⟩
/-! spec.l2Val -/
def ib_dd9 : IC :=
 (Rs [Io 2 (.mv (.c (.string ⟨#[]⟩)))]
 (Rs [Mv 3 0, Io 4 (.lit 49 [none] [.v (.string ⟨#[]⟩)] 5 [(0, .c (.string ⟨#[97]⟩)), (1, .c (.string ⟨#[98]⟩)), (2, .c (.string ⟨#[111, 97, 107]⟩)), (3, .c (.string ⟨#[97, 115, 104]⟩)), (4, .c (.string ⟨#[114, 111, 97, 100]⟩))]), Io 5 (.call 326 [(true, .t 3), (false, .t 4)]), Mv 2 5]
 .ret))
def if_dd9 : IFn := ⟨6, [.inl 2], ib_dd9, lcF []⟩
def ks_dd9 : List (List (Option Nat)) := [[none]]
def gf_dd9 (a0 : Rd) : Option (Str × Int) := (gf_cl9 a0 ([(⟨#[97]⟩ : Str), (⟨#[98]⟩ : Str), (⟨#[111, 97, 107]⟩ : Str), (⟨#[97, 115, 104]⟩ : Str), (⟨#[114, 111, 97, 100]⟩ : Str)] : (List Str))).bind fun x2 => some (x2.1, x2.2)
def c_dd9 : Con := ⟨Rd × Option Addr × Nat, (Str × Int), 366, fun a => [.pio 0 290], fun a => gf_dd9 a.1, fun a r => ⟨[(false, [.v (.string r.1)])], [some [[.v (.slice a.2.1 (List.map eU8 a.1.b).length a.2.2), .v (.int .i64 r.2)]]]⟩, fun a => [(true, 290, [[.rw a.2.1 a.2.2 (List.map eU8 a.1.b), .v (.int .i64 a.1.p)]])]⟩
/-! (*spec.l12Rd).num -/
def ib_ck9 : IC :=
 (Rs [Ki 4 0]
 (Rs [Mv 5 1, Mv 6 0, Mv 7 1, Ln 8 7, Io 9 (.call 321 [(true, .t 6), (false, .t 8)]), Ia 10 1 5 9, Ld 11 1 10, Mv 4 11]
 .ret))
def if_ck9 : IFn := ⟨12, [.inl 4], ib_ck9, lcF []⟩
def ks_ck9 : List (List (Option Nat)) := [[none]]
def gf_ck9 (a0 : Rd) (a1 : (List Int)) : Option (Int × Int) := (gf_cm9 a0 (a1.length : Int)).bind fun x1 => (idx a1 x1.1).bind fun x3 => some (x3, x1.2)
def c_ck9 : Con := ⟨Rd × (List Int) × Option Addr × Nat, (Int × Int), 356, fun a => [.pio 0 290, .ro (List.map eInt a.2.1)], fun a => gf_ck9 a.1 a.2.1, fun a r => ⟨[(false, [.v (.int .i64 r.1)])], [some [[.v (.slice a.2.2.1 (List.map eU8 a.1.b).length a.2.2.2), .v (.int .i64 r.2)]]]⟩, fun a => [(true, 290, [[.rw a.2.2.1 a.2.2.2 (List.map eU8 a.1.b), .v (.int .i64 a.1.p)]])]⟩
/-! spec.l1Pt -/
def ib_cr9 : IC :=
 (Rs [Io 2 (.alloc 66 [.v (.int .i64 0), .v (.int .i64 0)])]
 (Rs [Mv 3 0, Io 4 (.call 321 [(true, .t 3), (false, .c (.int .i64 4))]), Mv 5 0, Io 6 (.lit 17 [none] [.v (.int .i64 0)] 4 [(0, .c (.int .i64 0)), (1, .c (.int .i64 1)), (2, .c (.int .i64 2)), (3, .c (.int .i64 5))]), Io 7 (.call 356 [(true, .t 5), (false, .t 6)]), Io 8 (.build [.v (.int .i64 0), .v (.int .i64 0)] [(0, 1, .t 4), (1, 1, .t 7)]), Sv [none, none] 2 8]
 .ret))
def if_cr9 : IFn := ⟨9, [.inr (2, 2)], ib_cr9, lcF []⟩
def ks_cr9 : List (List (Option Nat)) := [[none, none]]
def gf_cr9 (a0 : Rd) : Option (Pt × Int) := (gf_cm9 a0 4).bind fun x2 => (gf_ck9 (⟨a0.b, x2.2⟩ : Rd) ([0, 1, 2, 5] : (List Int))).bind fun x5 => some ((⟨x2.1, x5.1⟩ : Pt), x5.2)
def c_cr9 : Con := ⟨Rd × Option Addr × Nat, (Pt × Int), 387, fun a => [.pio 0 290], fun a => gf_cr9 a.1, fun a r => ⟨[(true, ePt r.1)], [some [[.v (.slice a.2.1 (List.map eU8 a.1.b).length a.2.2), .v (.int .i64 r.2)]]]⟩, fun a => [(true, 290, [[.rw a.2.1 a.2.2 (List.map eU8 a.1.b), .v (.int .i64 a.1.p)]])]⟩
/-! spec.l1Min -/
def ib_cp9 : IC :=
 (Rs [Ki 4 0]
 (.seq (Rs [Mv 5 0, Mv 6 1, Bb 7 .lss 5 6]
 (Ct 7 (Rs [Mv 8 0, Mv 4 8]
 .ret)
 .skip))
 (Rs [Mv 9 1, Mv 4 9]
 .ret)))
def if_cp9 : IFn := ⟨10, [.inl 4], ib_cp9, lcF []⟩
def ks_cp9 : List (List (Option Nat)) := [[none]]
def gf_cp9 (a0 : Int) (a1 : Int) : Option Int := if (decide (a0 < a1)) = true then (some (a0)) else (some (a1))
def c_cp9 : Con := ⟨Int × Int, Int, 397, fun a => [.v (.int .i64 a.1), .v (.int .i64 a.2)], fun a => gf_cp9 a.1 a.2, fun a r => ⟨[(false, [.v (.int .i64 r)])], []⟩, fun a => []⟩
/-! spec.l1Shape -/
def ib_cu9 : IC :=
 (Rs [Io 2 (.alloc 226 [.v (.int .i64 0), .sl true 66 []])]
 (Rs [Mv 8 0, Io 9 (.lit 17 [none] [.v (.int .i64 0)] 5 [(0, .c (.int .i64 1)), (1, .c (.int .i64 2)), (2, .c (.int .i64 2)), (3, .c (.int .i64 3)), (4, .c (.int .i64 3))]), Io 10 (.call 356 [(true, .t 8), (false, .t 9)]), Io 11 (.build [.v (.int .i64 0), .nil] [(0, 1, .t 10)]), Io 3 (.alloc 226 [.v (.int .i64 0), .sl true 66 []]), Sv [none, some 66] 3 11]
 (.seq (.drw [Fa 12 0 3, Ld 13 1 12, Mv 14 0, Io 15 (.call 321 [(true, .t 14), (false, .c (.int .i64 4))]), Bb 16 .add 13 15, Mv 4 16] [(1, 3)])
 (seqC (Rs [Fa 17 0 3, Ld 18 1 17, Bk 19 .eql 18 1]
 (Ct 19 (.reg [Ki 4 1])
 .skip))
 (.seq (Rs [Ki 5 0]
 (blkC 0 (.loop (.seq (.seq (.drw [Mv 20 5, Bk 21 .lss 20 12, Mv 22 21, Gt 22 (Fa 23 1 3), Gt 22 (Ld 24 1 23), Gt 22 (Ln 25 24), Gt 22 (Mv 26 4), Gt 22 (Io 27 (.call 397 [(false, .t 26), (false, .c (.int .i64 6))])), Gt 22 (Bb 28 .lss 25 27), Io 29 (.pick (.t 22) (.t 28) (.c (.bool false)))] [(4, 7)])
 (Ct 29 .skip
 (.exit 0)))
 (.seq (.block 1 (Rs [Mv 32 0, Io 33 (.call 387 [(true, .t 32)]), Io 6 (.alloc 66 [.v (.int .i64 0), .v (.int .i64 0)]), Sv [none, none] 6 33]
 (Rs [Fa 34 1 3, Ld 35 1 34, Ln 36 35, Mv 7 36]
 (seqC (.drw [Mv 37 7, Bk 38 .eql 37 0, Mv 39 38, Gf 39 (Fa 40 1 3), Gf 39 (Ld 41 1 40), Gf 39 (Mv 42 7), Gf 39 (Bk 43 .sub 42 1), Gf 39 (Ia 44 2 41 43), Gf 39 (La 45 2 44), Gf 39 (La 46 2 6), Gf 39 (Io 47 (.eqs true true [0, 0] (.t 45) (.t 46))), Gf 39 (Mv 48 47), Gt 48 (Fa 49 0 3), Gt 48 (Ld 50 1 49), Gt 48 (Bk 51 .neq 50 3), Gt 48 (Mv 52 51), Gf 52 (Fa 53 1 3), Gf 52 (Ld 54 1 53), Gf 52 (Io 55 (.iaddr 2 (.t 54) (.c (.int .i64 0)))), Gf 52 (La 56 2 55), Gf 52 (La 57 2 6), Gf 52 (Io 58 (.eqs true true [0, 0] (.t 56) (.t 57))), Gt 48 (Pk 59 52 58), Gf 39 (Io 60 (.pick (.t 48) (.t 59) (.c (.bool false)))), Pk 61 39 60] [(4, 9), (8, 9), (17, 20), (19, 20)])
 (Ct 61 (.reg [Fa 62 1 3, Ld 63 1 62, La 64 2 6, Io 65 (.lit 66 [none, none] [.v (.int .i64 0), .v (.int .i64 0)] 1 [(0, .t 64)]), Io 66 (.app 66 true (.t 63) (.t 65)), Fa 67 1 3, Sv [some 66] 67 66])
 .skip)))))
 (.reg [Mv 30 5, Bk 31 .add 30 1, Mv 5 31]))))))
 (.seq (Rs [La 68 2 3, Ca 69 15 [68], Nt 70 69]
 (Ct 70 (Rs [Mv 71 0, Io 72 (.call 387 [(true, .t 71)]), Io 73 (.lit 66 [none, none] [.v (.int .i64 0), .v (.int .i64 0)] 1 [(0, .t 72)]), Io 74 (.build [.v (.int .i64 0), .nil] [(0, 1, .c (.int .i64 1)), (1, 1, .t 73)]), Sv [none, some 66] 2 74]
 .ret)
 .skip))
 (Rs [La 75 2 3, Sv [none, some 66] 2 75]
 .ret)))))))
def if_cu9 : IFn := ⟨76, [.inr (2, 2)], ib_cu9, lcF []⟩
def ks_cu9 : List (List (Option Nat)) := [[none, some 66]]
def gl_cu9_1 (q8 : Int) (a0 : Rd) (x3 : (Int × Int)) : Nat → Int → Int → (List Pt) → Option (Int × (List Pt))
 | 0, _, _, _ => none
 | n119 + 1, v110, v111, v115 => if (decide (v110 < 12)) = true then ((gf_cp9 q8 6).bind fun x120 => if (decide ((v115.length : Int) < x120)) = true then ((gf_cr9 (⟨a0.b, v111⟩ : Rd)).bind fun x122 => ((if ((v115.length : Int) == 0) = true then (some true) else ((idx v115 (IntKind.i64.wrap ((v115.length : Int) - 1))).bind fun x130 => if (!((x130.x == x122.1.x) && ((x130.y == x122.1.y) && true))) = true then (if (x3.1 != 3) = true then (some true) else ((idx v115 0).bind fun x132 => some (!((x132.x == x122.1.x) && ((x132.y == x122.1.y) && true))))) else (some false)) : Option Bool)).bind fun q129 => if q129 = true then (if fits (v115 ++ ([x122.1] : (List Pt))).length = true then gl_cu9_1 q8 a0 x3 n119 (IntKind.i64.wrap (v110 + 1)) x122.2 (v115 ++ ([x122.1] : (List Pt))) else none) else (gl_cu9_1 q8 a0 x3 n119 (IntKind.i64.wrap (v110 + 1)) x122.2 v115)) else (some (v111, v115))) else (some (v111, v115))
def gf_cu9 (a0 : Rd) : Option (Shape × Int) := (gf_ck9 a0 ([1, 2, 2, 3, 3] : (List Int))).bind fun x3 => (gf_cm9 (⟨a0.b, x3.2⟩ : Rd) 4).bind fun x6 => ((if (x3.1 == 1) = true then (some 1) else (some (IntKind.i64.wrap (x3.1 + x6.1))) : Option Int)).bind fun q8 => (gl_cu9_1 q8 a0 x3 rounds 0 x6.2 []).bind fun q109 => (gf_ca9 (⟨x3.1, q109.2⟩ : Shape)).bind fun x154 => if (!x154) = true then ((gf_cr9 (⟨a0.b, q109.1⟩ : Rd)).bind fun x156 => some ((⟨1, [x156.1]⟩ : Shape), x156.2)) else (some ((⟨x3.1, q109.2⟩ : Shape), q109.1))
def c_cu9 : Con := ⟨Rd × Option Addr × Nat, (Shape × Int), 386, fun a => [.pio 0 290], fun a => gf_cu9 a.1, fun a r => ⟨[(true, eShape true r.1)], [some [[.v (.slice a.2.1 (List.map eU8 a.1.b).length a.2.2), .v (.int .i64 r.2)]]]⟩, fun a => [(true, 290, [[.rw a.2.1 a.2.2 (List.map eU8 a.1.b), .v (.int .i64 a.1.p)]])]⟩
/-! spec.l2Feat -/
def ib_cx9 : IC :=
 (Rs [Io 4 (.alloc 100 [.v (.string ⟨#[]⟩), .v (.int .i64 0), .sl true 66 [], .sl true 82 []])]
 (Rs [Mv 7 1, Mv 8 0, Io 9 (.call 386 [(true, .t 8)]), Io 10 (.build [.v (.string ⟨#[]⟩), .v (.int .i64 0), .nil, .nil] [(0, 1, .t 7), (1, 2, .t 9)]), Io 5 (.alloc 100 [.v (.string ⟨#[]⟩), .v (.int .i64 0), .sl true 66 [], .sl true 82 []]), Sv [none, none, some 66, some 82] 5 10]
 (.seq (Rs [Mv 11 0, Io 12 (.call 321 [(true, .t 11), (false, .c (.int .i64 4))]), Mv 6 12]
 (blkC 0 (.loop (.seq (Rs [Mv 13 6, Bk 14 .gtr 13 0]
 (Ct 14 .skip
 (.exit 0)))
 (.seq (.block 1 (.drw [Fa 17 3 5, Ld 18 1 17, Mv 19 0, Io 20 (.call 365 [(true, .t 19)]), Mv 21 0, Io 22 (.call 366 [(true, .t 21)]), Ca 23 47 [18, 20, 22], Fa 24 3 5, Sv [some 82] 24 23] [(1, 3), (1, 5)]))
 (.reg [Mv 15 6, Bk 16 .sub 15 1, Mv 6 16]))))))
 (Rs [La 25 4 5, Sv [none, none, some 66, some 82] 4 25]
 .ret))))
def if_cx9 : IFn := ⟨26, [.inr (4, 4)], ib_cx9, lcF []⟩
def ks_cx9 : List (List (Option Nat)) := [[none, none, some 66, some 82]]
def gl_cx9_1 (a0 : Rd) : Nat → Int → Int → (List Tag) → Option ((List Tag) × Int)
 | 0, _, _, _ => none
 | n70 + 1, v57, v58, v66 => if (decide (v57 > 0)) = true then ((gf_cz9 (⟨a0.b, v58⟩ : Rd)).bind fun x71 => (gf_dd9 (⟨a0.b, x71.2⟩ : Rd)).bind fun x73 => (gf_da9 v66 x71.1 x73.1).bind fun x75 => gl_cx9_1 a0 n70 (IntKind.i64.wrap (v57 - 1)) x73.2 x75) else (some (v66, v58))
def gf_cx9 (a0 : Rd) (a1 : Str) : Option (Feat × Int) := (gf_cu9 a0).bind fun x2 => (gf_cm9 (⟨a0.b, x2.2⟩ : Rd) 4).bind fun x7 => (gl_cx9_1 a0 rounds x7.1 x7.2 []).bind fun q56 => some ((⟨a1, x2.1, q56.1⟩ : Feat), q56.2)
def c_cx9 : Con := ⟨Rd × Str × Option Addr × Nat, (Feat × Int), 363, fun a => [.pio 0 290, .v (.string a.2.1)], fun a => gf_cx9 a.1 a.2.1, fun a r => ⟨[(true, eFeat true r.1)], [some [[.v (.slice a.2.2.1 (List.map eU8 a.1.b).length a.2.2.2), .v (.int .i64 r.2)]]]⟩, fun a => [(true, 290, [[.rw a.2.2.1 a.2.2.2 (List.map eU8 a.1.b), .v (.int .i64 a.1.p)]])]⟩
/-! spec.l1Bent -/
def ib_cn9 : IC :=
 (Rs [Io 2 (.alloc 226 [.v (.int .i64 0), .sl true 66 []])]
 (Rs [Mv 5 0, Io 6 (.call 386 [(true, .t 5)]), Io 3 (.alloc 226 [.v (.int .i64 0), .sl true 66 []]), Sv [none, some 66] 3 6]
 (Rs [Mv 7 0, Fa 8 1 3, Ld 9 1 8, Ln 10 9, Io 11 (.call 321 [(true, .t 7), (false, .t 10)]), Mv 4 11]
 (.seq (Rs [Mv 12 0, Io 13 (.call 321 [(true, .t 12), (false, .c (.int .i64 40))])]
 (.block 0 (seqC (.reg [Bk 15 .eql 13 0, Mv 14 15])
 (Ct 14 (.reg [Mv 16 0, Io 17 (.lit 17 [none] [.v (.int .i64 0)] 5 [(0, .c (.int .i64 0)), (1, .c (.int .i64 4)), (2, .c (.int .i64 1)), (3, .c (.int .i64 2)), (4, .c (.int .i64 3))]), Io 18 (.call 356 [(true, .t 16), (false, .t 17)]), Fa 19 0 3, Sv [none] 19 18])
 (Rs [Bk 21 .eql 13 1, Mv 20 21]
 (Ct 20 (.drw [Fa 22 1 3, Ld 23 1 22, Mv 24 4, Mv 25 0, Io 26 (.lit 17 [none] [.v (.int .i64 0)] 3 [(0, .c (.int .i64 1000)), (1, .c (.int .i64 1001)), (2, .c (.int .i64 (-1001)))]), Io 27 (.call 356 [(true, .t 25), (false, .t 26)]), Ia 28 2 23 24, Fa 29 0 28, Sv [none] 29 27] [(1, 4), (1, 5)])
 (Rs [Bk 31 .eql 13 2, Mv 30 31]
 (Ct 30 (.drw [Fa 32 1 3, Ld 33 1 32, Fa 34 1 3, Ld 35 1 34, Fa 36 1 3, Ld 37 1 36, Ln 38 37, Bk 39 .sub 38 1, Ia 40 2 35 39, La 41 2 40, Io 42 (.lit 66 [none, none] [.v (.int .i64 0), .v (.int .i64 0)] 1 [(0, .t 41)]), Io 43 (.app 66 true (.t 33) (.t 42)), Fa 44 1 3, Sv [some 66] 44 43] [(1, 3), (1, 5), (3, 5), (1, 9), (1, 10)])
 (Rs [Bk 46 .eql 13 3, Mv 45 46]
 (Ct 45 (.reg [Fa 47 1 3, Ld 48 1 47, Mv 49 4, Io 50 (.trn (.sls 2 (.t 48) none (some (.t 49)))), Fa 51 1 3, Sv [some 66] 51 50])
 .skip))))))))))
 (Rs [La 52 2 3, Sv [none, some 66] 2 52]
 .ret)))))
def if_cn9 : IFn := ⟨53, [.inr (2, 2)], ib_cn9, lcF []⟩
def ks_cn9 : List (List (Option Nat)) := [[none, some 66]]
def gf_cn9 (a0 : Rd) : Option (Shape × Int) := (gf_cu9 a0).bind fun x2 => (gf_cm9 (⟨a0.b, x2.2⟩ : Rd) (x2.1.pts.length : Int)).bind fun x7 => (gf_cm9 (⟨a0.b, x7.2⟩ : Rd) 40).bind fun x9 => ((some () : Option Unit)).bind fun q11 => if (x9.1 == 0) = true then ((gf_ck9 (⟨a0.b, x9.2⟩ : Rd) ([0, 4, 1, 2, 3] : (List Int))).bind fun x19 => some ((⟨x19.1, x2.1.pts⟩ : Shape), x19.2)) else (if (x9.1 == 1) = true then ((gf_ck9 (⟨a0.b, x9.2⟩ : Rd) ([1000, 1001, (-1001)] : (List Int))).bind fun x22 => (idx x2.1.pts x7.1).bind fun x24 => some ((⟨x2.1.kind, (List.set x2.1.pts x7.1.toNat (⟨x22.1, x24.y⟩ : Pt))⟩ : Shape), x22.2)) else (if (x9.1 == 2) = true then ((idx x2.1.pts (IntKind.i64.wrap ((x2.1.pts.length : Int) - 1))).bind fun x26 => if fits (x2.1.pts ++ ([x26] : (List Pt))).length = true then some ((⟨x2.1.kind, (x2.1.pts ++ ([x26] : (List Pt)))⟩ : Shape), x9.2) else none) else (if (x9.1 == 3) = true then ((slc x2.1.pts 0 x7.1).bind fun x32 => some ((⟨x2.1.kind, x32⟩ : Shape), x9.2)) else (some (x2.1, x9.2)))))
def c_cn9 : Con := ⟨Rd × Option Addr × Nat, (Shape × Int), 372, fun a => [.pio 0 290], fun a => gf_cn9 a.1, fun a r => ⟨[(true, eShape true r.1)], [some [[.v (.slice a.2.1 (List.map eU8 a.1.b).length a.2.2), .v (.int .i64 r.2)]]]⟩, fun a => [(true, 290, [[.rw a.2.1 a.2.2 (List.map eU8 a.1.b), .v (.int .i64 a.1.p)]])]⟩
/-! spec.l2Bent -/
def ib_cv9 : IC :=
 (Rs [Io 2 (.alloc 100 [.v (.string ⟨#[]⟩), .v (.int .i64 0), .sl true 66 [], .sl true 82 []])]
 (seqC (.reg [Mv 4 0, Mv 5 0, Io 6 (.call 362 [(true, .t 5)]), Io 7 (.call 363 [(true, .t 4), (false, .t 6)]), Io 3 (.alloc 100 [.v (.string ⟨#[]⟩), .v (.int .i64 0), .sl true 66 [], .sl true 82 []]), Sv [none, none, some 66, some 82] 3 7])
 (.seq (Rs [Mv 8 0, Io 9 (.call 321 [(true, .t 8), (false, .c (.int .i64 40))])]
 (.block 0 (Rs [Bk 11 .eql 9 0, Mv 10 11]
 (Ct 10 (.reg [Mv 12 0, Io 13 (.lit 49 [none] [.v (.string ⟨#[]⟩)] 3 [(0, .c (.string ⟨#[]⟩)), (1, .c (.string ⟨#[65]⟩)), (2, .c (.string ⟨#[97, 98, 99, 100, 101, 102, 103]⟩))]), Io 14 (.call 326 [(true, .t 12), (false, .t 13)]), Fa 15 0 3, Sv [none] 15 14])
 (Rs [Bk 17 .eql 9 1, Mv 16 17]
 (Ct 16 (.reg [Mv 18 0, Io 19 (.call 372 [(true, .t 18)]), Fa 20 1 3, Sv [none, some 66] 20 19])
 (Rs [Bk 22 .eql 9 2, Mv 21 22]
 (Ct 21 (.reg [Fa 23 3 3, Ld 24 1 23, Io 25 (.build [.v (.string ⟨#[]⟩), .v (.string ⟨#[]⟩)] [(0, 1, .c (.string ⟨#[97]⟩)), (1, 1, .c (.string ⟨#[98]⟩))]), Io 26 (.lit 82 [none, none] [.v (.string ⟨#[]⟩), .v (.string ⟨#[]⟩)] 1 [(0, .t 25)]), Io 27 (.app 82 true (.t 24) (.t 26)), Fa 28 3 3, Sv [some 82] 28 27])
 (Rs [Bk 30 .eql 9 3, Mv 29 30]
 (Ct 29 (.drw [Fa 31 3 3, Ld 32 1 31, Mv 33 0, Io 34 (.lit 49 [none] [.v (.string ⟨#[]⟩)] 2 [(0, .c (.string ⟨#[]⟩)), (1, .c (.string ⟨#[66]⟩))]), Io 35 (.call 326 [(true, .t 33), (false, .t 34)]), Io 36 (.build [.v (.string ⟨#[]⟩), .v (.string ⟨#[]⟩)] [(0, 1, .c (.string ⟨#[122, 122]⟩)), (1, 1, .t 35)]), Io 37 (.lit 82 [none, none] [.v (.string ⟨#[]⟩), .v (.string ⟨#[]⟩)] 1 [(0, .t 36)]), Io 38 (.app 82 true (.t 32) (.t 37)), Fa 39 3 3, Sv [some 82] 39 38] [(1, 3), (1, 4), (1, 6)])
 .skip))))))))))
 (Rs [La 40 4 3, Sv [none, none, some 66, some 82] 2 40]
 .ret))))
def if_cv9 : IFn := ⟨41, [.inr (2, 4)], ib_cv9, lcF []⟩
def ks_cv9 : List (List (Option Nat)) := [[none, none, some 66, some 82]]
def gf_cv9 (a0 : Rd) : Option (Feat × Int) := (((gf_cy9 a0).bind fun x3 => (gf_cx9 (⟨a0.b, x3.2⟩ : Rd) x3.1).bind fun x5 => some (x5.2, x5.1.shape.pts, x5.1.tags, x5.1.id, x5.1.shape.kind) : Option (Int × (List Pt) × (List Tag) × Str × Int))).bind fun q2 => (gf_cm9 (⟨a0.b, q2.1⟩ : Rd) 40).bind fun x27 => if (x27.1 == 0) = true then ((gf_cl9 (⟨a0.b, x27.2⟩ : Rd) ([(⟨#[]⟩ : Str), (⟨#[65]⟩ : Str), (⟨#[97, 98, 99, 100, 101, 102, 103]⟩ : Str)] : (List Str))).bind fun x30 => some ((⟨x30.1, ⟨q2.2.2.2.2, q2.2.1⟩, q2.2.2.1⟩ : Feat), x30.2)) else (if (x27.1 == 1) = true then ((gf_cn9 (⟨a0.b, x27.2⟩ : Rd)).bind fun x32 => some ((⟨q2.2.2.2.1, x32.1, q2.2.2.1⟩ : Feat), x32.2)) else (if (x27.1 == 2) = true then (if fits (q2.2.2.1 ++ ([(⟨(⟨#[97]⟩ : Str), (⟨#[98]⟩ : Str)⟩ : Tag)] : (List Tag))).length = true then some ((⟨q2.2.2.2.1, ⟨q2.2.2.2.2, q2.2.1⟩, (q2.2.2.1 ++ ([(⟨(⟨#[97]⟩ : Str), (⟨#[98]⟩ : Str)⟩ : Tag)] : (List Tag)))⟩ : Feat), x27.2) else none) else (if (x27.1 == 3) = true then ((gf_cl9 (⟨a0.b, x27.2⟩ : Rd) ([(⟨#[]⟩ : Str), (⟨#[66]⟩ : Str)] : (List Str))).bind fun x41 => if fits (q2.2.2.1 ++ ([(⟨(⟨#[122, 122]⟩ : Str), x41.1⟩ : Tag)] : (List Tag))).length = true then some ((⟨q2.2.2.2.1, ⟨q2.2.2.2.2, q2.2.1⟩, (q2.2.2.1 ++ ([(⟨(⟨#[122, 122]⟩ : Str), x41.1⟩ : Tag)] : (List Tag)))⟩ : Feat), x41.2) else none) else (some ((⟨q2.2.2.2.1, ⟨q2.2.2.2.2, q2.2.1⟩, q2.2.2.1⟩ : Feat), x27.2)))))
def c_cv9 : Con := ⟨Rd × Option Addr × Nat, (Feat × Int), 341, fun a => [.pio 0 290], fun a => gf_cv9 a.1, fun a r => ⟨[(true, eFeat true r.1)], [some [[.v (.slice a.2.1 (List.map eU8 a.1.b).length a.2.2), .v (.int .i64 r.2)]]]⟩, fun a => [(true, 290, [[.rw a.2.1 a.2.2 (List.map eU8 a.1.b), .v (.int .i64 a.1.p)]])]⟩
/-! spec.l3Put -/
def ib_dj9 : IC :=
 (Rs [Io 3 (.box 100 [none, none, some 66, some 82] (.t 1)), Io 4 (.mv (.c (.slice none 0 0)))]
 (Rs [Io 8 (.lit 100 [none, none, some 66, some 82] [.v (.string ⟨#[]⟩), .v (.int .i64 0), .sl true 66 [], .sl true 82 []] 0 []), Mv 5 8]
 (Rs [Kb 6 false]
 (.seq (Rs [Ki 7 0]
 (blkC 0 (.loop (.seq (Rs [Mv 9 7, Mv 10 0, Ln 11 10, Bb 12 .lss 9 11]
 (Ct 12 .skip
 (.exit 0)))
 (.seq (.block 1 (seqC (.seq (.drw [Mv 15 6, Nt 16 15, Mv 17 16, Gt 17 (Mv 18 0), Gt 17 (Mv 19 7), Gt 17 (Ia 20 4 18 19), Gt 17 (Fa 21 0 20), Gt 17 (Ld 22 1 21), Gt 17 (Fa 23 0 3), Gt 17 (Ld 24 1 23), Gt 17 (Bb 25 .geq 22 24), Io 26 (.pick (.t 17) (.t 25) (.c (.bool false)))] [(7, 9)])
 (Ct 26 (Rs [Mv 27 5, La 28 4 3, Io 29 (.lit 100 [none, none, some 66, some 82] [.v (.string ⟨#[]⟩), .v (.int .i64 0), .sl true 66 [], .sl true 82 []] 1 [(0, .t 28)]), Io 30 (.app 100 true (.t 27) (.t 29)), Mv 5 30]
 (.reg [Kb 6 true]))
 .skip))
 (.seq (.drw [Mv 31 0, Mv 32 7, Ia 33 4 31 32, Fa 34 0 33, Ld 35 1 34, Fa 36 0 3, Ld 37 1 36, Bb 38 .neq 35 37] [(4, 6)])
 (Ct 38 (.reg [Mv 39 5, Mv 40 0, Mv 41 7, Ia 42 4 40 41, La 43 4 42, Io 44 (.lit 100 [none, none, some 66, some 82] [.v (.string ⟨#[]⟩), .v (.int .i64 0), .sl true 66 [], .sl true 82 []] 1 [(0, .t 43)]), Io 45 (.app 100 true (.t 39) (.t 44)), Mv 5 45])
 .skip))))
 (.reg [Mv 13 7, Bk 14 .add 13 1, Mv 7 14]))))))
 (.seq (Rs [Mv 46 6, Nt 47 46]
 (Ct 47 (.reg [Mv 48 5, La 49 4 3, Io 50 (.lit 100 [none, none, some 66, some 82] [.v (.string ⟨#[]⟩), .v (.int .i64 0), .sl true 66 [], .sl true 82 []] 1 [(0, .t 49)]), Io 51 (.app 100 true (.t 48) (.t 50)), Mv 5 51])
 .skip))
 (Rs [Mv 52 5, Mv 4 52]
 .ret))))))
def if_dj9 : IFn := ⟨53, [.inl 4], ib_dj9, lcF []⟩
def ks_dj9 : List (List (Option Nat)) := [[some 100]]
def gl_dj9_1 (a1 : Feat) : List Feat → Nat → Bool → (List Feat) → Option (Bool × (List Feat))
 | [], k92, v86, v89 => some (v86, v89)
 | x93 :: l94, k92, v86, v89 => ((if (!v86) = true then (if (!slt x93.id a1.id) = true then (if fits (v89 ++ ([a1] : (List Feat))).length = true then some (true, (v89 ++ ([a1] : (List Feat)))) else none) else (some (v86, v89))) else (some (v86, v89)) : Option (Bool × (List Feat)))).bind fun q105 => if (!seq x93.id a1.id) = true then (if fits (q105.2 ++ ([x93] : (List Feat))).length = true then gl_dj9_1 a1 l94 (k92 + 1) q105.1 (q105.2 ++ ([x93] : (List Feat))) else none) else (gl_dj9_1 a1 l94 (k92 + 1) q105.1 q105.2)
def gf_dj9 (a0 : (List Feat)) (a1 : Feat) : Option (List Feat) := if fits a0.length = true then ((gl_dj9_1 a1 a0 0 false []).bind fun q85 => if (!q85.1) = true then (if fits (q85.2 ++ ([a1] : (List Feat))).length = true then some ((q85.2 ++ ([a1] : (List Feat)))) else none) else (some (q85.2))) else none
def c_dj9 : Con := ⟨(List Feat) × Feat, (List Feat), 37, fun a => [.io 0 a.1.length 100, .agg [.v (.string a.2.id), .v (.int .i64 a.2.shape.kind), .ro (List.map ePt a.2.shape.pts), .ro (List.map eTag a.2.tags)]], fun a => gf_dj9 a.1 a.2, fun a r => ⟨[(false, [sl true 100 (List.map (eFeat false) r)])], [none]⟩, fun a => [(false, 100, List.map (eFeat false) a.1)]⟩
/-! spec.l3Sheet -/
def ib_dk9 : IC :=
 (Rs [Io 2 (.mv (.c (.slice none 0 0)))]
 (Rs [Io 5 (.lit 100 [none, none, some 66, some 82] [.v (.string ⟨#[]⟩), .v (.int .i64 0), .sl true 66 [], .sl true 82 []] 0 []), Io 3 (.ren 2000003 100 (.mv (.t 5)))]
 (.seq (Rs [Mv 6 0, Io 7 (.call 321 [(true, .t 6), (false, .c (.int .i64 5))]), Mv 4 7]
 (blkC 0 (.loop (.seq (Rs [Mv 8 4, Bk 9 .gtr 8 0]
 (Ct 9 .skip
 (.exit 0)))
 (.seq (.block 1 (.reg [Mv 12 3, Mv 13 0, Mv 14 0, Io 15 (.call 362 [(true, .t 14)]), Io 16 (.frz (.call 363 [(true, .t 13), (false, .t 15)])), Io 17 (.call 37 [(true, .t 12), (false, .t 16)]), Io 3 (.ren 2000003 100 (.mv (.t 17)))]))
 (.reg [Mv 10 4, Bk 11 .sub 10 1, Mv 4 11]))))))
 (Rs [Mv 18 3, Mv 2 18]
 .ret))))
def if_dk9 : IFn := ⟨19, [.inl 2], ib_dk9, lcF []⟩
def ks_dk9 : List (List (Option Nat)) := [[some 100]]
def gl_dk9_1 (a0 : Rd) : Nat → Int → Int → (List Feat) → Option ((List Feat) × Int)
 | 0, _, _, _ => none
 | n53 + 1, v48, v49, v50 => if (decide (v48 > 0)) = true then ((gf_cy9 (⟨a0.b, v49⟩ : Rd)).bind fun x54 => (gf_cx9 (⟨a0.b, x54.2⟩ : Rd) x54.1).bind fun x56 => (gf_dj9 v50 x56.1).bind fun x62 => gl_dk9_1 a0 n53 (IntKind.i64.wrap (v48 - 1)) x56.2 x62) else (some (v50, v49))
def gf_dk9 (a0 : Rd) : Option ((List Feat) × Int) := (gf_cm9 a0 5).bind fun x2 => (gl_dk9_1 a0 rounds x2.1 x2.2 []).bind fun q47 => some (q47.1, q47.2)
def c_dk9 : Con := ⟨Rd × Option Addr × Nat, ((List Feat) × Int), 361, fun a => [.pio 0 290], fun a => gf_dk9 a.1, fun a r => ⟨[(false, [sl true 100 (List.map (eFeat false) r.1)])], [some [[.v (.slice a.2.1 (List.map eU8 a.1.b).length a.2.2), .v (.int .i64 r.2)]]]⟩, fun a => [(true, 290, [[.rw a.2.1 a.2.2 (List.map eU8 a.1.b), .v (.int .i64 a.1.p)]])]⟩
/-! spec.l3Bent -/
def ib_de9 : IC :=
 (Rs [Io 2 (.mv (.c (.slice none 0 0)))]
 (Rs [Mv 5 0, Io 6 (.call 361 [(true, .t 5)]), Io 3 (.ren 2000003 100 (.mv (.t 6)))]
 (.seq (Rs [Mv 7 0, Io 8 (.call 321 [(true, .t 7), (false, .c (.int .i64 40))])]
 (.block 0 (Rs [Bk 10 .eql 8 0, Mv 9 10]
 (Ct 9 (.reg [Mv 11 3, Mv 12 0, Io 13 (.frz (.call 341 [(true, .t 12)])), Io 14 (.lit 100 [none, none, some 66, some 82] [.v (.string ⟨#[]⟩), .v (.int .i64 0), .sl true 66 [], .sl true 82 []] 1 [(0, .t 13)]), Io 15 (.app 100 true (.t 11) (.t 14)), Io 3 (.ren 2000003 100 (.mv (.t 15)))])
 (Rs [Bk 17 .eql 8 1, Mv 16 17]
 (Ct 16 (Rs [Mv 18 3, Mv 19 3, Io 20 (.app 100 false (.t 18) (.t 19)), Mv 2 20]
 .ret)
 (Rs [Bk 22 .eql 8 2, Mv 21 22]
 (Ct 21 (Rs [Ki 4 0]
 (blkC 1 (.loop (.seq (Rs [Mv 23 4, Bk 24 .leq 23 8]
 (Ct 24 .skip
 (.exit 1)))
 (.seq (.block 2 (.reg [Mv 27 3, Mv 28 4, Mv 29 4, Bk 30 .add 29 1, Io 31 (.ssl (.c (.string ⟨#[113, 114, 115, 116, 117, 118, 119, 120, 121, 122]⟩)) (some (.t 28)) (some (.t 30))), Io 32 (.build [.v (.int .i64 0), .v (.int .i64 0)] []), Io 33 (.lit 66 [none, none] [.v (.int .i64 0), .v (.int .i64 0)] 1 [(0, .t 32)]), Io 34 (.build [.v (.int .i64 0), .nil] [(0, 1, .c (.int .i64 1)), (1, 1, .t 33)]), Io 35 (.frz (.build [.v (.string ⟨#[]⟩), .v (.int .i64 0), .nil, .nil] [(0, 1, .t 31), (1, 2, .t 34)])), Io 36 (.call 37 [(true, .t 27), (false, .t 35)]), Io 3 (.ren 2000003 100 (.mv (.t 36)))]))
 (.reg [Mv 25 4, Bk 26 .add 25 1, Mv 4 26]))))))
 .skip))))))))
 (Rs [Mv 37 3, Mv 2 37]
 .ret))))
def if_de9 : IFn := ⟨38, [.inl 2], ib_de9, lcF []⟩
def ks_de9 : List (List (Option Nat)) := [[some 100]]
def gl_de9_1 : Nat → Int → (List Feat) → Option (List Feat)
 | 0, _, _ => none
 | n52 + 1, v48, v49 => if (decide (v48 ≤ 8)) = true then ((sslc (⟨#[113, 114, 115, 116, 117, 118, 119, 120, 121, 122]⟩ : Str) v48 (IntKind.i64.wrap (v48 + 1))).bind fun x53 => (gf_dj9 v49 (⟨x53, ⟨1, [(⟨0, 0⟩ : Pt)]⟩, []⟩ : Feat)).bind fun x56 => gl_de9_1 n52 (IntKind.i64.wrap (v48 + 1)) x56) else (some v49)
def gf_de9 (a0 : Rd) : Option ((List Feat) × Int) := (gf_dk9 a0).bind fun x1 => (gf_cm9 (⟨a0.b, x1.2⟩ : Rd) 40).bind fun x5 => if (x5.1 == 0) = true then ((gf_cv9 (⟨a0.b, x5.2⟩ : Rd)).bind fun x7 => if fits (x1.1 ++ ([x7.1] : (List Feat))).length = true then some ((x1.1 ++ ([x7.1] : (List Feat))), x7.2) else none) else (if (x5.1 == 1) = true then (if fits (x1.1 ++ x1.1).length = true then some ((x1.1 ++ x1.1), x5.2) else none) else (if (x5.1 == 2) = true then ((gl_de9_1 rounds 0 x1.1).bind fun q47 => some (q47, x5.2)) else (some (x1.1, x5.2))))
def c_de9 : Con := ⟨Rd × Option Addr × Nat, ((List Feat) × Int), 335, fun a => [.pio 0 290], fun a => gf_de9 a.1, fun a r => ⟨[(false, [sl true 100 (List.map (eFeat false) r.1)])], [some [[.v (.slice a.2.1 (List.map eU8 a.1.b).length a.2.2), .v (.int .i64 r.2)]]]⟩, fun a => [(true, 290, [[.rw a.2.1 a.2.2 (List.map eU8 a.1.b), .v (.int .i64 a.1.p)]])]⟩
/-! spec.RepoNew -/
def ib_by9 : IC :=
 (Rs [Io 2 (.alloc 210 [.sl true 115 [], .sl true 130 []]), Kb 3 false]
 (.seq (Rs [Mv 4 0, Ca 5 14 [4], Nt 6 5]
 (Ct 6 (Rs [Io 7 (.build [.nil, .nil] []), Sv [some 115, some 130] 2 7, Kb 3 false]
 .ret)
 .skip))
 (Rs [Io 8 (.build [.nil, .nil, .v (.string ⟨#[]⟩)] [(2, 1, .c (.string ⟨#[98, 101, 103, 105, 110]⟩))]), Io 9 (.lit 115 [some 17, some 100, none] [.sl true 17 [], .sl true 100 [], .v (.string ⟨#[]⟩)] 1 [(0, .t 8)]), Mv 10 0, Io 11 (.build [.v (.string ⟨#[]⟩), .v (.int .i64 0)] [(0, 1, .t 10)]), Io 12 (.lit 130 [none, none] [.v (.string ⟨#[]⟩), .v (.int .i64 0)] 1 [(0, .t 11)]), Io 13 (.build [.nil, .nil] [(0, 1, .t 9), (1, 1, .t 12)]), Sv [some 115, some 130] 2 13, Kb 3 true]
 .ret)))
def if_by9 : IFn := ⟨14, [.inr (2, 2), .inl 3], ib_by9, lcF []⟩
def ks_by9 : List (List (Option Nat)) := [[some 115, some 130], [none]]
def gf_by9 (a0 : Str) : Option (Repo × Bool) := (gf_cf9 a0).bind fun x2 => if (!x2) = true then (some ((⟨[], []⟩ : Repo), false)) else (some ((⟨[(⟨[], [], (⟨#[98, 101, 103, 105, 110]⟩ : Str)⟩ : Commit)], [(⟨a0, 0⟩ : Head)]⟩ : Repo), true))
def c_by9 : Con := ⟨Str, (Repo × Bool), 227, fun a => [.v (.string a)], fun a => gf_by9 a, fun a r => ⟨[(true, eRepo true r.1), (false, [.v (.bool r.2)])], []⟩, fun a => []⟩
/-! spec.RepoBranch -/
def ib_bx9 : IC :=
 (Rs [Io 3 (.box 210 [some 115, some 130] (.t 0)), Io 6 (.alloc 210 [.sl true 115 [], .sl true 130 []]), Ki 7 0]
 (.seq (Rs [La 10 2 3, Ca 11 33 [10], Nt 12 11, Mv 13 12, Gf 13 (Mv 14 1), Gf 13 (Ca 15 14 [14]), Gf 13 (Nt 16 15), Pk 17 13 16]
 (Ct 17 (Rs [Io 18 (.build [.nil, .nil] []), Sv [some 115, some 130] 6 18, Ki 7 4]
 .ret)
 .skip))
 (seqC (.reg [La 19 2 3, Ca 20 61 [19], Io 8 (.alloc 210 [.sl true 115 [], .sl true 130 []]), Sv [some 115, some 130] 8 20])
 (Rs [La 21 2 3, Mv 22 2, Ca 23 28 [21, 22], Mv 9 23]
 (.seq (.block 0 (Rs [Mv 25 9, Bk 26 .lss 25 0, Mv 24 26]
 (Ct 24 (Rs [La 27 2 8, Sv [some 115, some 130] 6 27, Ki 7 1]
 .ret)
 (Rs [La 29 2 3, Mv 30 1, Ca 31 28 [29, 30], Bk 32 .geq 31 0, Mv 33 32, Gf 33 (Fa 34 1 3), Gf 33 (Ld 35 1 34), Gf 33 (Ln 36 35), Gf 33 (Bk 37 .geq 36 4), Pk 38 33 37, Mv 28 38]
 (Ct 28 (Rs [La 39 2 8, Sv [some 115, some 130] 6 39, Ki 7 2]
 .ret)
 .skip)))))
 (.seq (.drw [Fa 40 1 8, Ld 41 1 40, Mv 42 1, Fa 43 1 3, Ld 44 1 43, Mv 45 9, Ia 46 2 44 45, Fa 47 1 46, Ld 48 1 47, Io 49 (.build [.v (.string ⟨#[]⟩), .v (.int .i64 0)] [(0, 1, .t 42), (1, 1, .t 48)]), Io 50 (.lit 130 [none, none] [.v (.string ⟨#[]⟩), .v (.int .i64 0)] 1 [(0, .t 49)]), Io 51 (.app 130 true (.t 41) (.t 50)), Fa 52 1 8, Sv [some 130] 52 51] [(1, 4), (1, 8), (1, 10)])
 (Rs [La 53 2 8, Sv [some 115, some 130] 6 53, Ki 7 0]
 .ret)))))))
def if_bx9 : IFn := ⟨54, [.inr (6, 2), .inl 7], ib_bx9, lcF []⟩
def ks_bx9 : List (List (Option Nat)) := [[some 115, some 130], [none]]
def gf_bx9 (a0 : Repo) (a1 : Str) (a2 : Str) : Option (Repo × Int) := (gf_bz9 a0).bind fun x3 => if (!x3) = true then (some ((⟨[], []⟩ : Repo), 4)) else ((gf_cf9 a1).bind fun x5 => if (!x5) = true then (some ((⟨[], []⟩ : Repo), 4)) else ((((gf_dp9 a0).bind fun x8 => some (x8.commits, x8.heads) : Option ((List Commit) × (List Head)))).bind fun q7 => (gf_ds9 a0 a2).bind fun x28 => if (decide (x28 < 0)) = true then (some ((⟨q7.1, q7.2⟩ : Repo), 1)) else ((gf_ds9 a0 a1).bind fun x30 => if (decide (x30 ≥ 0)) = true then (some ((⟨q7.1, q7.2⟩ : Repo), 2)) else (if (decide ((a0.heads.length : Int) ≥ 4)) = true then (some ((⟨q7.1, q7.2⟩ : Repo), 2)) else ((idx a0.heads x28).bind fun x32 => if fits (q7.2 ++ ([(⟨a1, x32.at_⟩ : Head)] : (List Head))).length = true then some ((⟨q7.1, (q7.2 ++ ([(⟨a1, x32.at_⟩ : Head)] : (List Head)))⟩ : Repo), 0) else none)))))
def c_bx9 : Con := ⟨Repo × Str × Str, (Repo × Int), 224, fun a => [.agg [.ro (List.map (eCommit false) a.1.commits), .ro (List.map eHead a.1.heads)], .v (.string a.2.1), .v (.string a.2.2)], fun a => gf_bx9 a.1 a.2.1 a.2.2, fun a r => ⟨[(true, eRepo true r.1), (false, [.v (.int .i64 r.2)])], []⟩, fun a => []⟩
/-! spec.l7Name -/
def ib_dv9 : IC :=
 (Rs [Io 2 (.mv (.c (.string ⟨#[]⟩)))]
 (Rs [Mv 3 0, Io 4 (.lit 49 [none] [.v (.string ⟨#[]⟩)] 3 [(0, .c (.string ⟨#[109, 97, 105, 110]⟩)), (1, .c (.string ⟨#[97, 110, 110]⟩)), (2, .c (.string ⟨#[98, 111, 98]⟩))]), Io 5 (.call 326 [(true, .t 3), (false, .t 4)]), Mv 2 5]
 .ret))
def if_dv9 : IFn := ⟨6, [.inl 2], ib_dv9, lcF []⟩
def ks_dv9 : List (List (Option Nat)) := [[none]]
def gf_dv9 (a0 : Rd) : Option (Str × Int) := (gf_cl9 a0 ([(⟨#[109, 97, 105, 110]⟩ : Str), (⟨#[97, 110, 110]⟩ : Str), (⟨#[98, 111, 98]⟩ : Str)] : (List Str))).bind fun x2 => some (x2.1, x2.2)
def c_dv9 : Con := ⟨Rd × Option Addr × Nat, (Str × Int), 327, fun a => [.pio 0 290], fun a => gf_dv9 a.1, fun a r => ⟨[(false, [.v (.string r.1)])], [some [[.v (.slice a.2.1 (List.map eU8 a.1.b).length a.2.2), .v (.int .i64 r.2)]]]⟩, fun a => [(true, 290, [[.rw a.2.1 a.2.2 (List.map eU8 a.1.b), .v (.int .i64 a.1.p)]])]⟩
/-! spec.l3Cut -/
def ib_dg9 : IC :=
 (Rs [Io 4 (.mv (.c (.slice none 0 0)))]
 (Rs [Io 7 (.lit 100 [none, none, some 66, some 82] [.v (.string ⟨#[]⟩), .v (.int .i64 0), .sl true 66 [], .sl true 82 []] 0 []), Mv 5 7]
 (.seq (Rs [Ki 6 0]
 (blkC 0 (.loop (.seq (Rs [Mv 8 6, Mv 9 0, Ln 10 9, Bb 11 .lss 8 10]
 (Ct 11 .skip
 (.exit 0)))
 (.seq (.block 1 (Rs [Mv 14 0, Mv 15 6, Ia 16 4 14 15, Fa 17 0 16, Ld 18 1 17, Mv 19 1, Bb 20 .neq 18 19]
 (Ct 20 (.reg [Mv 21 5, Mv 22 0, Mv 23 6, Ia 24 4 22 23, La 25 4 24, Io 26 (.lit 100 [none, none, some 66, some 82] [.v (.string ⟨#[]⟩), .v (.int .i64 0), .sl true 66 [], .sl true 82 []] 1 [(0, .t 25)]), Io 27 (.app 100 true (.t 21) (.t 26)), Mv 5 27])
 .skip)))
 (.reg [Mv 12 6, Bk 13 .add 12 1, Mv 6 13]))))))
 (Rs [Mv 28 5, Mv 4 28]
 .ret))))
def if_dg9 : IFn := ⟨29, [.inl 4], ib_dg9, lcF []⟩
def ks_dg9 : List (List (Option Nat)) := [[some 100]]
def gl_dg9_1 (a1 : Str) : List Feat → Nat → (List Feat) → Option (List Feat)
 | [], k31, v28 => some v28
 | x32 :: l33, k31, v28 => if (!seq x32.id a1) = true then (if fits (v28 ++ ([x32] : (List Feat))).length = true then gl_dg9_1 a1 l33 (k31 + 1) (v28 ++ ([x32] : (List Feat))) else none) else (gl_dg9_1 a1 l33 (k31 + 1) v28)
def gf_dg9 (a0 : (List Feat)) (a1 : Str) : Option (List Feat) := if fits a0.length = true then ((gl_dg9_1 a1 a0 0 []).bind fun q26 => some (q26)) else none
def c_dg9 : Con := ⟨(List Feat) × Str, (List Feat), 364, fun a => [.ro (List.map (eFeat false) a.1), .v (.string a.2)], fun a => gf_dg9 a.1 a.2, fun a r => ⟨[(false, [sl true 100 (List.map (eFeat false) r)])], []⟩, fun a => []⟩
/-! spec.l4Bend -/
def ib_dl9 : IC :=
 (Rs [Io 3 (.box 226 [none, some 66] (.t 1)), Io 4 (.alloc 226 [.v (.int .i64 0), .sl true 66 []])]
 (.seq (Rs [Fa 8 1 3, Ld 9 1 8, Ln 10 9, Bk 11 .eql 10 0]
 (Ct 11 (Rs [La 12 2 3, Sv [none, some 66] 4 12]
 .ret)
 .skip))
 (Rs [Mv 13 0, Fa 14 1 3, Ld 15 1 14, Ln 16 15, Io 17 (.call 321 [(true, .t 13), (false, .t 16)]), Mv 5 17]
 (Rs [Io 18 (.lit 66 [none, none] [.v (.int .i64 0), .v (.int .i64 0)] 0 []), Fa 19 1 3, Ld 20 1 19, Mv 21 5, Io 22 (.sls 2 (.t 20) none (some (.t 21))), Io 23 (.app 66 false (.t 18) (.t 22)), Mv 6 23]
 (seqC (Rs [Mv 24 0, Io 25 (.call 321 [(true, .t 24), (false, .c (.int .i64 3))])]
 (.block 0 (Rs [Bk 38 .eql 25 0, Mv 37 38]
 (Ct 37 (.drw [Mv 39 6, Mv 40 0, Io 41 (.call 387 [(true, .t 40)]), Io 42 (.lit 66 [none, none] [.v (.int .i64 0), .v (.int .i64 0)] 1 [(0, .t 41)]), Io 43 (.app 66 true (.t 39) (.t 42)), Fa 44 1 3, Ld 45 1 44, Mv 46 5, Io 47 (.sls 2 (.t 45) (some (.t 46)) none), Io 48 (.app 66 false (.t 43) (.t 47)), Mv 6 48] [(2, 6), (3, 6), (4, 6)])
 (Rs [Bk 50 .eql 25 1, Mv 49 50]
 (Ct 49 (.reg [Mv 51 6, Fa 52 1 3, Ld 53 1 52, Mv 54 5, Bk 55 .add 54 1, Io 56 (.sls 2 (.t 53) (some (.t 55)) none), Io 57 (.app 66 false (.t 51) (.t 56)), Mv 6 57])
 (.drw [Mv 26 6, Mv 27 0, Io 28 (.call 387 [(true, .t 27)]), Io 29 (.lit 66 [none, none] [.v (.int .i64 0), .v (.int .i64 0)] 1 [(0, .t 28)]), Io 30 (.app 66 true (.t 26) (.t 29)), Fa 31 1 3, Ld 32 1 31, Mv 33 5, Bk 34 .add 33 1, Io 35 (.sls 2 (.t 32) (some (.t 34)) none), Io 36 (.app 66 false (.t 30) (.t 35)), Mv 6 36] [(2, 6), (3, 6), (4, 6)])))))))
 (Rs [Fa 58 0 3, Ld 59 1 58, Mv 60 6, Io 61 (.build [.v (.int .i64 0), .nil] [(0, 1, .t 59), (1, 1, .t 60)]), Io 7 (.alloc 226 [.v (.int .i64 0), .sl true 66 []]), Sv [none, some 66] 7 61]
 (.seq (Rs [La 62 2 7, Ca 63 15 [62], Nt 64 63]
 (Ct 64 (Rs [La 65 2 3, Sv [none, some 66] 4 65]
 .ret)
 .skip))
 (Rs [Io 66 (.frz (.load 2 true (.t 7))), Sv [none, some 66] 4 66]
 .ret))))))))
def if_dl9 : IFn := ⟨67, [.inr (4, 2)], ib_dl9, lcF []⟩
def ks_dl9 : List (List (Option Nat)) := [[none, some 66]]
def gf_dl9 (a0 : Rd) (a1 : Shape) : Option (Shape × Int) := if ((a1.pts.length : Int) == 0) = true then (some (a1, a0.p)) else ((gf_cm9 a0 (a1.pts.length : Int)).bind fun x3 => (slc a1.pts 0 x3.1).bind fun x6 => if fits ([] ++ x6).length = true then (((gf_cm9 (⟨a0.b, x3.2⟩ : Rd) 3).bind fun x41 => if (x41.1 == 0) = true then ((gf_cr9 (⟨a0.b, x41.2⟩ : Rd)).bind fun x43 => if fits (([] ++ x6) ++ ([x43.1] : (List Pt))).length = true then (slc a1.pts x3.1 (a1.pts.length : Int)).bind fun x49 => if fits ((([] ++ x6) ++ ([x43.1] : (List Pt))) ++ x49).length = true then some (((([] ++ x6) ++ ([x43.1] : (List Pt))) ++ x49), x43.2) else none else none) else (if (x41.1 == 1) = true then ((slc a1.pts (IntKind.i64.wrap (x3.1 + 1)) (a1.pts.length : Int)).bind fun x54 => if fits (([] ++ x6) ++ x54).length = true then some ((([] ++ x6) ++ x54), x41.2) else none) else ((gf_cr9 (⟨a0.b, x41.2⟩ : Rd)).bind fun x59 => if fits (([] ++ x6) ++ ([x59.1] : (List Pt))).length = true then (slc a1.pts (IntKind.i64.wrap (x3.1 + 1)) (a1.pts.length : Int)).bind fun x65 => if fits ((([] ++ x6) ++ ([x59.1] : (List Pt))) ++ x65).length = true then some (((([] ++ x6) ++ ([x59.1] : (List Pt))) ++ x65), x59.2) else none else none)) : Option ((List Pt) × Int))).bind fun q40 => (gf_ca9 (⟨a1.kind, q40.1⟩ : Shape)).bind fun x79 => if (!x79) = true then (some (a1, q40.2)) else (some ((⟨a1.kind, q40.1⟩ : Shape), q40.2)) else none)
def c_dl9 : Con := ⟨Rd × Shape × Option Addr × Nat, (Shape × Int), 367, fun a => [.pio 0 290, .agg [.v (.int .i64 a.2.1.kind), .ro (List.map ePt a.2.1.pts)]], fun a => gf_dl9 a.1 a.2.1, fun a r => ⟨[(true, eShape false r.1)], [some [[.v (.slice a.2.2.1 (List.map eU8 a.1.b).length a.2.2.2), .v (.int .i64 r.2)]]]⟩, fun a => [(true, 290, [[.rw a.2.2.1 a.2.2.2 (List.map eU8 a.1.b), .v (.int .i64 a.1.p)]])]⟩
/-! spec.l4Near -/
def ib_dm9 : IC :=
 (Rs [Io 4 (.mv (.c (.slice none 0 0)))]
 (Rs [Mv 11 1, Mv 5 11]
 (.seq (Rs [Mv 12 0, Io 13 (.call 321 [(true, .t 12), (false, .c (.int .i64 3))]), Io 14 (.bin .add (.c (.int .i64 1)) (.t 13)), Mv 6 14]
 (blkC 0 (.loop (.seq (Rs [Mv 15 6, Bk 16 .gtr 15 0]
 (Ct 16 .skip
 (.exit 0)))
 (.seq (.block 1 (Rs [Mv 19 0, Io 20 (.call 362 [(true, .t 19)]), Mv 7 20]
 (Rs [Mv 21 5, Mv 22 7, Ca 23 39 [21, 22], Mv 8 23]
 (.block 2 (Rs [Mv 38 8, Bk 39 .lss 38 0, Mv 37 39]
 (Ct 37 (.reg [Mv 40 5, Mv 41 0, Mv 42 7, Io 43 (.frz (.call 363 [(true, .t 41), (false, .t 42)])), Io 44 (.frz (.call 37 [(false, .t 40), (false, .t 43)])), Mv 5 44])
 (Rs [Mv 46 0, Io 47 (.call 321 [(true, .t 46), (false, .c (.int .i64 4))]), Bk 48 .eql 47 0, Mv 45 48]
 (Ct 45 (.reg [Mv 49 5, Mv 50 7, Io 51 (.frz (.call 364 [(false, .t 49), (false, .t 50)])), Mv 5 51])
 (Rs [Mv 53 0, Io 54 (.call 321 [(true, .t 53), (false, .c (.int .i64 2))]), Bk 55 .eql 54 0, Mv 52 55]
 (Ct 52 (Rs [Mv 56 5, Mv 57 8, Ia 58 4 56 57, La 59 4 58, Ca 60 30 [59], Io 9 (.alloc 100 [.v (.string ⟨#[]⟩), .v (.int .i64 0), .sl true 66 [], .sl true 82 []]), Sv [none, none, some 66, some 82] 9 60]
 (.seq (.drw [Fa 61 3 9, Ld 62 1 61, Mv 63 0, Io 64 (.call 365 [(true, .t 63)]), Mv 65 0, Io 66 (.call 366 [(true, .t 65)]), Ca 67 47 [62, 64, 66], Fa 68 3 9, Sv [some 82] 68 67] [(1, 3), (1, 5)])
 (.reg [Mv 69 5, Io 70 (.frz (.load 4 true (.t 9))), Io 71 (.frz (.call 37 [(false, .t 69), (false, .t 70)])), Mv 5 71])))
 (seqC (.reg [Mv 24 5, Mv 25 8, Ia 26 4 24 25, La 27 4 26, Ca 28 30 [27], Io 10 (.alloc 100 [.v (.string ⟨#[]⟩), .v (.int .i64 0), .sl true 66 [], .sl true 82 []]), Sv [none, none, some 66, some 82] 10 28])
 (Rs [Mv 29 0, Fa 30 1 10, Io 31 (.frz (.load 2 true (.t 30))), Io 32 (.call 367 [(true, .t 29), (false, .t 31)]), Fa 33 1 10, Sv [none, some 66] 33 32]
 (.reg [Mv 34 5, Io 35 (.frz (.load 4 true (.t 10))), Io 36 (.frz (.call 37 [(false, .t 34), (false, .t 35)])), Mv 5 36])))))))))))))
 (.reg [Mv 17 6, Bk 18 .sub 17 1, Mv 6 18]))))))
 (.seq (Rs [Mv 72 5, Ca 73 26 [72], Nt 74 73]
 (Ct 74 (Rs [Mv 75 1, Mv 4 75]
 .ret)
 .skip))
 (Rs [Mv 76 5, Mv 4 76]
 .ret)))))
def if_dm9 : IFn := ⟨77, [.inl 4], ib_dm9, lcF []⟩
def ks_dm9 : List (List (Option Nat)) := [[some 100]]
def gl_dm9_1 (a0 : Rd) : Nat → (List Feat) → Int → Int → Option ((List Feat) × Int)
 | 0, _, _, _ => none
 | n214 + 1, v211, v212, v213 => if (decide (v212 > 0)) = true then ((gf_cy9 (⟨a0.b, v213⟩ : Rd)).bind fun x215 => (gf_dh9 v211 x215.1).bind fun x217 => if (decide (x217 < 0)) = true then ((gf_cx9 (⟨a0.b, x215.2⟩ : Rd) x215.1).bind fun x219 => (gf_di9 v211 x219.1).bind fun x225 => gl_dm9_1 a0 n214 x225 (IntKind.i64.wrap (v212 - 1)) x219.2) else ((gf_cm9 (⟨a0.b, x215.2⟩ : Rd) 4).bind fun x229 => if (x229.1 == 0) = true then ((gf_dg9 v211 x215.1).bind fun x231 => gl_dm9_1 a0 n214 x231 (IntKind.i64.wrap (v212 - 1)) x229.2) else ((gf_cm9 (⟨a0.b, x229.2⟩ : Rd) 2).bind fun x235 => if (x235.1 == 0) = true then ((idx v211 x217).bind fun x237 => (gf_cw9 x237).bind fun x239 => (gf_cz9 (⟨a0.b, x235.2⟩ : Rd)).bind fun x246 => (gf_dd9 (⟨a0.b, x246.2⟩ : Rd)).bind fun x248 => (gf_da9 x239.tags x246.1 x248.1).bind fun x250 => (gf_di9 v211 (⟨x239.id, x239.shape, x250⟩ : Feat)).bind fun x254 => gl_dm9_1 a0 n214 x254 (IntKind.i64.wrap (v212 - 1)) x248.2) else ((((idx v211 x217).bind fun x259 => (gf_cw9 x259).bind fun x261 => some (x261.shape.pts, x261.tags, x261.id, x261.shape.kind) : Option ((List Pt) × (List Tag) × Str × Int))).bind fun q258 => (gf_dl9 (⟨a0.b, x235.2⟩ : Rd) (⟨q258.2.2.2, q258.1⟩ : Shape)).bind fun x277 => (gf_di9 v211 (⟨q258.2.2.1, x277.1, q258.2.1⟩ : Feat)).bind fun x279 => gl_dm9_1 a0 n214 x279 (IntKind.i64.wrap (v212 - 1)) x277.2)))) else (some (v211, v213))
def gf_dm9 (a0 : Rd) (a1 : (List Feat)) : Option ((List Feat) × Int) := (gf_cm9 a0 3).bind fun x1 => (gl_dm9_1 a0 rounds a1 (IntKind.i64.wrap (1 + x1.1)) x1.2).bind fun q210 => (gf_cc9 q210.1).bind fun x285 => if (!x285) = true then (some (a1, q210.2)) else (some (q210.1, q210.2))
def c_dm9 : Con := ⟨Rd × (List Feat) × Option Addr × Nat, ((List Feat) × Int), 336, fun a => [.pio 0 290, .ro (List.map (eFeat false) a.2.1)], fun a => gf_dm9 a.1 a.2.1, fun a r => ⟨[(false, [sl false 100 (List.map (eFeat false) r.1)])], [some [[.v (.slice a.2.2.1 (List.map eU8 a.1.b).length a.2.2.2), .v (.int .i64 r.2)]]]⟩, fun a => [(true, 290, [[.rw a.2.2.1 a.2.2.2 (List.map eU8 a.1.b), .v (.int .i64 a.1.p)]])]⟩
/-! spec.l7Note -/
def ib_dw9 : IC :=
 (Rs [Io 2 (.mv (.c (.string ⟨#[]⟩)))]
 (Rs [Mv 3 0, Io 4 (.lit 49 [none] [.v (.string ⟨#[]⟩)] 3 [(0, .c (.string ⟨#[97, 110, 110]⟩)), (1, .c (.string ⟨#[98, 111, 98]⟩)), (2, .c (.string ⟨#[102, 105, 120]⟩))]), Io 5 (.call 326 [(true, .t 3), (false, .t 4)]), Mv 2 5]
 .ret))
def if_dw9 : IFn := ⟨6, [.inl 2], ib_dw9, lcF []⟩
def ks_dw9 : List (List (Option Nat)) := [[none]]
def gf_dw9 (a0 : Rd) : Option (Str × Int) := (gf_cl9 a0 ([(⟨#[97, 110, 110]⟩ : Str), (⟨#[98, 111, 98]⟩ : Str), (⟨#[102, 105, 120]⟩ : Str)] : (List Str))).bind fun x2 => some (x2.1, x2.2)
def c_dw9 : Con := ⟨Rd × Option Addr × Nat, (Str × Int), 377, fun a => [.pio 0 290], fun a => gf_dw9 a.1, fun a r => ⟨[(false, [.v (.string r.1)])], [some [[.v (.slice a.2.1 (List.map eU8 a.1.b).length a.2.2), .v (.int .i64 r.2)]]]⟩, fun a => [(true, 290, [[.rw a.2.1 a.2.2 (List.map eU8 a.1.b), .v (.int .i64 a.1.p)]])]⟩
/-! spec.l7Grow -/
def ib_dr9 : IC :=
 (Rs [Io 3 (.box 210 [some 115, some 130] (.t 1)), Io 4 (.alloc 210 [.sl true 115 [], .sl true 130 []])]
 (Rs [Mv 12 0, Io 13 (.call 327 [(true, .t 12)]), Mv 5 13]
 (Rs [La 14 2 3, Mv 15 5, Ca 16 28 [14, 15], Mv 6 16]
 (.seq (Rs [Mv 17 6, Bk 18 .lss 17 0]
 (Ct 18 (.seq (.drw [La 20 2 3, Mv 21 5, Fa 22 1 3, Ld 23 1 22, Mv 24 0, Fa 25 1 3, Ld 26 1 25, Ln 27 26, Io 28 (.call 321 [(true, .t 24), (false, .t 27)]), Ia 29 2 23 28, Fa 30 0 29, Ld 31 1 30, Ca 32 224 [20, 21, 31], Mv 19 32, Xt 33 19 0, Xt 34 19 1, Io 7 (.alloc 210 [.sl true 115 [], .sl true 130 []]), Sv [some 115, some 130] 7 33, Mv 8 34] [(0, 3), (0, 6), (3, 6), (0, 8), (3, 8), (0, 11), (0, 16), (3, 16), (6, 16), (8, 16), (11, 16), (12, 16)])
 (.seq (Rs [Fa 35 1 7, Ld 36 1 35, Ln 37 36, Bk 38 .gtr 37 0]
 (Ct 38 (Rs [La 39 2 7, Sv [some 115, some 130] 4 39]
 .ret)
 .skip))
 (Rs [Io 40 (.ldr 2 (.t 3)), Iz (.store [none, none] (.t 4) (.t 40))]
 .ret)))
 .skip))
 (Rs [Fa 41 1 3, Ld 42 1 41, Mv 43 6, Ia 44 2 42 43, Fa 45 1 44, Ld 46 1 45, Mv 9 46]
 (seqC (.reg [Mv 47 9, Io 48 (.lit 17 [none] [.v (.int .i64 0)] 1 [(0, .t 47)]), Mv 49 0, Fa 50 0 3, Ld 51 1 50, Mv 52 9, Ia 53 3 51 52, Fa 54 1 53, Ld 55 1 54, Io 56 (.call 336 [(true, .t 49), (false, .t 55)]), Mv 57 0, Io 58 (.call 377 [(true, .t 57)]), Io 59 (.build [.nil, .nil, .v (.string ⟨#[]⟩)] [(0, 1, .t 48), (1, 1, .t 56), (2, 1, .t 58)]), Io 10 (.alloc 115 [.sl true 17 [], .sl true 100 [], .v (.string ⟨#[]⟩)]), Sv [some 17, some 100, none] 10 59])
 (.seq (.drw [Fa 60 1 3, Ld 61 1 60, Mv 62 0, Fa 63 1 3, Ld 64 1 63, Ln 65 64, Io 66 (.call 321 [(true, .t 62), (false, .t 65)]), Ia 67 2 61 66, Fa 68 1 67, Ld 69 1 68, Mv 11 69] [(1, 4), (1, 6)])
 (seqC (Rs [Mv 70 11, Mv 71 9, Bb 72 .neq 70 71, Mv 73 72, Gt 73 (Mv 74 0), Gt 73 (Io 75 (.call 321 [(true, .t 74), (false, .c (.int .i64 4))])), Gt 73 (Bk 76 .eql 75 0), Io 77 (.pick (.t 73) (.t 76) (.c (.bool false)))]
 (Ct 77 (.reg [Mv 78 9, Mv 79 11, Io 80 (.lit 17 [none] [.v (.int .i64 0)] 2 [(0, .t 78), (1, .t 79)]), Fa 81 0 10, Sv [some 17] 81 80])
 .skip))
 (.seq (Rs [Fa 82 0 3, Ld 83 1 82, Ln 84 83, Bk 85 .geq 84 12]
 (Ct 85 (Rs [Io 86 (.ldr 2 (.t 3)), Iz (.store [none, none] (.t 4) (.t 86))]
 .ret)
 .skip))
 (.seq (.drw [La 87 2 3, Ca 88 61 [87], Mv 89 6, La 90 3 10, Io 91 (.call 60 [(true, .t 88), (false, .t 89), (false, .t 90)]), Sv [some 115, some 130] 4 91] [(0, 3), (1, 3)])
 .ret))))))))))
def if_dr9 : IFn := ⟨92, [.inr (4, 2)], ib_dr9, lcF []⟩
def ks_dr9 : List (List (Option Nat)) := [[some 115, some 130]]
def gf_dr9 (a0 : Rd) (a1 : Repo) : Option ((Option Repo) × Int) := (gf_dv9 a0).bind fun x3 => (gf_ds9 a1 x3.1).bind fun x5 => if (decide (x5 < 0)) = true then ((gf_cm9 (⟨a0.b, x3.2⟩ : Rd) (a1.heads.length : Int)).bind fun x7 => (idx a1.heads x7.1).bind fun x9 => (gf_bx9 a1 x3.1 x9.name).bind fun x11 => if (decide ((x11.1.heads.length : Int) > 0)) = true then (some ((some x11.1), x7.2)) else (some ((none : Option Repo), x7.2))) else ((idx a1.heads x5).bind fun x18 => (((idx a1.commits x18.at_).bind fun x22 => (gf_dm9 (⟨a0.b, x3.2⟩ : Rd) x22.sheet).bind fun x24 => (gf_dw9 (⟨a0.b, x24.2⟩ : Rd)).bind fun x26 => some (x26.2, x24.1, x26.1) : Option (Int × (List Feat) × Str))).bind fun q20 => (gf_cm9 (⟨a0.b, q20.1⟩ : Rd) (a1.heads.length : Int)).bind fun x41 => (idx a1.heads x41.1).bind fun x43 => ((if (x43.at_ != x18.at_) = true then ((gf_cm9 (⟨a0.b, x41.2⟩ : Rd) 4).bind fun x49 => if (x49.1 == 0) = true then (some ([x18.at_, x43.at_], x49.2)) else (some ([x18.at_], x49.2))) else (some ([x18.at_], x41.2)) : Option ((List Int) × Int))).bind fun q48 => if (decide ((a1.commits.length : Int) ≥ 12)) = true then (some ((none : Option Repo), q48.2)) else ((gf_dp9 a1).bind fun x63 => (gf_dn9 x63 x5 (⟨q48.1, q20.2.1, q20.2.2⟩ : Commit)).bind fun x69 => some ((some x69), q48.2)))
def c_dr9 : Con := ⟨Rd × Repo × Option Addr × Nat × Option Addr × Nat × Option Addr × Nat, ((Option Repo) × Int), 357, fun a => [.pio 0 290, .agg [.raw a.2.2.2.2.1 a.2.2.2.2.2.1 (List.map (eCommit false) a.2.1.commits), .raw a.2.2.2.2.2.2.1 a.2.2.2.2.2.2.2 (List.map eHead a.2.1.heads)]], fun a => gf_dr9 a.1 a.2.1, fun a r => ⟨[(true, match r.1 with | some q => eRepo true q | none => [.v (.slice a.2.2.2.2.1 (List.map (eCommit false) a.2.1.commits).length a.2.2.2.2.2.1), .v (.slice a.2.2.2.2.2.2.1 (List.map eHead a.2.1.heads).length a.2.2.2.2.2.2.2)])], [some [[.v (.slice a.2.2.1 (List.map eU8 a.1.b).length a.2.2.2.1), .v (.int .i64 r.2)]]]⟩, fun a => [(true, 290, [[.rw a.2.2.1 a.2.2.2.1 (List.map eU8 a.1.b), .v (.int .i64 a.1.p)]])]⟩
/-! spec.l7Repo -/
def ib_dy9 : IC :=
 (Rs [Io 2 (.alloc 210 [.sl true 115 [], .sl true 130 []])]
 (Rs [Io 7 (.call 227 [(false, .c (.string ⟨#[109, 97, 105, 110]⟩))]), Mv 6 7, Io 8 (.pfz 1 (.ext (.t 6) 0)), Xt 9 6 1, Io 3 (.alloc 210 [.sl true 115 [], .sl true 130 []]), Sv [some 115, some 130] 3 8, Mv 4 9]
 (.seq (.drw [Fa 10 0 3, Ld 11 1 10, Mv 12 0, Io 13 (.frz (.call 361 [(true, .t 12)])), Io 14 (.iaddr 3 (.t 11) (.c (.int .i64 0))), Fa 15 1 14, Sv [some 100] 15 13] [(1, 3)])
 (.seq (Rs [Mv 16 0, Io 17 (.call 321 [(true, .t 16), (false, .c (.int .i64 7))]), Io 18 (.bin .add (.c (.int .i64 2)) (.t 17)), Mv 5 18]
 (blkC 0 (.loop (.seq (Rs [Mv 19 5, Bk 20 .gtr 19 0]
 (Ct 20 .skip
 (.exit 0)))
 (.seq (.block 1 (.reg [Mv 23 0, Io 24 (.rawl (.load 2 true (.t 3))), Io 25 (.pfz 1 (.unr [1000384, 1000385] (.call 357 [(true, .t 23), (false, .t 24)]))), Sv [some 115, some 130] 3 25]))
 (.reg [Mv 21 5, Bk 22 .sub 21 1, Mv 5 22]))))))
 (.seq (Rs [Mv 26 0, Io 27 (.call 321 [(true, .t 26), (false, .c (.int .i64 4))]), Bk 28 .eql 27 0, Mv 29 28, Gt 29 (Fa 30 1 3), Gt 29 (Ld 31 1 30), Gt 29 (Ln 32 31), Gt 29 (Bk 33 .gtr 32 1), Io 34 (.pick (.t 29) (.t 33) (.c (.bool false)))]
 (Ct 34 (.reg [Fa 35 1 3, Ld 36 1 35, Fa 37 1 3, Ld 38 1 37, Ln 39 38, Bk 40 .sub 39 1, Io 41 (.trn (.sls 2 (.t 36) none (some (.t 40)))), Fa 42 1 3, Sv [some 130] 42 41])
 .skip))
 (Rs [La 43 2 3, Sv [some 115, some 130] 2 43]
 .ret))))))
def if_dy9 : IFn := ⟨44, [.inr (2, 2)], ib_dy9, lcF []⟩
def ks_dy9 : List (List (Option Nat)) := [[some 115, some 130]]
def gl_dy9_1 (a0 : Rd) : Nat → Int → Int → (List Commit) → (List Head) → Option (Int × (List Commit) × (List Head))
 | 0, _, _, _, _ => none
 | n71 + 1, v57, v58, v64, v67 => if (decide (v57 > 0)) = true then ((gf_dr9 (⟨a0.b, v58⟩ : Rd) (⟨v64, v67⟩ : Repo)).bind fun x72 => match x72 with | (none, p75) => (gl_dy9_1 a0 n71 (IntKind.i64.wrap (v57 - 1)) p75 v64 v67) | (some y74, p75) => (gl_dy9_1 a0 n71 (IntKind.i64.wrap (v57 - 1)) p75 y74.commits y74.heads)) else (some (v58, v64, v67))
def gf_dy9 (a0 : Rd) : Option (Repo × Int) := (gf_by9 (⟨#[109, 97, 105, 110]⟩ : Str)).bind fun x2 => (gf_dk9 a0).bind fun x9 => (idx x2.1.commits 0).bind fun x13 => (gf_cm9 (⟨a0.b, x9.2⟩ : Rd) 7).bind fun x15 => (gl_dy9_1 a0 rounds (IntKind.i64.wrap (2 + x15.1)) x15.2 (List.set x2.1.commits (0 : Int).toNat (⟨x13.up, x9.1, x13.note⟩ : Commit)) x2.1.heads).bind fun q56 => (gf_cm9 (⟨a0.b, q56.1⟩ : Rd) 4).bind fun x90 => if (x90.1 == 0) = true then (if (decide ((q56.2.2.length : Int) > 1)) = true then ((slc q56.2.2 0 (IntKind.i64.wrap ((q56.2.2.length : Int) - 1))).bind fun x92 => some ((⟨q56.2.1, x92⟩ : Repo), x90.2)) else (some ((⟨q56.2.1, q56.2.2⟩ : Repo), x90.2))) else (some ((⟨q56.2.1, q56.2.2⟩ : Repo), x90.2))
def c_dy9 : Con := ⟨Rd × Option Addr × Nat, (Repo × Int), 355, fun a => [.pio 0 290], fun a => gf_dy9 a.1, fun a r => ⟨[(true, eRepoX r.1)], [some [[.v (.slice a.2.1 (List.map eU8 a.1.b).length a.2.2), .v (.int .i64 r.2)]]]⟩, fun a => [(true, 290, [[.rw a.2.1 a.2.2 (List.map eU8 a.1.b), .v (.int .i64 a.1.p)]])]⟩
/-! spec.l7Bent -/
def ib_do9 : IC :=
 (Rs [Io 2 (.alloc 210 [.sl true 115 [], .sl true 130 []])]
 (Rs [Mv 5 0, Io 6 (.call 355 [(true, .t 5)]), Io 3 (.alloc 210 [.sl true 115 [], .sl true 130 []]), Sv [some 115, some 130] 3 6]
 (Rs [Mv 7 0, Fa 8 0 3, Ld 9 1 8, Ln 10 9, Io 11 (.call 321 [(true, .t 7), (false, .t 10)]), Mv 4 11]
 (.seq (Rs [Mv 12 0, Io 13 (.call 321 [(true, .t 12), (false, .c (.int .i64 48))])]
 (.block 0 (seqC (.reg [Bk 15 .eql 13 0, Mv 14 15])
 (Ct 14 (.drw [Fa 16 1 3, Ld 17 1 16, Mv 18 0, Fa 19 0 3, Ld 20 1 19, Ln 21 20, Io 22 (.lit 17 [none] [.v (.int .i64 0)] 2 [(0, .c (.int .i64 (-1))), (1, .t 21)]), Io 23 (.call 356 [(true, .t 18), (false, .t 22)]), Io 24 (.iaddr 2 (.t 17) (.c (.int .i64 0))), Fa 25 1 24, Sv [none] 25 23] [(1, 4), (1, 6), (1, 7)])
 (Rs [Bk 27 .eql 13 1, Mv 26 27]
 (Ct 26 (.drw [Fa 28 0 3, Ld 29 1 28, Mv 30 4, Fa 31 0 3, Ld 32 1 31, Mv 33 4, Ia 34 3 32 33, Fa 35 0 34, Ld 36 1 35, Mv 37 4, Io 38 (.lit 17 [none] [.v (.int .i64 0)] 1 [(0, .t 37)]), Io 39 (.app 17 true (.t 36) (.t 38)), Ia 40 3 29 30, Fa 41 0 40, Sv [some 17] 41 39] [(1, 4), (1, 8), (1, 10), (4, 10), (8, 10), (1, 11)])
 (Rs [Bk 43 .eql 13 2, Mv 42 43]
 (Ct 42 (.drw [Fa 44 0 3, Ld 45 1 44, Mv 46 4, Mv 47 0, Io 48 (.frz (.call 335 [(true, .t 47)])), Ia 49 3 45 46, Fa 50 1 49, Sv [some 100] 50 48] [(1, 4)])
 (Rs [Bk 52 .eql 13 3, Mv 51 52]
 (Ct 51 (.reg [Fa 53 0 3, Ld 54 1 53, Mv 55 4, Ia 56 3 54 55, Fa 57 2 56, Iz (.store [none] (.t 57) (.c (.string ⟨#[]⟩)))])
 (Rs [Bk 59 .eql 13 4, Mv 58 59]
 (Ct 58 (.drw [Fa 60 1 3, Ld 61 1 60, Fa 62 1 3, Ld 63 1 62, Io 64 (.iaddr 2 (.t 63) (.c (.int .i64 0))), La 65 2 64, Io 66 (.lit 130 [none, none] [.v (.string ⟨#[]⟩), .v (.int .i64 0)] 1 [(0, .t 65)]), Io 67 (.app 130 true (.t 61) (.t 66)), Fa 68 1 3, Sv [some 130] 68 67] [(1, 3), (1, 5), (1, 6)])
 (Rs [Bk 70 .eql 13 5, Mv 69 70]
 (Ct 69 (.reg [Fa 71 0 3, Ld 72 1 71, Mv 73 4, Ia 74 3 72 73, Fa 75 0 74, Iz (.store [some 17] (.t 75) (.c (.slice none 0 0)))])
 .skip))))))))))))))
 (Rs [La 76 2 3, Sv [some 115, some 130] 2 76]
 .ret)))))
def if_do9 : IFn := ⟨77, [.inr (2, 2)], ib_do9, lcF []⟩
def ks_do9 : List (List (Option Nat)) := [[some 115, some 130]]
def gf_do9 (a0 : Rd) : Option (Repo × Int) := (gf_dy9 a0).bind fun x2 => (gf_cm9 (⟨a0.b, x2.2⟩ : Rd) (x2.1.commits.length : Int)).bind fun x9 => (gf_cm9 (⟨a0.b, x9.2⟩ : Rd) 48).bind fun x11 => ((some () : Option Unit)).bind fun q13 => if (x11.1 == 0) = true then ((gf_ck9 (⟨a0.b, x11.2⟩ : Rd) ([(-1), (x2.1.commits.length : Int)] : (List Int))).bind fun x25 => (idx x2.1.heads 0).bind fun x27 => some ((⟨x2.1.commits, (List.set x2.1.heads (0 : Int).toNat (⟨x27.name, x25.1⟩ : Head))⟩ : Repo), x25.2)) else (if (x11.1 == 1) = true then ((idx x2.1.commits x9.1).bind fun x29 => if fits (x29.up ++ ([x9.1] : (List Int))).length = true then some ((⟨(List.set x2.1.commits x9.1.toNat (⟨(x29.up ++ ([x9.1] : (List Int))), x29.sheet, x29.note⟩ : Commit)), x2.1.heads⟩ : Repo), x11.2) else none) else (if (x11.1 == 2) = true then ((gf_de9 (⟨a0.b, x11.2⟩ : Rd)).bind fun x37 => (idx x2.1.commits x9.1).bind fun x41 => some ((⟨(List.set x2.1.commits x9.1.toNat (⟨x41.up, x37.1, x41.note⟩ : Commit)), x2.1.heads⟩ : Repo), x37.2)) else (if (x11.1 == 3) = true then ((idx x2.1.commits x9.1).bind fun x43 => some ((⟨(List.set x2.1.commits x9.1.toNat (⟨x43.up, x43.sheet, (⟨#[]⟩ : Str)⟩ : Commit)), x2.1.heads⟩ : Repo), x11.2)) else (if (x11.1 == 4) = true then ((idx x2.1.heads 0).bind fun x45 => if fits (x2.1.heads ++ ([x45] : (List Head))).length = true then some ((⟨x2.1.commits, (x2.1.heads ++ ([x45] : (List Head)))⟩ : Repo), x11.2) else none) else (if (x11.1 == 5) = true then ((idx x2.1.commits x9.1).bind fun x51 => some ((⟨(List.set x2.1.commits x9.1.toNat (⟨[], x51.sheet, x51.note⟩ : Commit)), x2.1.heads⟩ : Repo), x11.2)) else (some (x2.1, x11.2)))))))
def c_do9 : Con := ⟨Rd × Option Addr × Nat, (Repo × Int), 317, fun a => [.pio 0 290], fun a => gf_do9 a.1, fun a r => ⟨[(true, eRepoX r.1)], [some [[.v (.slice a.2.1 (List.map eU8 a.1.b).length a.2.2), .v (.int .i64 r.2)]]]⟩, fun a => [(true, 290, [[.rw a.2.1 a.2.2 (List.map eU8 a.1.b), .v (.int .i64 a.1.p)]])]⟩
/-! impl.RepoAt -/
def ib_ac9 : IC :=
 (Rs [Io 2 (.box 210 [some 115, some 130] (.t 0)), Ki 4 0]
 (Rs [La 6 2 2, Mv 7 1, Ca 8 89 [6, 7], Mv 5 8]
 (.seq (Rs [La 9 2 2, Ca 10 96 [9], Nt 11 10, Mv 12 11, Gf 12 (Mv 13 5), Gf 12 (Bk 14 .lss 13 0), Pk 15 12 14]
 (Ct 15 (Rs [Ki 4 (-1)]
 .ret)
 .skip))
 (Rs [Fa 16 1 2, Ld 17 1 16, Mv 18 5, Ia 19 2 17 18, Fa 20 1 19, Ld 21 1 20, Mv 4 21]
 .ret))))
def if_ac9 : IFn := ⟨22, [.inl 4], ib_ac9, lcF []⟩
def ks_ac9 : List (List (Option Nat)) := [[none]]
def gf_ac9 (a0 : Repo) (a1 : Str) : Option Int := (gf_ah9 a0 a1).bind fun x2 => (gf_ad9 a0).bind fun x4 => if (!x4) = true then (some ((-1))) else (if (decide (x2 < 0)) = true then (some ((-1))) else ((idx a0.heads x2).bind fun x6 => some (x6.at_)))
def c_ac9 : Con := ⟨Repo × Str, Int, 213, fun a => [.agg [.ro (List.map (eCommit false) a.1.commits), .ro (List.map eHead a.1.heads)], .v (.string a.2)], fun a => gf_ac9 a.1 a.2, fun a r => ⟨[(false, [.v (.int .i64 r)])], []⟩, fun a => []⟩
/-! impl.greatestFirst -/
def ib_bb9 : IC :=
 (Rs [Io 2 (.mv (.c (.slice none 0 0)))]
 (Rs [Io 5 (.lit 17 [none] [.v (.int .i64 0)] 0 []), Mv 3 5]
 (.seq (Rs [Mv 6 0, Ln 7 6, Bk 8 .sub 7 1, Mv 4 8]
 (blkC 0 (.loop (.seq (Rs [Mv 9 4, Bk 10 .geq 9 0]
 (Ct 10 .skip
 (.exit 0)))
 (.seq (.block 1 (Rs [Mv 13 0, Mv 14 4, Ia 15 1 13 14, Ld 16 1 15]
 (Ct 16 (.reg [Mv 17 3, Mv 18 4, Io 19 (.lit 17 [none] [.v (.int .i64 0)] 1 [(0, .t 18)]), Io 20 (.app 17 true (.t 17) (.t 19)), Mv 3 20])
 .skip)))
 (.reg [Mv 11 4, Bk 12 .sub 11 1, Mv 4 12]))))))
 (Rs [Mv 21 3, Mv 2 21]
 .ret))))
def if_bb9 : IFn := ⟨22, [.inl 2], ib_bb9, lcF []⟩
def ks_bb9 : List (List (Option Nat)) := [[some 17]]
def gl_bb9_1 (a0 : (List Bool)) : Nat → Int → (List Int) → Option (List Int)
 | 0, _, _ => none
 | n31 + 1, v27, v28 => if (decide (v27 ≥ 0)) = true then ((idx a0 v27).bind fun x32 => if x32 = true then (if fits (v28 ++ ([v27] : (List Int))).length = true then gl_bb9_1 a0 n31 (IntKind.i64.wrap (v27 - 1)) (v28 ++ ([v27] : (List Int))) else none) else (gl_bb9_1 a0 n31 (IntKind.i64.wrap (v27 - 1)) v28)) else (some v28)
def gf_bb9 (a0 : (List Bool)) : Option (List Int) := (gl_bb9_1 a0 rounds (IntKind.i64.wrap ((a0.length : Int) - 1)) []).bind fun q26 => some (q26)
def c_bb9 : Con := ⟨(List Bool), (List Int), 319, fun a => [.ro (List.map eBool a)], fun a => gf_bb9 a, fun a r => ⟨[(false, [sl true 17 (List.map eInt r)])], []⟩, fun a => []⟩
/-! impl.RepoPast -/
def ib_ae9 : IC :=
 (Rs [Io 2 (.box 210 [some 115, some 130] (.t 0)), Io 4 (.mv (.c (.slice none 0 0)))]
 (.seq (Rs [La 5 2 2, Ca 6 96 [5], Nt 7 6, Mv 8 7, Gf 8 (La 9 2 2), Gf 8 (Mv 10 1), Gf 8 (Ca 11 90 [9, 10]), Gf 8 (Nt 12 11), Pk 13 8 12]
 (Ct 13 (Rs [Io 14 (.lit 17 [none] [.v (.int .i64 0)] 0 []), Mv 4 14]
 .ret)
 .skip))
 (Rs [La 15 2 2, Mv 16 1, Ca 17 97 [15, 16], Ca 18 319 [17], Mv 4 18]
 .ret)))
def if_ae9 : IFn := ⟨19, [.inl 4], ib_ae9, lcF []⟩
def ks_ae9 : List (List (Option Nat)) := [[some 17]]
def gf_ae9 (a0 : Repo) (a1 : Int) : Option (List Int) := (gf_ad9 a0).bind fun x2 => if (!x2) = true then (some (([] : (List Int)))) else ((gf_ak9 a0 a1).bind fun x4 => if (!x4) = true then (some (([] : (List Int)))) else ((gf_aj9 a0 a1).bind fun x8 => (gf_bb9 x8).bind fun x12 => some (x12)))
def c_ae9 : Con := ⟨Repo × Int, (List Int), 214, fun a => [.agg [.ro (List.map (eCommit false) a.1.commits), .ro (List.map eHead a.1.heads)], .v (.int .i64 a.2)], fun a => gf_ae9 a.1 a.2, fun a r => ⟨[(false, [sl true 17 (List.map eInt r)])], []⟩, fun a => []⟩
/-! spec.l10Two -/
def ib_ci9 : IC :=
 (Rs [Io 2 (.alloc 210 [.sl true 115 [], .sl true 130 []]), Io 3 (.alloc 210 [.sl true 115 [], .sl true 130 []])]
 (Rs [Mv 7 0, Io 8 (.call 355 [(true, .t 7)]), Io 4 (.alloc 210 [.sl true 115 [], .sl true 130 []]), Sv [some 115, some 130] 4 8]
 (Rs [La 9 2 4, Io 10 (.pfz 1 (.call 61 [(false, .t 9)])), Io 5 (.alloc 210 [.sl true 115 [], .sl true 130 []]), Sv [some 115, some 130] 5 10]
 (.seq (Rs [Mv 11 0, Io 12 (.call 321 [(true, .t 11), (false, .c (.int .i64 4))]), Mv 6 12]
 (blkC 0 (.loop (.seq (Rs [Mv 13 6, Bk 14 .gtr 13 0]
 (Ct 14 .skip
 (.exit 0)))
 (.seq (.block 1 (.reg [Mv 17 0, Io 18 (.rawl (.load 2 true (.t 5))), Io 19 (.pfz 1 (.unr [1000640, 1000641] (.call 357 [(true, .t 17), (false, .t 18)]))), Sv [some 115, some 130] 5 19]))
 (.reg [Mv 15 6, Bk 16 .sub 15 1, Mv 6 16]))))))
 (seqC (Rs [Mv 20 0, Io 21 (.call 321 [(true, .t 20), (false, .c (.int .i64 10))])]
 (.block 2 (Rs [Bk 23 .eql 21 0, Mv 22 23]
 (Ct 22 (.seq (.drw [Mv 24 0, Io 25 (.call 317 [(true, .t 24)]), La 26 2 5, Sv [some 115, some 130] 2 25, Sv [some 115, some 130] 3 26] [(1, 2), (2, 3)])
 .ret)
 (Rs [Bk 28 .eql 21 1, Mv 27 28]
 (Ct 27 (.seq (.drw [La 29 2 4, Mv 30 0, Io 31 (.call 317 [(true, .t 30)]), Sv [some 115, some 130] 2 29, Sv [some 115, some 130] 3 31] [(0, 2)])
 .ret)
 (seqC (Rs [Bk 33 .eql 21 2, Mv 32 33]
 (Ct 32 .skip
 (Rs [Bk 34 .eql 21 3, Mv 32 34]
 (Ct 32 .skip
 (.reg [Bk 35 .eql 21 4, Mv 32 35])))))
 (Ct 32 (.reg [Mv 36 0, Mv 37 0, Io 38 (.rawl (.load 2 true (.t 4))), Io 39 (.rawl (.ren 2000624 0 (.pfz 1 (.unr [1000512, 1000513] (.call 357 [(true, .t 37), (false, .t 38)]))))), Io 40 (.pfz 1 (.unr [2000624, 2000625] (.call 357 [(true, .t 36), (false, .t 39)]))), Sv [some 115, some 130] 4 40])
 .skip))))))))
 (.seq (.drw [La 41 2 4, La 42 2 5, Sv [some 115, some 130] 2 41, Sv [some 115, some 130] 3 42] [(0, 1), (1, 2)])
 .ret))))))
def if_ci9 : IFn := ⟨43, [.inr (2, 2), .inr (3, 2)], ib_ci9, lcF []⟩
def ks_ci9 : List (List (Option Nat)) := [[some 115, some 130], [some 115, some 130]]
def gl_ci9_1 (a0 : Rd) : Nat → Int → Int → (List Commit) → (List Head) → Option (Int × (List Commit) × (List Head))
 | 0, _, _, _, _ => none
 | n103 + 1, v79, v80, v96, v99 => if (decide (v79 > 0)) = true then ((gf_dr9 (⟨a0.b, v80⟩ : Rd) (⟨v96, v99⟩ : Repo)).bind fun x104 => match x104 with | (none, p107) => (gl_ci9_1 a0 n103 (IntKind.i64.wrap (v79 - 1)) p107 v96 v99) | (some y106, p107) => (gl_ci9_1 a0 n103 (IntKind.i64.wrap (v79 - 1)) p107 y106.commits y106.heads)) else (some (v80, v96, v99))
def gf_ci9 (a0 : Rd) : Option (Repo × Repo × Int) := (gf_dy9 a0).bind fun x3 => (gf_dp9 x3.1).bind fun x10 => (gf_cm9 (⟨a0.b, x3.2⟩ : Rd) 4).bind fun x17 => (gl_ci9_1 a0 rounds x17.1 x17.2 x10.commits x10.heads).bind fun q78 => (((gf_cm9 (⟨a0.b, q78.1⟩ : Rd) 10).bind fun x184 => if (x184.1 == 0) = true then ((gf_do9 (⟨a0.b, x184.2⟩ : Rd)).bind fun x186 => some (.inl (x186.1, (⟨q78.2.1, q78.2.2⟩ : Repo), x186.2))) else (if (x184.1 == 1) = true then ((gf_do9 (⟨a0.b, x184.2⟩ : Rd)).bind fun x192 => some (.inl (x3.1, x192.1, x192.2))) else (((if (x184.1 == 2) = true then (some true) else (if (x184.1 == 3) = true then (some true) else (some (x184.1 == 4))) : Option Bool)).bind fun q198 => if q198 = true then ((gf_dr9 (⟨a0.b, x184.2⟩ : Rd) x3.1).bind fun x220 => match x220 with | (none, p223) => ((gf_dr9 (⟨a0.b, p223⟩ : Rd) x3.1).bind fun x225 => match x225 with | (none, p228) => (some (.inr (x3.1.commits, x3.1.heads, p228))) | (some y227, p228) => (some (.inr (y227.commits, y227.heads, p228)))) | (some y222, p223) => ((gf_dr9 (⟨a0.b, p223⟩ : Rd) y222).bind fun x230 => match x230 with | (none, p233) => (some (.inr (y222.commits, y222.heads, p233))) | (some y232, p233) => (some (.inr (y232.commits, y232.heads, p233))))) else (some (.inr (x3.1.commits, x3.1.heads, x184.2))))) : Option ((Repo × Repo × Int) ⊕ ((List Commit) × (List Head) × Int)))).bind fun q => match q with | .inl r => some r | .inr q183 => some ((⟨q183.1, q183.2.1⟩ : Repo), (⟨q78.2.1, q78.2.2⟩ : Repo), q183.2.2)
def c_ci9 : Con := ⟨Rd × Option Addr × Nat, (Repo × Repo × Int), 320, fun a => [.pio 0 290], fun a => gf_ci9 a.1, fun a r => ⟨[(true, eRepoX r.1), (true, eRepoX r.2.1)], [some [[.v (.slice a.2.1 (List.map eU8 a.1.b).length a.2.2), .v (.int .i64 r.2.2)]]]⟩, fun a => [(true, 290, [[.rw a.2.1 a.2.2 (List.map eU8 a.1.b), .v (.int .i64 a.1.p)]])]⟩
/-! impl.SyncFind$1 -/
def ib_aq9 : IC :=
 (Rs [Kb 3 false]
 (Rs [Mv 4 0, Ld 5 1 1, Ia 6 1 4 5, Ld 7 1 6, Mv 3 7]
 .ret))
def if_aq9 : IFn := ⟨8, [.inl 3], ib_aq9, lcF []⟩
def ks_aq9 : List (List (Option Nat)) := [[none]]
def gf_aq9 (a0 : (List Bool)) (a1 : Int) : Option Bool := (idx a0 a1).bind fun x1 => some (x1)
def c_aq9 : Con := ⟨(List Bool) × Int, Bool, 322, fun a => [.ro (List.map eBool a.1), .rptr [.v (.int .i64 a.2)]], fun a => gf_aq9 a.1 a.2, fun a r => ⟨[(false, [.v (.bool r)])], []⟩, fun a => []⟩
/-! slices.IndexFunc[[][]bool,[]bool] -/
def ib_bm9 : IC :=
 (Rs [Ki 4 0]
 (.seq (Rs [Mv 6 0, Ln 7 6, Ki 8 0]
 (blkC 0 (.loop (Rs [Bb 9 .lss 8 7]
 (.seq (Ct 9 .skip
 (.exit 0))
 (.seq (.block 1 (Rs [Mv 10 8, Mv 5 10]
 (Rs [Mv 11 1, Mv 12 0, Mv 13 5, Ia 14 1 12 13, Ld 15 1 14, Io 16 (.calld (.t 11) [(false, .t 15)])]
 (Ct 16 (Rs [Mv 17 5, Mv 4 17]
 .ret)
 .skip))))
 (.reg [Bk 18 .add 8 1, Mv 8 18])))))))
 (Rs [Ki 4 (-1)]
 .ret)))
def if_bm9 : IFn := ⟨19, [.inl 4], ib_bm9, lcF []⟩
def ks_bm9 : List (List (Option Nat)) := [[none]]
def gl_bn9_1 (a1 : Int) : List (List Bool) → Nat → Option (Int ⊕ Unit)
 | [], k16 => some (.inr ())
 | x17 :: l18, k16 => (gf_aq9 x17 a1).bind fun x25 => if x25 = true then (some (.inl ((k16 : Int)))) else (gl_bn9_1 a1 l18 (k16 + 1) )
def gf_bn9 (a0 : (List (List Bool))) (a1 : Int) : Option Int := if fits a0.length = true then ((gl_bn9_1 a1 a0 0 ).bind fun q => match q with | .inl r => some r | .inr q14 => some ((-1))) else none
def c_bn9 : Con := ⟨(List (List Bool)) × Int, Int, 323, fun a => [.ro (List.map (eSl false 33 eBool) a.1), .fn 322 [.rptr [.v (.int .i64 a.2)]]], fun a => gf_bn9 a.1 a.2, fun a r => ⟨[(false, [.v (.int .i64 r)])], []⟩, fun a => []⟩
/-! impl.SyncFind -/
def ib_ap9 : IC :=
 (Rs [Io 3 (.box 210 [some 115, some 130] (.t 0)), Io 4 (.box 210 [some 115, some 130] (.t 1)), Io 5 (.box 17 [none] (.t 2)), Ki 6 0]
 (.seq (Rs [La 7 2 3, Ca 8 96 [7], Nt 9 8, Mv 10 9, Gf 10 (La 11 2 4), Gf 10 (Ca 12 96 [11]), Gf 10 (Nt 13 12), Pk 14 10 13, Mv 15 14, Gf 15 (La 16 2 4), Gf 15 (Ld 17 1 5), Gf 15 (Ca 18 90 [16, 17]), Gf 15 (Nt 19 18), Pk 20 15 19]
 (Ct 20 (Rs [Ki 6 (-1)]
 .ret)
 .skip))
 (Rs [La 21 2 3, La 22 2 4, Ca 23 315 [21, 22], Io 24 (.mkf 322 [.t 5]), Ca 25 323 [23, 24], Mv 6 25]
 .ret)))
def if_ap9 : IFn := ⟨26, [.inl 6], ib_ap9, lcF []⟩
def ks_ap9 : List (List (Option Nat)) := [[none]]
def gf_ap9 (a0 : Repo) (a1 : Repo) (a2 : Int) : Option Int := (gf_ad9 a0).bind fun x4 => if (!x4) = true then (some ((-1))) else ((gf_ad9 a1).bind fun x6 => if (!x6) = true then (some ((-1))) else ((gf_ak9 a1 a2).bind fun x8 => if (!x8) = true then (some ((-1))) else ((gf_av9 a0 a1).bind fun x10 => (gf_bn9 x10 a2).bind fun x14 => some (x14))))
def c_ap9 : Con := ⟨Repo × Repo × Int, Int, 218, fun a => [.agg [.ro (List.map (eCommit false) a.1.commits), .ro (List.map eHead a.1.heads)], .agg [.ro (List.map (eCommit false) a.2.1.commits), .ro (List.map eHead a.2.1.heads)], .v (.int .i64 a.2.2)], fun a => gf_ap9 a.1 a.2.1 a.2.2, fun a r => ⟨[(false, [.v (.int .i64 r)])], []⟩, fun a => []⟩
/-! spec.l10Find -/
def ib_cg9 : IC :=
 (Rs [Io 3 (.box 210 [some 115, some 130] (.t 0)), Io 4 (.box 210 [some 115, some 130] (.t 1)), Ki 6 0]
 (.seq (Rs [Ki 7 0]
 (blkC 0 (.loop (.seq (Rs [Mv 8 7, Fa 9 0 3, Ld 10 1 9, Ln 11 10, Bb 12 .lss 8 11]
 (Ct 12 .skip
 (.exit 0)))
 (.seq (.block 1 (Rs [La 15 2 3, Mv 16 7, La 17 2 4, Mv 18 2, Ca 19 314 [15, 16, 17, 18]]
 (Ct 19 (Rs [Mv 20 7, Mv 6 20]
 .ret)
 .skip)))
 (.reg [Mv 13 7, Bk 14 .add 13 1, Mv 7 14]))))))
 (Rs [Ki 6 (-1)]
 .ret)))
def if_cg9 : IFn := ⟨21, [.inl 6], ib_cg9, lcF []⟩
def ks_cg9 : List (List (Option Nat)) := [[none]]
def gl_cg9_1 (a0 : Repo) (a1 : Repo) (a2 : Int) : List Commit → Nat → Option (Int ⊕ Unit)
 | [], k18 => some (.inr ())
 | x19 :: l20, k18 => (gf_ch9 rounds a0 (k18 : Int) a1 a2).bind fun x27 => if x27 = true then (some (.inl ((k18 : Int)))) else (gl_cg9_1 a0 a1 a2 l20 (k18 + 1) )
def gf_cg9 (a0 : Repo) (a1 : Repo) (a2 : Int) : Option Int := if fits a0.commits.length = true then ((gl_cg9_1 a0 a1 a2 a0.commits 0 ).bind fun q => match q with | .inl r => some r | .inr q14 => some ((-1))) else none
def c_cg9 : Con := ⟨Repo × Repo × Int, Int, 324, fun a => [.agg [.ro (List.map (eCommit false) a.1.commits), .ro (List.map eHead a.1.heads)], .agg [.ro (List.map (eCommit false) a.2.1.commits), .ro (List.map eHead a.2.1.heads)], .v (.int .i64 a.2.2)], fun a => gf_cg9 a.1 a.2.1 a.2.2, fun a r => ⟨[(false, [.v (.int .i64 r)])], []⟩, fun a => []⟩
/-! spec.RepoAt -/
def ib_bw9 : IC :=
 (Rs [Io 2 (.box 210 [some 115, some 130] (.t 0)), Ki 4 0]
 (Rs [La 6 2 2, Mv 7 1, Ca 8 28 [6, 7], Mv 5 8]
 (.seq (Rs [La 9 2 2, Ca 10 33 [9], Nt 11 10, Mv 12 11, Gf 12 (Mv 13 5), Gf 12 (Bk 14 .lss 13 0), Pk 15 12 14]
 (Ct 15 (Rs [Ki 4 (-1)]
 .ret)
 .skip))
 (Rs [Fa 16 1 2, Ld 17 1 16, Mv 18 5, Ia 19 2 17 18, Fa 20 1 19, Ld 21 1 20, Mv 4 21]
 .ret))))
def if_bw9 : IFn := ⟨22, [.inl 4], ib_bw9, lcF []⟩
def ks_bw9 : List (List (Option Nat)) := [[none]]
def gf_bw9 (a0 : Repo) (a1 : Str) : Option Int := (gf_ds9 a0 a1).bind fun x2 => (gf_bz9 a0).bind fun x4 => if (!x4) = true then (some ((-1))) else (if (decide (x2 < 0)) = true then (some ((-1))) else ((idx a0.heads x2).bind fun x6 => some (x6.at_)))
def c_bw9 : Con := ⟨Repo × Str, Int, 232, fun a => [.agg [.ro (List.map (eCommit false) a.1.commits), .ro (List.map eHead a.1.heads)], .v (.string a.2)], fun a => gf_bw9 a.1 a.2, fun a r => ⟨[(false, [.v (.int .i64 r)])], []⟩, fun a => []⟩
/-! spec.DrawSyncLack -/
def ib_bt9 : IC :=
 (Rs [Io 2 (.alloc 210 [.sl true 115 [], .sl true 130 []]), Io 3 (.alloc 210 [.sl true 115 [], .sl true 130 []]), Io 4 (.mv (.c (.string ⟨#[]⟩)))]
 (Rs [Mv 8 0, Ca 9 316 [8], Mv 5 9]
 (Rs [Mv 11 5, Io 12 (.frz (.call 320 [(true, .t 11)])), Mv 10 12, Xt 13 10 0, Xt 14 10 1, Io 6 (.alloc 210 [.sl true 115 [], .sl true 130 []]), Io 7 (.alloc 210 [.sl true 115 [], .sl true 130 []]), Sv [some 115, some 130] 6 13, Sv [some 115, some 130] 7 14]
 (.seq (.drw [La 15 2 6, La 16 2 7, Mv 17 5, Io 18 (.lit 49 [none] [.v (.string ⟨#[]⟩)] 4 [(0, .c (.string ⟨#[109, 97, 105, 110]⟩)), (1, .c (.string ⟨#[97, 110, 110]⟩)), (2, .c (.string ⟨#[98, 111, 98]⟩)), (3, .c (.string ⟨#[99, 97, 116]⟩))]), Io 19 (.call 326 [(true, .t 17), (false, .w 18)]), Sv [some 115, some 130] 2 15, Sv [some 115, some 130] 3 16, Mv 4 19] [(0, 1), (0, 3), (1, 3), (0, 4), (1, 4), (1, 5)])
 .ret))))
def if_bt9 : IFn := ⟨20, [.inr (2, 2), .inr (3, 2), .inl 4], ib_bt9, lcF []⟩
def ks_bt9 : List (List (Option Nat)) := [[some 115, some 130], [some 115, some 130], [none]]
def gf_bt9 (a0 : (List UInt8)) : Option (Repo × Repo × Str) := (gf_cj9 a0).bind fun x3 => (gf_ci9 x3).bind fun x6 => (gf_cl9 (⟨x3.b, x6.2.2⟩ : Rd) ([(⟨#[109, 97, 105, 110]⟩ : Str), (⟨#[97, 110, 110]⟩ : Str), (⟨#[98, 111, 98]⟩ : Str), (⟨#[99, 97, 116]⟩ : Str)] : (List Str))).bind fun x19 => some (x6.1, x6.2.1, x19.1)
def c_bt9 : Con := ⟨(List UInt8) × Option Addr × Nat, (Repo × Repo × Str), 263, fun a => [.raw a.2.1 a.2.2 (List.map eU8 a.1)], fun a => gf_bt9 a.1, fun a r => ⟨[(true, eRepo false r.1), (true, eRepo false r.2.1), (false, [.v (.string r.2.2)])], []⟩, fun a => []⟩
/-! impl.SyncLack -/
def ib_ar9 : IC :=
 (Rs [Io 3 (.box 210 [some 115, some 130] (.t 0)), Io 4 (.box 210 [some 115, some 130] (.t 1)), Io 6 (.mv (.c (.slice none 0 0)))]
 (Rs [Io 10 (.lit 17 [none] [.v (.int .i64 0)] 0 []), Mv 7 10]
 (.seq (Rs [La 11 2 3, Ca 12 96 [11], Nt 13 12, Mv 14 13, Gf 14 (La 15 2 4), Gf 14 (Ca 16 96 [15]), Gf 14 (Nt 17 16), Pk 18 14 17, Mv 19 18, Gf 19 (La 20 2 4), Gf 19 (Mv 21 2), Gf 19 (Ca 22 89 [20, 21]), Gf 19 (Bk 23 .lss 22 0), Pk 24 19 23]
 (Ct 24 (Rs [Mv 25 7, Mv 6 25]
 .ret)
 .skip))
 (.seq (.seq (.drw [La 26 2 4, Fa 27 1 4, Ld 28 1 27, La 29 2 4, Mv 30 2, Ca 31 89 [29, 30], Ia 32 2 28 31, Fa 33 1 32, Ld 34 1 33, Ca 35 97 [26, 34], Ln 36 35, Ki 37 0] [(0, 2), (0, 3), (2, 3), (0, 5), (2, 5), (0, 8)])
 (blkC 0 (.loop (Rs [Bb 38 .lss 37 36]
 (.seq (Ct 38 .skip
 (.exit 0))
 (.seq (.block 1 (Rs [Mv 39 37, Ia 40 1 35 37, Ld 41 1 40, Mv 8 39, Mv 9 41]
 (Rs [Mv 42 9, Mv 43 42, Gt 43 (La 44 2 3), Gt 43 (La 45 2 4), Gt 43 (Mv 46 8), Gt 43 (Ca 47 218 [44, 45, 46]), Gt 43 (Bk 48 .lss 47 0), Io 49 (.pick (.t 43) (.t 48) (.c (.bool false)))]
 (Ct 49 (.reg [Mv 50 7, Mv 51 8, Io 52 (.lit 17 [none] [.v (.int .i64 0)] 1 [(0, .t 51)]), Io 53 (.app 17 true (.t 50) (.t 52)), Mv 7 53])
 .skip))))
 (.reg [Bk 54 .add 37 1, Mv 37 54])))))))
 (Rs [Mv 55 7, Mv 6 55]
 .ret)))))
def if_ar9 : IFn := ⟨56, [.inl 6], ib_ar9, lcF []⟩
def ks_ar9 : List (List (Option Nat)) := [[some 17]]
def gl_ar9_1 (a0 : Repo) (a1 : Repo) : List Bool → Nat → (List Int) → Option (List Int)
 | [], k65, v60 => some v60
 | x66 :: l67, k65, v60 => if x66 = true then ((gf_ap9 a0 a1 (k65 : Int)).bind fun x74 => if (decide (x74 < 0)) = true then (if fits (v60 ++ ([(k65 : Int)] : (List Int))).length = true then gl_ar9_1 a0 a1 l67 (k65 + 1) (v60 ++ ([(k65 : Int)] : (List Int))) else none) else (gl_ar9_1 a0 a1 l67 (k65 + 1) v60)) else (gl_ar9_1 a0 a1 l67 (k65 + 1) v60)
def gf_ar9 (a0 : Repo) (a1 : Repo) (a2 : Str) : Option (List Int) := (gf_ad9 a0).bind fun x4 => if (!x4) = true then (some (([] : (List Int)))) else ((gf_ad9 a1).bind fun x6 => if (!x6) = true then (some (([] : (List Int)))) else ((gf_ah9 a1 a2).bind fun x8 => if (decide (x8 < 0)) = true then (some (([] : (List Int)))) else ((gf_ah9 a1 a2).bind fun x10 => (idx a1.heads x10).bind fun x12 => (gf_aj9 a1 x12.at_).bind fun x14 => if fits x14.length = true then ((gl_ar9_1 a0 a1 x14 0 []).bind fun q56 => some (q56)) else none)))
def c_ar9 : Con := ⟨Repo × Repo × Str, (List Int), 264, fun a => [.agg [.ro (List.map (eCommit false) a.1.commits), .ro (List.map eHead a.1.heads)], .agg [.ro (List.map (eCommit false) a.2.1.commits), .ro (List.map eHead a.2.1.heads)], .v (.string a.2.2)], fun a => gf_ar9 a.1 a.2.1 a.2.2, fun a r => ⟨[(false, [sl true 17 (List.map eInt r)])], []⟩, fun a => []⟩
/-! spec.SyncLack -/
def ib_ce9 : IC :=
 (Rs [Io 3 (.box 210 [some 115, some 130] (.t 0)), Io 4 (.box 210 [some 115, some 130] (.t 1)), Io 6 (.mv (.c (.slice none 0 0)))]
 (Rs [Io 11 (.lit 17 [none] [.v (.int .i64 0)] 0 []), Mv 7 11]
 (Rs [La 12 2 4, Mv 13 2, Ca 14 232 [12, 13], Mv 8 14]
 (.seq (Rs [La 15 2 3, Ca 16 33 [15], Nt 17 16, Mv 18 17, Gf 18 (Mv 19 8), Gf 18 (Bk 20 .lss 19 0), Pk 21 18 20]
 (Ct 21 (Rs [Mv 22 7, Mv 6 22]
 .ret)
 .skip))
 (Rs [La 23 2 4, Mv 24 8, Io 25 (.lit 17 [none] [.v (.int .i64 0)] 1 [(0, .t 24)]), Ca 26 35 [23, 25], Mv 9 26]
 (.seq (Rs [Ki 10 0]
 (blkC 0 (.loop (.seq (Rs [Mv 27 10, Fa 28 0 4, Ld 29 1 28, Ln 30 29, Bb 31 .lss 27 30]
 (Ct 31 .skip
 (.exit 0)))
 (.seq (.block 1 (Rs [Mv 34 9, Mv 35 10, Ia 36 1 34 35, Ld 37 1 36, Mv 38 37, Gt 38 (La 39 2 3), Gt 38 (La 40 2 4), Gt 38 (Mv 41 10), Gt 38 (Ca 42 324 [39, 40, 41]), Gt 38 (Bk 43 .lss 42 0), Io 44 (.pick (.t 38) (.t 43) (.c (.bool false)))]
 (Ct 44 (.reg [Mv 45 7, Mv 46 10, Io 47 (.lit 17 [none] [.v (.int .i64 0)] 1 [(0, .t 46)]), Io 48 (.app 17 true (.t 45) (.t 47)), Mv 7 48])
 .skip)))
 (.reg [Mv 32 10, Bk 33 .add 32 1, Mv 10 33]))))))
 (Rs [Mv 49 7, Mv 6 49]
 .ret)))))))
def if_ce9 : IFn := ⟨50, [.inl 6], ib_ce9, lcF []⟩
def ks_ce9 : List (List (Option Nat)) := [[some 17]]
def gl_ce9_1 (x9 : (List Bool)) (a0 : Repo) (a1 : Repo) : List Commit → Nat → (List Int) → Option (List Int)
 | [], k60, v55 => some v55
 | x61 :: l62, k60, v55 => (idx x9 (k60 : Int)).bind fun x69 => if x69 = true then ((gf_cg9 a0 a1 (k60 : Int)).bind fun x71 => if (decide (x71 < 0)) = true then (if fits (v55 ++ ([(k60 : Int)] : (List Int))).length = true then gl_ce9_1 x9 a0 a1 l62 (k60 + 1) (v55 ++ ([(k60 : Int)] : (List Int))) else none) else (gl_ce9_1 x9 a0 a1 l62 (k60 + 1) v55)) else (gl_ce9_1 x9 a0 a1 l62 (k60 + 1) v55)
def gf_ce9 (a0 : Repo) (a1 : Repo) (a2 : Str) : Option (List Int) := (gf_bw9 a1 a2).bind fun x4 => (gf_bz9 a0).bind fun x6 => if (!x6) = true then (some (([] : (List Int)))) else (if (decide (x4 < 0)) = true then (some (([] : (List Int)))) else ((gf_du9 a1 ([x4] : (List Int))).bind fun x9 => if fits a1.commits.length = true then ((gl_ce9_1 x9 a0 a1 a1.commits 0 []).bind fun q51 => some (q51)) else none))
def c_ce9 : Con := ⟨Repo × Repo × Str, (List Int), 265, fun a => [.agg [.ro (List.map (eCommit false) a.1.commits), .ro (List.map eHead a.1.heads)], .agg [.ro (List.map (eCommit false) a.2.1.commits), .ro (List.map eHead a.2.1.heads)], .v (.string a.2.2)], fun a => gf_ce9 a.1 a.2.1 a.2.2, fun a r => ⟨[(false, [sl true 17 (List.map eInt r)])], []⟩, fun a => []⟩
/-! impl.SyncTake -/
def ib_at9 : IC :=
 (Rs [Io 3 (.box 210 [some 115, some 130] (.t 0)), Io 4 (.box 210 [some 115, some 130] (.t 1)), Io 6 (.alloc 210 [.sl true 115 [], .sl true 130 []]), Ki 7 0]
 (.seq (Rs [La 19 2 3, Ca 20 96 [19], Nt 21 20, Mv 22 21, Gf 22 (La 23 2 4), Gf 22 (Ca 24 96 [23]), Gf 22 (Nt 25 24), Pk 26 22 25]
 (Ct 26 (Rs [Io 27 (.build [.nil, .nil] []), Sv [some 115, some 130] 6 27, Ki 7 4]
 .ret)
 .skip))
 (Rs [La 28 2 4, Mv 29 2, Ca 30 89 [28, 29], Mv 8 30]
 (.seq (seqC (.reg [Mv 31 8, Bk 32 .lss 31 0, Mv 33 32, Gf 33 (La 34 2 3), Gf 33 (La 35 2 4), Gf 33 (Io 36 (.call 209 [(false, .t 34), (false, .c (.int .i64 0)), (false, .t 35), (false, .c (.int .i64 0))])), Gf 33 (Nt 37 36), Pk 38 33 37])
 (Ct 38 (Rs [La 39 2 3, Ca 40 150 [39], Sv [some 115, some 130] 6 40, Ki 7 1]
 .ret)
 .skip))
 (Rs [La 41 2 3, Ca 42 150 [41], Io 9 (.alloc 210 [.sl true 115 [], .sl true 130 []]), Sv [some 115, some 130] 9 42]
 (Rs [Io 43 (.mnew), Mv 10 43]
 (.seq (Rs [Fa 44 0 4, Ld 45 1 44, Ln 46 45, Ki 47 0]
 (blkC 0 (.loop (Rs [Bb 48 .lss 47 46]
 (.seq (Ct 48 .skip
 (.exit 0))
 (.seq (.block 1 (Rs [Mv 49 47, Mv 11 49]
 (.reg [Mv 50 10, Mv 51 11, La 52 2 3, La 53 2 4, Mv 54 11, Ca 55 218 [52, 53, 54], Iz (.mset 344 (.t 50) (.t 51) (.t 55))])))
 (.reg [Bk 56 .add 47 1, Mv 47 56])))))))
 (.seq (Rs [La 57 2 3, La 58 2 4, Mv 59 2, Ca 60 264 [57, 58, 59], Ln 61 60, Ki 62 0]
 (blkC 2 (.loop (Rs [Bb 63 .lss 62 61]
 (.seq (Ct 63 .skip
 (.exit 2))
 (.seq (.block 3 (Rs [Ia 64 1 60 62, Ld 65 1 64, Mv 13 65]
 (Rs [Fa 66 0 4, Ld 67 1 66, Mv 68 13, Ia 69 3 67 68, La 70 3 69, Ca 71 94 [70], Io 14 (.alloc 115 [.sl true 17 [], .sl true 100 [], .v (.string ⟨#[]⟩)]), Sv [some 17, some 100, none] 14 71]
 (.seq (Rs [Fa 72 0 14, Ld 73 1 72, Ln 74 73, Ki 75 0]
 (blkC 4 (.loop (Rs [Bb 76 .lss 75 74]
 (.seq (Ct 76 .skip
 (.exit 4))
 (.seq (.block 5 (Rs [Mv 77 75, Ia 78 1 73 75, Ld 79 1 78, Mv 15 77, Mv 16 79]
 (.reg [Fa 80 0 14, Ld 81 1 80, Mv 82 15, Mv 83 10, Mv 84 16, Io 85 (.mget 344 (.t 83) (.t 84)), Ia 86 1 81 82, Sv [none] 86 85])))
 (.reg [Bk 87 .add 75 1, Mv 75 87])))))))
 (Rs [Mv 88 10, Mv 89 13, Fa 90 0 9, Ld 91 1 90, Ln 92 91, Iz (.mset 344 (.t 88) (.t 89) (.t 92))]
 (.reg [Fa 93 0 9, Ld 94 1 93, La 95 3 14, Io 96 (.lit 115 [some 17, some 100, none] [.sl true 17 [], .sl true 100 [], .v (.string ⟨#[]⟩)] 1 [(0, .t 95)]), Io 97 (.app 115 true (.t 94) (.t 96)), Fa 98 0 9, Sv [some 115] 98 97]))))))
 (.reg [Bk 99 .add 62 1, Mv 62 99])))))))
 (Rs [Mv 100 10, Fa 101 1 4, Ld 102 1 101, Mv 103 8, Ia 104 2 102 103, Fa 105 1 104, Ld 106 1 105, Io 107 (.mget 344 (.t 100) (.t 106)), Mv 17 107]
 (.seq (Rs [Fa 108 0 9, Ld 109 1 108, Ln 110 109, Bk 111 .gtr 110 14]
 (Ct 111 (Rs [La 112 2 3, Ca 113 150 [112], Sv [some 115, some 130] 6 113, Ki 7 2]
 .ret)
 .skip))
 (Rs [La 114 2 9, Mv 115 2, Ca 116 89 [114, 115], Mv 18 116]
 (.seq (.block 6 (Rs [Mv 120 18, Bk 121 .lss 120 0, Mv 119 121]
 (Ct 119 (.seq (Rs [Fa 122 1 9, Ld 123 1 122, Ln 124 123, Bk 125 .eql 124 4]
 (Ct 125 (Rs [La 126 2 3, Ca 127 150 [126], Sv [some 115, some 130] 6 127, Ki 7 2]
 .ret)
 .skip))
 (.reg [Fa 128 1 9, Ld 129 1 128, Mv 130 2, Mv 131 17, Io 132 (.build [.v (.string ⟨#[]⟩), .v (.int .i64 0)] [(0, 1, .t 130), (1, 1, .t 131)]), Io 133 (.lit 130 [none, none] [.v (.string ⟨#[]⟩), .v (.int .i64 0)] 1 [(0, .t 132)]), Io 134 (.app 130 true (.t 129) (.t 133)), Fa 135 1 9, Sv [some 130] 135 134]))
 (.seq (.drw [La 137 2 9, Fa 138 1 9, Ld 139 1 138, Mv 140 18, Ia 141 2 139 140, Fa 142 1 141, Ld 143 1 142, Ca 144 97 [137, 143], Mv 145 17, Ia 146 1 144 145, Ld 147 1 146, Mv 136 147] [(0, 2), (0, 6)])
 (Ct 136 (Rs [La 148 2 9, Sv [some 115, some 130] 6 148, Ki 7 3]
 .ret)
 (.seq (.drw [La 150 2 9, Mv 151 17, Ca 152 97 [150, 151], Fa 153 1 9, Ld 154 1 153, Mv 155 18, Ia 156 2 154 155, Fa 157 1 156, Ld 158 1 157, Ia 159 1 152 158, Ld 160 1 159, Mv 149 160] [(0, 4), (2, 4), (0, 8), (2, 8)])
 (Ct 149 (.reg [Fa 161 1 9, Ld 162 1 161, Mv 163 18, Mv 164 17, Ia 165 2 162 163, Fa 166 1 165, Sv [none] 166 164])
 (Rs [La 117 2 3, Ca 118 150 [117], Sv [some 115, some 130] 6 118, Ki 7 2]
 .ret))))))))
 (Rs [La 167 2 9, Sv [some 115, some 130] 6 167, Ki 7 0]
 .ret)))))))))))))
def if_at9 : IFn := ⟨168, [.inr (6, 2), .inl 7], ib_at9, lcF []⟩
def ks_at9 : List (List (Option Nat)) := [[some 115, some 130], [none]]
def gl_at9_1 (a0 : Repo) (a1 : Repo) : List Commit → Nat → (List (Int × Int)) → Option (List (Int × Int))
 | [], k85, v83 => some v83
 | x86 :: l87, k85, v83 => (gf_ap9 a0 a1 (k85 : Int)).bind fun x94 => gl_at9_1 a0 a1 l87 (k85 + 1) (mput v83 (k85 : Int) x94)
def gl_at9_6 (v516 : (List (Int × Int))) : List Int → Nat → (List Int) → Option (List Int)
 | [], k609, v601 => some v601
 | x610 :: l611, k609, v601 => (idx v601 (k609 : Int)).bind fun x618 => gl_at9_6 v516 l611 (k609 + 1) (List.set v601 (k609 : Int).toNat (mget v516 x618))
def gl_at9_5 (a1 : Repo) : List Int → Nat → (List Commit) → (List (Int × Int)) → Option ((List Commit) × (List (Int × Int)))
 | [], k520, v510, v516 => some (v510, v516)
 | x521 :: l522, k520, v510, v516 => (idx a1.commits x521).bind fun x529 => (gf_aw9 x529).bind fun x531 => if fits x531.up.length = true then ((gl_at9_6 v516 x531.up 0 x531.up).bind fun q586 => if fits (v510 ++ ([(⟨q586, x531.sheet, x531.note⟩ : Commit)] : (List Commit))).length = true then gl_at9_5 a1 l522 (k520 + 1) (v510 ++ ([(⟨q586, x531.sheet, x531.note⟩ : Commit)] : (List Commit))) (mput v516 x521 (v510.length : Int)) else none) else none
def gf_at9 (a0 : Repo) (a1 : Repo) (a2 : Str) : Option (Repo × Int) := (gf_ad9 a0).bind fun x4 => if (!x4) = true then (some ((⟨[], []⟩ : Repo), 4)) else ((gf_ad9 a1).bind fun x6 => if (!x6) = true then (some ((⟨[], []⟩ : Repo), 4)) else ((gf_ah9 a1 a2).bind fun x8 => ((if (decide (x8 < 0)) = true then (some true) else ((gf_as9 a0 0 a1 0).bind fun x11 => some (!x11)) : Option Bool)).bind fun q10 => if q10 = true then ((gf_ay9 a0).bind fun x21 => some (x21, 1)) else ((gf_ay9 a0).bind fun x27 => if fits a1.commits.length = true then ((gl_at9_1 a0 a1 a1.commits 0 []).bind fun q69 => (gf_ar9 a0 a1 a2).bind fun x110 => if fits x110.length = true then ((gl_at9_5 a1 x110 0 x27.commits q69).bind fun q501 => (idx a1.heads x8).bind fun x660 => if (decide ((q501.1.length : Int) > 14)) = true then ((gf_ay9 a0).bind fun x662 => some (x662, 2)) else ((gf_ah9 (⟨q501.1, x27.heads⟩ : Repo) a2).bind fun x668 => if (decide (x668 < 0)) = true then (if ((x27.heads.length : Int) == 4) = true then ((gf_ay9 a0).bind fun x670 => some (x670, 2)) else (if fits (x27.heads ++ ([(⟨a2, (mget q501.2 x660.at_)⟩ : Head)] : (List Head))).length = true then some ((⟨q501.1, (x27.heads ++ ([(⟨a2, (mget q501.2 x660.at_)⟩ : Head)] : (List Head)))⟩ : Repo), 0) else none)) else ((idx x27.heads x668).bind fun x680 => (gf_aj9 (⟨q501.1, x27.heads⟩ : Repo) x680.at_).bind fun x682 => (idx x682 (mget q501.2 x660.at_)).bind fun x686 => if x686 = true then (some ((⟨q501.1, x27.heads⟩ : Repo), 3)) else ((gf_aj9 (⟨q501.1, x27.heads⟩ : Repo) (mget q501.2 x660.at_)).bind fun x688 => (idx x688 x680.at_).bind fun x692 => if x692 = true then (some ((⟨q501.1, (List.set x27.heads x668.toNat (⟨x680.name, (mget q501.2 x660.at_)⟩ : Head))⟩ : Repo), 0)) else ((gf_ay9 a0).bind fun x694 => some (x694, 2)))))) else none) else none)))
def c_at9 : Con := ⟨Repo × Repo × Str, (Repo × Int), 266, fun a => [.agg [.ro (List.map (eCommit false) a.1.commits), .ro (List.map eHead a.1.heads)], .agg [.ro (List.map (eCommit false) a.2.1.commits), .ro (List.map eHead a.2.1.heads)], .v (.string a.2.2)], fun a => gf_at9 a.1 a.2.1 a.2.2, fun a r => ⟨[(true, eRepo true r.1), (false, [.v (.int .i64 r.2)])], []⟩, fun a => []⟩
/-! laws.FnSyncLack -/
def ib_bf9 : IC :=
 (Rs [Kb 2 false]
 (.seq (Rs [Mv 13 0, Ln 14 13, Bk 15 .gtr 14 1048576]
 (Ct 15 (Rs [Kb 2 true]
 .ret)
 .skip))
 (seqC (.reg [Mv 17 0, Io 18 (.frz (.call 263 [(false, .t 17)])), Mv 16 18, Xt 19 16 0, Xt 20 16 1, Xt 21 16 2, Io 3 (.alloc 210 [.sl true 115 [], .sl true 130 []]), Io 4 (.alloc 210 [.sl true 115 [], .sl true 130 []]), Sv [some 115, some 130] 3 19, Sv [some 115, some 130] 4 20, Mv 5 21])
 (Rs [La 22 2 3, La 23 2 4, Mv 24 5, Io 25 (.call 264 [(false, .w 22), (false, .w 23), (false, .w 24)]), Mv 6 25]
 (Rs [La 26 2 3, La 27 2 4, Mv 28 5, Io 29 (.call 265 [(false, .w 26), (false, .w 27), (false, .w 28)]), Mv 7 29]
 (.seq (Rs [Mv 30 6, Ln 31 30, Mv 32 7, Ln 33 32, Bb 34 .neq 31 33]
 (Ct 34 (Rs [Kb 2 false]
 .ret)
 .skip))
 (.seq (Rs [La 35 2 3, Io 36 (.call 33 [(false, .w 35)]), Nt 37 36, Mv 38 37, Gf 38 (La 39 2 4), Gf 38 (Io 40 (.call 33 [(false, .w 39)])), Gf 38 (Nt 41 40), Pk 42 38 41, Mv 43 42, Gf 43 (La 44 2 4), Gf 43 (Mv 45 5), Gf 43 (Io 46 (.call 213 [(false, .w 44), (false, .w 45)])), Gf 43 (Bk 47 .lss 46 0), Pk 48 43 47]
 (Ct 48 (Rs [Mv 49 6, Ln 50 49, Bk 51 .eql 50 0, Mv 2 51]
 .ret)
 .skip))
 (.seq (.drw [La 52 2 4, La 53 2 4, Mv 54 5, Io 55 (.call 213 [(false, .w 53), (false, .w 54)]), Io 56 (.call 214 [(false, .w 52), (false, .w 55)]), Mv 8 56] [(0, 1), (0, 3)])
 (Rs [Ki 9 0]
 (.seq (Rs [Mv 57 8, Ln 58 57, Bk 59 .sub 58 1, Mv 10 59]
 (blkC 0 (.loop (.seq (Rs [Mv 60 10, Bk 61 .geq 60 0]
 (Ct 61 .skip
 (.exit 0)))
 (.seq (.block 1 (.seq (.seq (.drw [La 64 2 3, La 65 2 4, Mv 66 8, Mv 67 10, Io 68 (.iaddr 1 (.w 66) (.t 67)), Ld 69 1 68, Io 70 (.call 218 [(false, .w 64), (false, .w 65), (false, .w 69)]), Bk 71 .geq 70 0] [(0, 1), (0, 5), (1, 5)])
 (Ct 71 (.exit 1)
 .skip))
 (.seq (.seq (.drw [Mv 72 9, Mv 73 6, Ln 74 73, Bb 75 .geq 72 74, Mv 76 75, Gf 76 (Mv 77 6), Gf 76 (Mv 78 9), Gf 76 (Io 79 (.iaddr 1 (.w 77) (.t 78))), Gf 76 (Ld 80 1 79), Gf 76 (Mv 81 8), Gf 76 (Mv 82 10), Gf 76 (Io 83 (.iaddr 1 (.w 81) (.t 82))), Gf 76 (Ld 84 1 83), Gf 76 (Bb 85 .neq 80 84), Pk 86 76 85] [(8, 12)])
 (Ct 86 (Rs [Kb 2 false]
 .ret)
 .skip))
 (.reg [Mv 87 9, Bk 88 .add 87 1, Mv 9 88]))))
 (.reg [Mv 62 10, Bk 63 .sub 62 1, Mv 10 63]))))))
 (Rs [La 90 2 3, La 91 2 4, Mv 92 5, Io 93 (.call 266 [(false, .w 90), (false, .w 91), (false, .w 92)]), Mv 89 93, Xt 94 89 0, Xt 95 89 1, Io 11 (.alloc 210 [.sl true 115 [], .sl true 130 []]), Sv [some 115, some 130] 11 94, Mv 12 95]
 (Rs [Mv 96 9, Mv 97 6, Ln 98 97, Bb 99 .eql 96 98, Mv 100 99, Gt 100 (La 101 2 4), Gt 100 (La 102 2 4), Gt 100 (Mv 103 5), Gt 100 (Io 104 (.call 264 [(false, .w 101), (false, .w 102), (false, .w 103)])), Gt 100 (Ln 105 104), Gt 100 (Bk 106 .eql 105 0), Io 107 (.pick (.t 100) (.t 106) (.c (.bool false))), Mv 108 107, Gt 108 (Mv 109 12), Gt 108 (Bk 110 .neq 109 0), Gt 108 (Mv 111 110), Gt 111 (Mv 112 12), Gt 111 (Bk 113 .neq 112 3), Gt 108 (Io 114 (.pick (.t 111) (.t 113) (.c (.bool false)))), Gt 108 (Mv 115 114), Gf 115 (Fa 116 0 11), Gf 115 (Ld 117 1 116), Gf 115 (Ln 118 117), Gf 115 (Fa 119 0 3), Gf 115 (Ld 120 1 119), Gf 115 (Ln 121 120), Gf 115 (Mv 122 9), Gf 115 (Bb 123 .add 121 122), Gf 115 (Bb 124 .eql 118 123), Gt 108 (Pk 125 115 124), Io 126 (.pick (.t 108) (.t 125) (.c (.bool false))), Mv 2 126]
 .ret))))))))))))
def if_bf9 : IFn := ⟨127, [.inl 2], ib_bf9, lcF []⟩
def ks_bf9 : List (List (Option Nat)) := [[none]]
def gl_bf9_1 (x29 : (List Int)) (q1 : (Str × (List Commit) × (List Head) × (List Commit) × (List Head))) (x13 : (List Int)) : Nat → Int → Int → Option (Bool ⊕ Int)
 | 0, _, _ => none
 | n74 + 1, v66, v67 => if (decide (v67 ≥ 0)) = true then ((idx x29 v67).bind fun x75 => (gf_ap9 (⟨q1.2.1, q1.2.2.1⟩ : Repo) (⟨q1.2.2.2.1, q1.2.2.2.2⟩ : Repo) x75).bind fun x77 => if (decide (x77 ≥ 0)) = true then (gl_bf9_1 x29 q1 x13 n74 v66 (IntKind.i64.wrap (v67 - 1))) else (if (decide (v66 ≥ (x13.length : Int))) = true then (some (.inl (false))) else ((idx x13 v66).bind fun x79 => if (x79 != x75) = true then (some (.inl (false))) else (gl_bf9_1 x29 q1 x13 n74 (IntKind.i64.wrap (v66 + 1)) (IntKind.i64.wrap (v67 - 1)))))) else (some (.inr v66))
def gf_bf9 (a0 : (List UInt8)) : Option Bool := if (decide ((a0.length : Int) > 1048576)) = true then (some (true)) else ((((gf_bt9 a0).bind fun x2 => some (x2.2.2, x2.1.commits, x2.1.heads, x2.2.1.commits, x2.2.1.heads) : Option (Str × (List Commit) × (List Head) × (List Commit) × (List Head)))).bind fun q1 => (gf_ar9 (⟨q1.2.1, q1.2.2.1⟩ : Repo) (⟨q1.2.2.2.1, q1.2.2.2.2⟩ : Repo) q1.1).bind fun x13 => (gf_ce9 (⟨q1.2.1, q1.2.2.1⟩ : Repo) (⟨q1.2.2.2.1, q1.2.2.2.2⟩ : Repo) q1.1).bind fun x17 => if ((x13.length : Int) != (x17.length : Int)) = true then (some (false)) else ((gf_bz9 (⟨q1.2.1, q1.2.2.1⟩ : Repo)).bind fun x21 => if (!x21) = true then (some (((x13.length : Int) == 0))) else ((gf_bz9 (⟨q1.2.2.2.1, q1.2.2.2.2⟩ : Repo)).bind fun x23 => if (!x23) = true then (some (((x13.length : Int) == 0))) else ((gf_ac9 (⟨q1.2.2.2.1, q1.2.2.2.2⟩ : Repo) q1.1).bind fun x25 => if (decide (x25 < 0)) = true then (some (((x13.length : Int) == 0))) else ((gf_ac9 (⟨q1.2.2.2.1, q1.2.2.2.2⟩ : Repo) q1.1).bind fun x27 => (gf_ae9 (⟨q1.2.2.2.1, q1.2.2.2.2⟩ : Repo) x27).bind fun x29 => (gl_bf9_1 x29 q1 x13 rounds 0 (IntKind.i64.wrap ((x29.length : Int) - 1))).bind fun q => match q with | .inl r => some r | .inr q65 => (gf_at9 (⟨q1.2.1, q1.2.2.1⟩ : Repo) (⟨q1.2.2.2.1, q1.2.2.2.2⟩ : Repo) q1.1).bind fun x86 => if (q65 == (x13.length : Int)) = true then ((gf_ar9 (⟨q1.2.2.2.1, q1.2.2.2.2⟩ : Repo) (⟨q1.2.2.2.1, q1.2.2.2.2⟩ : Repo) q1.1).bind fun x93 => if ((x93.length : Int) == 0) = true then (if (x86.2 != 0) = true then (if (x86.2 != 3) = true then (some (true)) else (some (((x86.1.commits.length : Int) == (IntKind.i64.wrap ((q1.2.1.length : Int) + q65)))))) else (some (((x86.1.commits.length : Int) == (IntKind.i64.wrap ((q1.2.1.length : Int) + q65)))))) else (some (false))) else (some (false)))))))
def c_bf9 : Con := ⟨(List UInt8) × Option Addr × Nat, Bool, 262, fun a => [.raw a.2.1 a.2.2 (List.map eU8 a.1)], fun a => gf_bf9 a.1, fun a r => ⟨[(false, [.v (.bool r)])], []⟩, fun a => []⟩
end Go.Proofs.AM
