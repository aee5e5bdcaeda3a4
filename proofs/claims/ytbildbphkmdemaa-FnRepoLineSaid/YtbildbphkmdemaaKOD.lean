/- Lemmas of the proof (KOD), on an abstract machine. Conditions: none. -/
import Derived.Test.YtbildbphkmdemaaG2
set_option linter.unusedVariables false
set_option maxRecDepth 100000
set_option maxHeartbeats 4000000
namespace Go.Proofs.AM
attribute [local irreducible] vwp vstps vstpLs vstp vdo vret kseq kblk kloop kend kcut kloop2 frzV renV shutK pfzV trnV unrV
/-! spec.l1Num -/
def ib_cz9 : IC :=
 (Rs [Kb 2 false]
 (Rs [Mv 3 0, Bk 4 .geq 3 (-1000), Mv 5 4, Gt 5 (Mv 6 0), Gt 5 (Bk 7 .leq 6 1000), Io 8 (.pick (.t 5) (.t 7) (.c (.bool false))), Mv 2 8]
 .ret))
def if_cz9 : IFn := ⟨9, [.inl 2], ib_cz9, lcF []⟩
def ks_cz9 : List (List (Option Nat)) := [[none]]
def gf_cz9 (a0 : Int) : Option Bool := if (decide (a0 ≥ (-1000))) = true then (some ((decide (a0 ≤ 1000)))) else (some (false))
def c_cz9 : Con := ⟨Int, Bool, 12, fun a => [.v (.int .i64 a)], fun a => gf_cz9 a, fun a r => ⟨[(false, [.v (.bool r)])], []⟩, fun a => []⟩
/-! spec.l1Pts -/
def ib_db9 : IC :=
 (Rs [Kb 2 false]
 (.seq (Rs [Ki 3 0]
 (blkC 0 (.loop (.seq (Rs [Mv 4 3, Mv 5 0, Ln 6 5, Bb 7 .lss 4 6]
 (Ct 7 .skip
 (.exit 0)))
 (.seq (.block 1 (.seq (.drw [Mv 10 0, Mv 11 3, Ia 12 2 10 11, Fa 13 0 12, Ld 14 1 13, Ca 15 12 [14], Nt 16 15, Mv 17 16, Gf 17 (Mv 18 0), Gf 17 (Mv 19 3), Gf 17 (Ia 20 2 18 19), Gf 17 (Fa 21 1 20), Gf 17 (Ld 22 1 21), Gf 17 (Ca 23 12 [22]), Gf 17 (Nt 24 23), Pk 25 17 24, Mv 26 25, Gf 26 (Mv 27 3), Gf 26 (Bk 28 .gtr 27 0), Gf 26 (Mv 29 28), Gt 29 (Mv 30 0), Gt 29 (Mv 31 3), Gt 29 (Ia 32 2 30 31), Gt 29 (La 33 2 32), Gt 29 (Mv 34 0), Gt 29 (Mv 35 3), Gt 29 (Bk 36 .sub 35 1), Gt 29 (Ia 37 2 34 36), Gt 29 (La 38 2 37), Gt 29 (Io 39 (.eqs false true [0, 0] (.t 33) (.t 38))), Gf 26 (Io 40 (.pick (.t 29) (.t 39) (.c (.bool false)))), Pk 41 26 40] [(23, 28)])
 (Ct 41 (Rs [Kb 2 false]
 .ret)
 .skip)))
 (.reg [Mv 8 3, Bk 9 .add 8 1, Mv 3 9]))))))
 (Rs [Mv 42 0, Ln 43 42, Bk 44 .leq 43 6, Mv 2 44]
 .ret)))
def if_db9 : IFn := ⟨45, [.inl 2], ib_db9, lcF []⟩
def ks_db9 : List (List (Option Nat)) := [[none]]
def gl_db9_1 (a0 : (List Pt)) : List Pt → Nat → Option (Bool ⊕ Unit)
 | [], k26 => some (.inr ())
 | x27 :: l28, k26 => (gf_cz9 x27.x).bind fun x35 => if (!x35) = true then (some (.inl (false))) else ((gf_cz9 x27.y).bind fun x37 => if (!x37) = true then (some (.inl (false))) else (if (decide ((k26 : Int) > 0)) = true then ((idx a0 (IntKind.i64.wrap ((k26 : Int) - 1))).bind fun x39 => if ((x27.x == x39.x) && ((x27.y == x39.y) && true)) = true then (some (.inl (false))) else (gl_db9_1 a0 l28 (k26 + 1) )) else (gl_db9_1 a0 l28 (k26 + 1) )))
def gf_db9 (a0 : (List Pt)) : Option Bool := if fits a0.length = true then ((gl_db9_1 a0 a0 0 ).bind fun q => match q with | .inl r => some r | .inr q24 => some ((decide ((a0.length : Int) ≤ 6)))) else none
def c_db9 : Con := ⟨(List Pt), Bool, 13, fun a => [.ro (List.map ePt a)], fun a => gf_db9 a, fun a r => ⟨[(false, [.v (.bool r)])], []⟩, fun a => []⟩
/-! spec.WordOk -/
def ib_cs9 : IC :=
 (Rs [Kb 2 false]
 (.seq (Rs [Ki 3 0]
 (blkC 0 (.loop (.seq (Rs [Mv 4 3, Mv 5 0, Io 6 (.len true (.t 5)), Bb 7 .lss 4 6]
 (Ct 7 .skip
 (.exit 0)))
 (.seq (.block 1 (Rs [Mv 10 0, Mv 11 3, Io 12 (.sidx (.t 10) (.t 11)), Io 13 (.bin .lss (.t 12) (.c (.int .u8 97))), Mv 14 13, Gf 14 (Mv 15 0), Gf 14 (Mv 16 3), Gf 14 (Io 17 (.sidx (.t 15) (.t 16))), Gf 14 (Io 18 (.bin .gtr (.t 17) (.c (.int .u8 122)))), Pk 19 14 18]
 (Ct 19 (Rs [Kb 2 false]
 .ret)
 .skip)))
 (.reg [Mv 8 3, Bk 9 .add 8 1, Mv 3 9]))))))
 (Rs [Mv 20 0, Io 21 (.len true (.t 20)), Bk 22 .geq 21 1, Mv 23 22, Gt 23 (Mv 24 0), Gt 23 (Io 25 (.len true (.t 24))), Gt 23 (Bk 26 .leq 25 6), Io 27 (.pick (.t 23) (.t 26) (.c (.bool false))), Mv 2 27]
 .ret)))
def if_cs9 : IFn := ⟨28, [.inl 2], ib_cs9, lcF []⟩
def ks_cs9 : List (List (Option Nat)) := [[none]]
def gl_cs9_1 : List UInt8 → Nat → Option (Bool ⊕ Unit)
 | [], k10 => some (.inr ())
 | x11 :: l12, k10 => if (decide ((x11.toNat : Int) < 97)) = true then (some (.inl (false))) else (if (decide ((x11.toNat : Int) > 122)) = true then (some (.inl (false))) else (gl_cs9_1 l12 (k10 + 1) ))
def gf_cs9 (a0 : Str) : Option Bool := if fits a0.size = true then ((gl_cs9_1 a0.data.toList 0 ).bind fun q => match q with | .inl r => some r | .inr q8 => if (decide ((a0.size : Int) ≥ 1)) = true then (some ((decide ((a0.size : Int) ≤ 6)))) else (some (false))) else none
def c_cs9 : Con := ⟨Str, Bool, 14, fun a => [.v (.string a)], fun a => gf_cs9 a, fun a r => ⟨[(false, [.v (.bool r)])], []⟩, fun a => []⟩
/-! spec.ShapeOk -/
def ib_cr9 : IC :=
 (Rs [Io 1 (.box 226 [none, some 66] (.t 0)), Kb 2 false]
 (Rs [Fa 4 1 1, Ld 5 1 4, Ln 6 5, Mv 3 6]
 (.seq (Rs [Fa 7 1 1, Ld 8 1 7, Ca 9 13 [8], Nt 10 9]
 (Ct 10 (Rs [Kb 2 false]
 .ret)
 .skip))
 (.seq (Rs [Fa 11 0 1, Ld 12 1 11]
 (.block 0 (Rs [Bk 14 .eql 12 1, Mv 13 14]
 (Ct 13 (Rs [Mv 15 3, Bk 16 .eql 15 1, Mv 2 16]
 .ret)
 (Rs [Bk 18 .eql 12 2, Mv 17 18]
 (Ct 17 (Rs [Mv 19 3, Bk 20 .geq 19 2, Mv 2 20]
 .ret)
 (Rs [Bk 22 .eql 12 3, Mv 21 22]
 (Ct 21 (.seq (.drw [Mv 23 3, Bk 24 .geq 23 3, Mv 25 24, Gt 25 (Fa 26 1 1), Gt 25 (Ld 27 1 26), Gt 25 (Io 28 (.iaddr 2 (.t 27) (.c (.int .i64 0)))), Gt 25 (La 29 2 28), Gt 25 (Fa 30 1 1), Gt 25 (Ld 31 1 30), Gt 25 (Mv 32 3), Gt 25 (Bk 33 .sub 32 1), Gt 25 (Ia 34 2 31 33), Gt 25 (La 35 2 34), Gt 25 (Io 36 (.eqs true true [0, 0] (.t 29) (.t 35))), Io 37 (.pick (.t 25) (.t 36) (.c (.bool false))), Mv 2 37] [(4, 8), (6, 8), (4, 12), (6, 12)])
 .ret)
 .skip))))))))
 (Rs [Kb 2 false]
 .ret)))))
def if_cr9 : IFn := ⟨38, [.inl 2], ib_cr9, lcF []⟩
def ks_cr9 : List (List (Option Nat)) := [[none]]
def gf_cr9 (a0 : Shape) : Option Bool := (gf_db9 a0.pts).bind fun x2 => if (!x2) = true then (some (false)) else (if (a0.kind == 1) = true then (some (((a0.pts.length : Int) == 1))) else (if (a0.kind == 2) = true then (some ((decide ((a0.pts.length : Int) ≥ 2)))) else (if (a0.kind == 3) = true then (if (decide ((a0.pts.length : Int) ≥ 3)) = true then ((idx a0.pts 0).bind fun x4 => (idx a0.pts (IntKind.i64.wrap ((a0.pts.length : Int) - 1))).bind fun x6 => some ((!((x4.x == x6.x) && ((x4.y == x6.y) && true))))) else (some (false))) else (some (false)))))
def c_cr9 : Con := ⟨Shape, Bool, 15, fun a => [.agg [.v (.int .i64 a.kind), .ro (List.map ePt a.pts)]], fun a => gf_cr9 a, fun a r => ⟨[(false, [.v (.bool r)])], []⟩, fun a => []⟩
/-! spec.l3Put -/
def ib_dk9 : IC :=
 (Rs [Io 3 (.box 100 [none, none, some 66, some 82] (.t 1)), Io 4 (.mv (.c (.slice none 0 0)))]
 (Rs [Io 8 (.lit 100 [none, none, some 66, some 82] [.v (.string ⟨#[]⟩), .v (.int .i64 0), .sl true 66 [], .sl true 82 []] 0 []), Mv 5 8]
 (Rs [Kb 6 false]
 (.seq (Rs [Ki 7 0]
 (blkC 0 (.loop (.seq (Rs [Mv 9 7, Mv 10 0, Ln 11 10, Bb 12 .lss 9 11]
 (Ct 12 .skip
 (.exit 0)))
 (.seq (.block 1 (seqC (.seq (.drw [Mv 15 6, Nt 16 15, Mv 17 16, Gt 17 (Mv 18 0), Gt 17 (Mv 19 7), Gt 17 (Ia 20 4 18 19), Gt 17 (Fa 21 0 20), Gt 17 (Ld 22 1 21), Gt 17 (Fa 23 0 3), Gt 17 (Ld 24 1 23), Gt 17 (Bb 25 .geq 22 24), Io 26 (.pick (.t 17) (.t 25) (.c (.bool false)))] [(7, 9)])
 (Ct 26 (Rs [Mv 27 5, La 28 4 3, Io 29 (.lit 100 [none, none, some 66, some 82] [.v (.string ⟨#[]⟩), .v (.int .i64 0), .sl true 66 [], .sl true 82 []] 1 [(0, .t 28)]), Io 30 (.app 100 true (.t 27) (.t 29)), Mv 5 30]
 (.reg [Kb 6 true]))
 .skip))
 (.seq (.drw [Mv 31 0, Mv 32 7, Ia 33 4 31 32, Fa 34 0 33, Ld 35 1 34, Fa 36 0 3, Ld 37 1 36, Bb 38 .neq 35 37] [(4, 6)])
 (Ct 38 (.reg [Mv 39 5, Mv 40 0, Mv 41 7, Ia 42 4 40 41, La 43 4 42, Io 44 (.lit 100 [none, none, some 66, some 82] [.v (.string ⟨#[]⟩), .v (.int .i64 0), .sl true 66 [], .sl true 82 []] 1 [(0, .t 43)]), Io 45 (.app 100 true (.t 39) (.t 44)), Mv 5 45])
 .skip))))
 (.reg [Mv 13 7, Bk 14 .add 13 1, Mv 7 14]))))))
 (.seq (Rs [Mv 46 6, Nt 47 46]
 (Ct 47 (.reg [Mv 48 5, La 49 4 3, Io 50 (.lit 100 [none, none, some 66, some 82] [.v (.string ⟨#[]⟩), .v (.int .i64 0), .sl true 66 [], .sl true 82 []] 1 [(0, .t 49)]), Io 51 (.app 100 true (.t 48) (.t 50)), Mv 5 51])
 .skip))
 (Rs [Mv 52 5, Mv 4 52]
 .ret))))))
def if_dk9 : IFn := ⟨53, [.inl 4], ib_dk9, lcF []⟩
def ks_dk9 : List (List (Option Nat)) := [[some 100]]
def gl_dk9_1 (a1 : Feat) : List Feat → Nat → Bool → (List Feat) → Option (Bool × (List Feat))
 | [], k95, v89, v92 => some (v89, v92)
 | x96 :: l97, k95, v89, v92 => ((if (!v89) = true then (if (!slt x96.id a1.id) = true then (if fits (v92 ++ ([a1] : (List Feat))).length = true then some (true, (v92 ++ ([a1] : (List Feat)))) else none) else (some (v89, v92))) else (some (v89, v92)) : Option (Bool × (List Feat)))).bind fun q108 => if (!seq x96.id a1.id) = true then (if fits (q108.2 ++ ([x96] : (List Feat))).length = true then gl_dk9_1 a1 l97 (k95 + 1) q108.1 (q108.2 ++ ([x96] : (List Feat))) else none) else (gl_dk9_1 a1 l97 (k95 + 1) q108.1 q108.2)
def gf_dk9 (a0 : (List Feat)) (a1 : Feat) : Option (List Feat) := if fits a0.length = true then ((gl_dk9_1 a1 a0 0 false []).bind fun q88 => if (!q88.1) = true then (if fits (q88.2 ++ ([a1] : (List Feat))).length = true then some ((q88.2 ++ ([a1] : (List Feat)))) else none) else (some (q88.2))) else none
def c_dk9 : Con := ⟨(List Feat) × Feat, (List Feat), 37, fun a => [.ro (List.map (eFeat false) a.1), .agg [.v (.string a.2.id), .v (.int .i64 a.2.shape.kind), .ro (List.map ePt a.2.shape.pts), .ro (List.map eTag a.2.tags)]], fun a => gf_dk9 a.1 a.2, fun a r => ⟨[(false, [sl true 100 (List.map (eFeat false) r)])], []⟩, fun a => []⟩
/-! spec.l2Put -/
def ib_dh9 : IC :=
 (Rs [Io 6 (.mv (.c (.slice none 0 0)))]
 (Rs [Io 10 (.lit 82 [none, none] [.v (.string ⟨#[]⟩), .v (.string ⟨#[]⟩)] 0 []), Mv 7 10]
 (Rs [Kb 8 false]
 (.seq (Rs [Ki 9 0]
 (blkC 0 (.loop (.seq (Rs [Mv 11 9, Mv 12 0, Ln 13 12, Bb 14 .lss 11 13]
 (Ct 14 .skip
 (.exit 0)))
 (.seq (.block 1 (seqC (Rs [Mv 17 8, Nt 18 17, Mv 19 18, Gt 19 (Mv 20 0), Gt 19 (Mv 21 9), Gt 19 (Ia 22 2 20 21), Gt 19 (Fa 23 0 22), Gt 19 (Ld 24 1 23), Gt 19 (Mv 25 1), Gt 19 (Bb 26 .geq 24 25), Io 27 (.pick (.t 19) (.t 26) (.c (.bool false)))]
 (Ct 27 (Rs [Mv 28 7, Mv 29 1, Mv 30 2, Io 31 (.build [.v (.string ⟨#[]⟩), .v (.string ⟨#[]⟩)] [(0, 1, .t 29), (1, 1, .t 30)]), Io 32 (.lit 82 [none, none] [.v (.string ⟨#[]⟩), .v (.string ⟨#[]⟩)] 1 [(0, .t 31)]), Io 33 (.app 82 true (.t 28) (.t 32)), Mv 7 33]
 (.reg [Kb 8 true]))
 .skip))
 (Rs [Mv 34 0, Mv 35 9, Ia 36 2 34 35, Fa 37 0 36, Ld 38 1 37, Mv 39 1, Bb 40 .neq 38 39]
 (Ct 40 (.reg [Mv 41 7, Mv 42 0, Mv 43 9, Ia 44 2 42 43, La 45 2 44, Io 46 (.lit 82 [none, none] [.v (.string ⟨#[]⟩), .v (.string ⟨#[]⟩)] 1 [(0, .t 45)]), Io 47 (.app 82 true (.t 41) (.t 46)), Mv 7 47])
 .skip))))
 (.reg [Mv 15 9, Bk 16 .add 15 1, Mv 9 16]))))))
 (.seq (Rs [Mv 48 8, Nt 49 48]
 (Ct 49 (.reg [Mv 50 7, Mv 51 1, Mv 52 2, Io 53 (.build [.v (.string ⟨#[]⟩), .v (.string ⟨#[]⟩)] [(0, 1, .t 51), (1, 1, .t 52)]), Io 54 (.lit 82 [none, none] [.v (.string ⟨#[]⟩), .v (.string ⟨#[]⟩)] 1 [(0, .t 53)]), Io 55 (.app 82 true (.t 50) (.t 54)), Mv 7 55])
 .skip))
 (Rs [Mv 56 7, Mv 6 56]
 .ret))))))
def if_dh9 : IFn := ⟨57, [.inl 6], ib_dh9, lcF []⟩
def ks_dh9 : List (List (Option Nat)) := [[some 82]]
def gl_dh9_1 (a1 : Str) (a2 : Str) : List Tag → Nat → Bool → (List Tag) → Option (Bool × (List Tag))
 | [], k86, v81, v83 => some (v81, v83)
 | x87 :: l88, k86, v81, v83 => ((if (!v81) = true then (if (!slt x87.key a1) = true then (if fits (v83 ++ ([(⟨a1, a2⟩ : Tag)] : (List Tag))).length = true then some (true, (v83 ++ ([(⟨a1, a2⟩ : Tag)] : (List Tag)))) else none) else (some (v81, v83))) else (some (v81, v83)) : Option (Bool × (List Tag)))).bind fun q99 => if (!seq x87.key a1) = true then (if fits (q99.2 ++ ([x87] : (List Tag))).length = true then gl_dh9_1 a1 a2 l88 (k86 + 1) q99.1 (q99.2 ++ ([x87] : (List Tag))) else none) else (gl_dh9_1 a1 a2 l88 (k86 + 1) q99.1 q99.2)
def gf_dh9 (a0 : (List Tag)) (a1 : Str) (a2 : Str) : Option (List Tag) := if fits a0.length = true then ((gl_dh9_1 a1 a2 a0 0 false []).bind fun q80 => if (!q80.1) = true then (if fits (q80.2 ++ ([(⟨a1, a2⟩ : Tag)] : (List Tag))).length = true then some ((q80.2 ++ ([(⟨a1, a2⟩ : Tag)] : (List Tag)))) else none) else (some (q80.2))) else none
def c_dh9 : Con := ⟨(List Tag) × Str × Str, (List Tag), 47, fun a => [.ro (List.map eTag a.1), .v (.string a.2.1), .v (.string a.2.2)], fun a => gf_dh9 a.1 a.2.1 a.2.2, fun a r => ⟨[(false, [sl true 82 (List.map eTag r)])], []⟩, fun a => []⟩
/-! impl.within -/
def ib_bk9 : IC :=
 (Rs [Kb 6 false]
 (Rs [Mv 7 0, Mv 8 1, Bb 9 .geq 7 8, Mv 10 9, Gt 10 (Mv 11 0), Gt 10 (Mv 12 2), Gt 10 (Bb 13 .leq 11 12), Io 14 (.pick (.t 10) (.t 13) (.c (.bool false))), Mv 6 14]
 .ret))
def if_bk9 : IFn := ⟨15, [.inl 6], ib_bk9, lcF []⟩
def ks_bk9 : List (List (Option Nat)) := [[none]]
def gf_bk9 (a0 : Int) (a1 : Int) (a2 : Int) : Option Bool := if (decide (a0 ≥ a1)) = true then (some ((decide (a0 ≤ a2)))) else (some (false))
def c_bk9 : Con := ⟨Int × Int × Int, Bool, 76, fun a => [.v (.int .i64 a.1), .v (.int .i64 a.2.1), .v (.int .i64 a.2.2)], fun a => gf_bk9 a.1 a.2.1 a.2.2, fun a r => ⟨[(false, [.v (.bool r)])], []⟩, fun a => []⟩
/-! impl.ptOk -/
def ib_bi9 : IC :=
 (Rs [Io 1 (.box 66 [none, none] (.t 0)), Kb 2 false]
 (Rs [Fa 3 0 1, Ld 4 1 3, Io 5 (.call 76 [(false, .t 4), (false, .c (.int .i64 (-1000))), (false, .c (.int .i64 1000))]), Mv 6 5, Gt 6 (Fa 7 1 1), Gt 6 (Ld 8 1 7), Gt 6 (Io 9 (.call 76 [(false, .t 8), (false, .c (.int .i64 (-1000))), (false, .c (.int .i64 1000))])), Io 10 (.pick (.t 6) (.t 9) (.c (.bool false))), Mv 2 10]
 .ret))
def if_bi9 : IFn := ⟨11, [.inl 2], ib_bi9, lcF []⟩
def ks_bi9 : List (List (Option Nat)) := [[none]]
def gf_bi9 (a0 : Pt) : Option Bool := (gf_bk9 a0.x (-1000) 1000).bind fun x2 => if x2 = true then ((gf_bk9 a0.y (-1000) 1000).bind fun x4 => some (x4)) else (some (false))
def c_bi9 : Con := ⟨Pt, Bool, 79, fun a => [.agg [.v (.int .i64 a.x), .v (.int .i64 a.y)]], fun a => gf_bi9 a, fun a r => ⟨[(false, [.v (.bool r)])], []⟩, fun a => []⟩
/-! impl.WordOk -/
def ib_az9 : IC :=
 (Rs [Kb 2 false]
 (.seq (Rs [Mv 4 0, Io 5 (.len true (.t 4)), Ki 6 0]
 (blkC 0 (.loop (Rs [Bb 7 .lss 6 5]
 (.seq (Ct 7 .skip
 (.exit 0))
 (.seq (.block 1 (Rs [Mv 8 6, Mv 3 8]
 (Rs [Mv 9 0, Mv 10 3, Io 11 (.sidx (.t 9) (.t 10)), Io 12 (.bin .lss (.t 11) (.c (.int .u8 97))), Mv 13 12, Gf 13 (Mv 14 0), Gf 13 (Mv 15 3), Gf 13 (Io 16 (.sidx (.t 14) (.t 15))), Gf 13 (Io 17 (.bin .gtr (.t 16) (.c (.int .u8 122)))), Pk 18 13 17]
 (Ct 18 (Rs [Kb 2 false]
 .ret)
 .skip))))
 (.reg [Bk 19 .add 6 1, Mv 6 19])))))))
 (Rs [Mv 20 0, Io 21 (.len true (.t 20)), Io 22 (.call 76 [(false, .t 21), (false, .c (.int .i64 1)), (false, .c (.int .i64 6))]), Mv 2 22]
 .ret)))
def if_az9 : IFn := ⟨23, [.inl 2], ib_az9, lcF []⟩
def ks_az9 : List (List (Option Nat)) := [[none]]
def gl_az9_1 : List UInt8 → Nat → Option (Bool ⊕ Unit)
 | [], k10 => some (.inr ())
 | x11 :: l12, k10 => if (decide ((x11.toNat : Int) < 97)) = true then (some (.inl (false))) else (if (decide ((x11.toNat : Int) > 122)) = true then (some (.inl (false))) else (gl_az9_1 l12 (k10 + 1) ))
def gf_az9 (a0 : Str) : Option Bool := if fits a0.size = true then ((gl_az9_1 a0.data.toList 0 ).bind fun q => match q with | .inl r => some r | .inr q8 => (gf_bk9 (a0.size : Int) 1 6).bind fun x19 => some (x19)) else none
def c_az9 : Con := ⟨Str, Bool, 80, fun a => [.v (.string a)], fun a => gf_az9 a, fun a r => ⟨[(false, [.v (.bool r)])], []⟩, fun a => []⟩
/-! impl.ShapeOk -/
def ib_at9 : IC :=
 (Rs [Io 1 (.box 226 [none, some 66] (.t 0)), Kb 2 false]
 (.seq (Rs [Fa 6 1 1, Ld 7 1 6, Ln 8 7, Ki 9 0]
 (blkC 0 (.loop (Rs [Bb 10 .lss 9 8]
 (.seq (Ct 10 .skip
 (.exit 0))
 (.seq (.block 1 (Rs [Mv 11 9, Ia 12 2 7 9, La 13 2 12, Io 4 (.alloc 66 [.v (.int .i64 0), .v (.int .i64 0)]), Mv 3 11, Sv [none, none] 4 13]
 (.seq (.drw [La 14 2 4, Ca 15 79 [14], Nt 16 15, Mv 17 16, Gf 17 (Mv 18 3), Gf 17 (Bk 19 .gtr 18 0), Gf 17 (Mv 20 19), Gt 20 (Fa 21 1 1), Gt 20 (Ld 22 1 21), Gt 20 (Mv 23 3), Gt 20 (Bk 24 .sub 23 1), Gt 20 (Ia 25 2 22 24), Gt 20 (La 26 2 25), Gt 20 (La 27 2 4), Gt 20 (Io 28 (.eqs false true [0, 0] (.t 26) (.t 27))), Gf 17 (Io 29 (.pick (.t 20) (.t 28) (.c (.bool false)))), Pk 30 17 29] [(8, 13), (12, 13)])
 (Ct 30 (Rs [Kb 2 false]
 .ret)
 .skip))))
 (.reg [Bk 31 .add 9 1, Mv 9 31])))))))
 (Rs [Fa 32 1 1, Ld 33 1 32, Ln 34 33, Mv 5 34]
 (.seq (Rs [Fa 35 0 1, Ld 36 1 35]
 (.block 2 (Rs [Bk 38 .eql 36 1, Mv 37 38]
 (Ct 37 (Rs [Mv 39 5, Bk 40 .eql 39 1, Mv 2 40]
 .ret)
 (Rs [Bk 42 .eql 36 2, Mv 41 42]
 (Ct 41 (Rs [Mv 43 5, Io 44 (.call 76 [(false, .t 43), (false, .c (.int .i64 2)), (false, .c (.int .i64 6))]), Mv 2 44]
 .ret)
 (Rs [Bk 46 .eql 36 3, Mv 45 46]
 (Ct 45 (.seq (.drw [Mv 47 5, Io 48 (.call 76 [(false, .t 47), (false, .c (.int .i64 3)), (false, .c (.int .i64 6))]), Mv 49 48, Gt 49 (Fa 50 1 1), Gt 49 (Ld 51 1 50), Gt 49 (Io 52 (.iaddr 2 (.t 51) (.c (.int .i64 0)))), Gt 49 (La 53 2 52), Gt 49 (Fa 54 1 1), Gt 49 (Ld 55 1 54), Gt 49 (Mv 56 5), Gt 49 (Bk 57 .sub 56 1), Gt 49 (Ia 58 2 55 57), Gt 49 (La 59 2 58), Gt 49 (Io 60 (.eqs true true [0, 0] (.t 53) (.t 59))), Io 61 (.pick (.t 49) (.t 60) (.c (.bool false))), Mv 2 61] [(4, 8), (6, 8), (4, 12), (6, 12)])
 .ret)
 .skip))))))))
 (Rs [Kb 2 false]
 .ret)))))
def if_at9 : IFn := ⟨62, [.inl 2], ib_at9, lcF []⟩
def ks_at9 : List (List (Option Nat)) := [[none]]
def gl_at9_1 (a0 : Shape) : List Pt → Nat → Option (Bool ⊕ Unit)
 | [], k27 => some (.inr ())
 | x28 :: l29, k27 => (gf_bi9 x28).bind fun x37 => if (!x37) = true then (some (.inl (false))) else (if (decide ((k27 : Int) > 0)) = true then ((idx a0.pts (IntKind.i64.wrap ((k27 : Int) - 1))).bind fun x39 => if ((x39.x == x28.x) && ((x39.y == x28.y) && true)) = true then (some (.inl (false))) else (gl_at9_1 a0 l29 (k27 + 1) )) else (gl_at9_1 a0 l29 (k27 + 1) ))
def gf_at9 (a0 : Shape) : Option Bool := if fits a0.pts.length = true then ((gl_at9_1 a0 a0.pts 0 ).bind fun q => match q with | .inl r => some r | .inr q24 => if (a0.kind == 1) = true then (some (((a0.pts.length : Int) == 1))) else (if (a0.kind == 2) = true then ((gf_bk9 (a0.pts.length : Int) 2 6).bind fun x42 => some (x42)) else (if (a0.kind == 3) = true then ((gf_bk9 (a0.pts.length : Int) 3 6).bind fun x44 => if x44 = true then ((idx a0.pts 0).bind fun x46 => (idx a0.pts (IntKind.i64.wrap ((a0.pts.length : Int) - 1))).bind fun x48 => some ((!((x46.x == x48.x) && ((x46.y == x48.y) && true))))) else (some (false))) else (some (false))))) else none
def c_at9 : Con := ⟨Shape, Bool, 81, fun a => [.agg [.v (.int .i64 a.kind), .ro (List.map ePt a.pts)]], fun a => gf_at9 a, fun a r => ⟨[(false, [.v (.bool r)])], []⟩, fun a => []⟩
/-! impl.FeatOk -/
def ib_ac9 : IC :=
 (Rs [Io 1 (.box 100 [none, none, some 66, some 82] (.t 0)), Kb 2 false]
 (.seq (Rs [Fa 5 3 1, Ld 6 1 5, Ln 7 6, Ki 8 0]
 (blkC 0 (.loop (Rs [Bb 9 .lss 8 7]
 (.seq (Ct 9 .skip
 (.exit 0))
 (.seq (.block 1 (Rs [Mv 10 8, Ia 11 2 6 8, La 12 2 11, Io 4 (.alloc 82 [.v (.string ⟨#[]⟩), .v (.string ⟨#[]⟩)]), Mv 3 10, Sv [none, none] 4 12]
 (.seq (.drw [Fa 13 0 4, Ld 14 1 13, Ca 15 80 [14], Nt 16 15, Mv 17 16, Gf 17 (Fa 18 1 4), Gf 17 (Ld 19 1 18), Gf 17 (Ca 20 80 [19]), Gf 17 (Nt 21 20), Pk 22 17 21, Mv 23 22, Gf 23 (Mv 24 3), Gf 23 (Bk 25 .gtr 24 0), Gf 23 (Mv 26 25), Gt 26 (Fa 27 3 1), Gt 26 (Ld 28 1 27), Gt 26 (Mv 29 3), Gt 26 (Bk 30 .sub 29 1), Gt 26 (Ia 31 2 28 30), Gt 26 (Fa 32 0 31), Gt 26 (Ld 33 1 32), Gt 26 (Fa 34 0 4), Gt 26 (Ld 35 1 34), Gt 26 (Bb 36 .geq 33 35), Gf 23 (Io 37 (.pick (.t 26) (.t 36) (.c (.bool false)))), Pk 38 23 37] [(15, 22), (20, 22)])
 (Ct 38 (Rs [Kb 2 false]
 .ret)
 .skip))))
 (.reg [Bk 39 .add 8 1, Mv 8 39])))))))
 (Rs [Fa 40 0 1, Ld 41 1 40, Ca 42 80 [41], Mv 43 42, Gt 43 (Fa 44 1 1), Gt 43 (La 45 2 44), Gt 43 (Ca 46 81 [45]), Io 47 (.pick (.t 43) (.t 46) (.c (.bool false))), Mv 48 47, Gt 48 (Fa 49 3 1), Gt 48 (Ld 50 1 49), Gt 48 (Ln 51 50), Gt 48 (Bk 52 .leq 51 4), Io 53 (.pick (.t 48) (.t 52) (.c (.bool false))), Mv 2 53]
 .ret)))
def if_ac9 : IFn := ⟨54, [.inl 2], ib_ac9, lcF []⟩
def ks_ac9 : List (List (Option Nat)) := [[none]]
def gl_ac9_1 (a0 : Feat) : List Tag → Nat → Option (Bool ⊕ Unit)
 | [], k33 => some (.inr ())
 | x34 :: l35, k33 => (gf_az9 x34.key).bind fun x43 => if (!x43) = true then (some (.inl (false))) else ((gf_az9 x34.val).bind fun x45 => if (!x45) = true then (some (.inl (false))) else (if (decide ((k33 : Int) > 0)) = true then ((idx a0.tags (IntKind.i64.wrap ((k33 : Int) - 1))).bind fun x47 => if (!slt x47.key x34.key) = true then (some (.inl (false))) else (gl_ac9_1 a0 l35 (k33 + 1) )) else (gl_ac9_1 a0 l35 (k33 + 1) )))
def gf_ac9 (a0 : Feat) : Option Bool := if fits a0.tags.length = true then ((gl_ac9_1 a0 a0.tags 0 ).bind fun q => match q with | .inl r => some r | .inr q30 => (gf_az9 a0.id).bind fun x50 => if x50 = true then ((gf_at9 a0.shape).bind fun x52 => if x52 = true then (some ((decide ((a0.tags.length : Int) ≤ 4)))) else (some (false))) else (some (false))) else none
def c_ac9 : Con := ⟨Feat, Bool, 82, fun a => [.agg [.v (.string a.id), .v (.int .i64 a.shape.kind), .ro (List.map ePt a.shape.pts), .ro (List.map eTag a.tags)]], fun a => gf_ac9 a, fun a r => ⟨[(false, [.v (.bool r)])], []⟩, fun a => []⟩
/-! slices.Equal[[]impl.Pt,impl.Pt] -/
def ib_bx9 : IC :=
 (Rs [Kb 4 false]
 (.seq (Rs [Mv 6 0, Ln 7 6, Mv 8 1, Ln 9 8, Bb 10 .neq 7 9]
 (Ct 10 (Rs [Kb 4 false]
 .ret)
 .skip))
 (.seq (Rs [Mv 11 0, Ln 12 11, Ki 13 0]
 (blkC 0 (.loop (Rs [Bb 14 .lss 13 12]
 (.seq (Ct 14 .skip
 (.exit 0))
 (.seq (.block 1 (Rs [Mv 15 13, Mv 5 15]
 (.seq (.drw [Mv 16 0, Mv 17 5, Ia 18 2 16 17, La 19 2 18, Mv 20 1, Mv 21 5, Ia 22 2 20 21, La 23 2 22, Io 24 (.eqs true true [0, 0] (.t 19) (.t 23))] [(3, 7)])
 (Ct 24 (Rs [Kb 4 false]
 .ret)
 .skip))))
 (.reg [Bk 25 .add 13 1, Mv 13 25])))))))
 (Rs [Kb 4 true]
 .ret))))
def if_bx9 : IFn := ⟨26, [.inl 4], ib_bx9, lcF []⟩
def ks_bx9 : List (List (Option Nat)) := [[none]]
def gl_bx9_1 (a1 : (List Pt)) : List Pt → Nat → Option (Bool ⊕ Unit)
 | [], k16 => some (.inr ())
 | x17 :: l18, k16 => (idx a1 (k16 : Int)).bind fun x25 => if (!((x17.x == x25.x) && ((x17.y == x25.y) && true))) = true then (some (.inl (false))) else (gl_bx9_1 a1 l18 (k16 + 1) )
def gf_bx9 (a0 : (List Pt)) (a1 : (List Pt)) : Option Bool := if ((a0.length : Int) != (a1.length : Int)) = true then (some (false)) else (if fits a0.length = true then ((gl_bx9_1 a1 a0 0 ).bind fun q => match q with | .inl r => some r | .inr q14 => some (true)) else none)
def c_bx9 : Con := ⟨(List Pt) × (List Pt), Bool, 127, fun a => [.ro (List.map ePt a.1), .ro (List.map ePt a.2)], fun a => gf_bx9 a.1 a.2, fun a r => ⟨[(false, [.v (.bool r)])], []⟩, fun a => []⟩
/-! impl.ShapeSame -/
def ib_au9 : IC :=
 (Rs [Io 2 (.box 226 [none, some 66] (.t 0)), Io 3 (.box 226 [none, some 66] (.t 1)), Kb 4 false]
 (Rs [Fa 5 0 2, Ld 6 1 5, Fa 7 0 3, Ld 8 1 7, Bb 9 .eql 6 8, Mv 10 9, Gt 10 (Fa 11 1 2), Gt 10 (Ld 12 1 11), Gt 10 (Fa 13 1 3), Gt 10 (Ld 14 1 13), Gt 10 (Ca 15 127 [12, 14]), Io 16 (.pick (.t 10) (.t 15) (.c (.bool false))), Mv 4 16]
 .ret))
def if_au9 : IFn := ⟨17, [.inl 4], ib_au9, lcF []⟩
def ks_au9 : List (List (Option Nat)) := [[none]]
def gf_au9 (a0 : Shape) (a1 : Shape) : Option Bool := if (a0.kind == a1.kind) = true then ((gf_bx9 a0.pts a1.pts).bind fun x3 => some (x3)) else (some (false))
def c_au9 : Con := ⟨Shape × Shape, Bool, 128, fun a => [.agg [.v (.int .i64 a.1.kind), .ro (List.map ePt a.1.pts)], .agg [.v (.int .i64 a.2.kind), .ro (List.map ePt a.2.pts)]], fun a => gf_au9 a.1 a.2, fun a r => ⟨[(false, [.v (.bool r)])], []⟩, fun a => []⟩
/-! slices.Equal[[]impl.Tag,impl.Tag] -/
def ib_by9 : IC :=
 (Rs [Kb 4 false]
 (.seq (Rs [Mv 6 0, Ln 7 6, Mv 8 1, Ln 9 8, Bb 10 .neq 7 9]
 (Ct 10 (Rs [Kb 4 false]
 .ret)
 .skip))
 (.seq (Rs [Mv 11 0, Ln 12 11, Ki 13 0]
 (blkC 0 (.loop (Rs [Bb 14 .lss 13 12]
 (.seq (Ct 14 .skip
 (.exit 0))
 (.seq (.block 1 (Rs [Mv 15 13, Mv 5 15]
 (.seq (.drw [Mv 16 0, Mv 17 5, Ia 18 2 16 17, La 19 2 18, Mv 20 1, Mv 21 5, Ia 22 2 20 21, La 23 2 22, Io 24 (.eqs true true [2, 2] (.t 19) (.t 23))] [(3, 7)])
 (Ct 24 (Rs [Kb 4 false]
 .ret)
 .skip))))
 (.reg [Bk 25 .add 13 1, Mv 13 25])))))))
 (Rs [Kb 4 true]
 .ret))))
def if_by9 : IFn := ⟨26, [.inl 4], ib_by9, lcF []⟩
def ks_by9 : List (List (Option Nat)) := [[none]]
def gl_by9_1 (a1 : (List Tag)) : List Tag → Nat → Option (Bool ⊕ Unit)
 | [], k16 => some (.inr ())
 | x17 :: l18, k16 => (idx a1 (k16 : Int)).bind fun x25 => if (!((x17.key == x25.key) && ((x17.val == x25.val) && true))) = true then (some (.inl (false))) else (gl_by9_1 a1 l18 (k16 + 1) )
def gf_by9 (a0 : (List Tag)) (a1 : (List Tag)) : Option Bool := if ((a0.length : Int) != (a1.length : Int)) = true then (some (false)) else (if fits a0.length = true then ((gl_by9_1 a1 a0 0 ).bind fun q => match q with | .inl r => some r | .inr q14 => some (true)) else none)
def c_by9 : Con := ⟨(List Tag) × (List Tag), Bool, 129, fun a => [.ro (List.map eTag a.1), .ro (List.map eTag a.2)], fun a => gf_by9 a.1 a.2, fun a r => ⟨[(false, [.v (.bool r)])], []⟩, fun a => []⟩
/-! impl.FeatSame -/
def ib_ad9 : IC :=
 (Rs [Io 2 (.box 100 [none, none, some 66, some 82] (.t 0)), Io 3 (.box 100 [none, none, some 66, some 82] (.t 1)), Kb 4 false]
 (Rs [Fa 5 0 2, Ld 6 1 5, Fa 7 0 3, Ld 8 1 7, Bb 9 .eql 6 8, Mv 10 9, Gt 10 (Fa 11 1 2), Gt 10 (La 12 2 11), Gt 10 (Fa 13 1 3), Gt 10 (La 14 2 13), Gt 10 (Ca 15 128 [12, 14]), Io 16 (.pick (.t 10) (.t 15) (.c (.bool false))), Mv 17 16, Gt 17 (Fa 18 3 2), Gt 17 (Ld 19 1 18), Gt 17 (Fa 20 3 3), Gt 17 (Ld 21 1 20), Gt 17 (Ca 22 129 [19, 21]), Io 23 (.pick (.t 17) (.t 22) (.c (.bool false))), Mv 4 23]
 .ret))
def if_ad9 : IFn := ⟨24, [.inl 4], ib_ad9, lcF []⟩
def ks_ad9 : List (List (Option Nat)) := [[none]]
def gf_ad9 (a0 : Feat) (a1 : Feat) : Option Bool := if (seq a0.id a1.id) = true then ((gf_au9 a0.shape a1.shape).bind fun x3 => if x3 = true then ((gf_by9 a0.tags a1.tags).bind fun x5 => some (x5)) else (some (false))) else (some (false))
def c_ad9 : Con := ⟨Feat × Feat, Bool, 130, fun a => [.agg [.v (.string a.1.id), .v (.int .i64 a.1.shape.kind), .ro (List.map ePt a.1.shape.pts), .ro (List.map eTag a.1.tags)], .agg [.v (.string a.2.id), .v (.int .i64 a.2.shape.kind), .ro (List.map ePt a.2.shape.pts), .ro (List.map eTag a.2.tags)]], fun a => gf_ad9 a.1 a.2, fun a r => ⟨[(false, [.v (.bool r)])], []⟩, fun a => []⟩
/-! slices.EqualFunc[[]impl.Feat,[]impl.Feat,impl.Feat,impl.Feat] -/
def ib_bu9 : IC :=
 (Rs [Kb 6 false]
 (.seq (Rs [Mv 10 0, Ln 11 10, Mv 12 1, Ln 13 12, Bb 14 .neq 11 13]
 (Ct 14 (Rs [Kb 6 false]
 .ret)
 .skip))
 (.seq (Rs [Mv 15 0, Ln 16 15, Ki 17 0]
 (blkC 0 (.loop (Rs [Bb 18 .lss 17 16]
 (.seq (Ct 18 .skip
 (.exit 0))
 (.seq (.block 1 (Rs [Mv 19 17, Ia 20 4 15 17, La 21 4 20, Io 8 (.alloc 100 [.v (.string ⟨#[]⟩), .v (.int .i64 0), .sl true 66 [], .sl true 82 []]), Mv 7 19, Sv [none, none, some 66, some 82] 8 21]
 (Rs [Mv 22 1, Mv 23 7, Ia 24 4 22 23, La 25 4 24, Io 9 (.alloc 100 [.v (.string ⟨#[]⟩), .v (.int .i64 0), .sl true 66 [], .sl true 82 []]), Sv [none, none, some 66, some 82] 9 25]
 (Rs [Mv 26 2, La 27 4 8, La 28 4 9, Io 29 (.calld (.t 26) [(false, .t 27), (false, .t 28)]), Nt 30 29]
 (Ct 30 (Rs [Kb 6 false]
 .ret)
 .skip)))))
 (.reg [Bk 31 .add 17 1, Mv 17 31])))))))
 (Rs [Kb 6 true]
 .ret))))
def if_bu9 : IFn := ⟨32, [.inl 6], ib_bu9, lcF []⟩
def ks_bu9 : List (List (Option Nat)) := [[none]]
def gl_bv9_1 (a1 : (List Feat)) : List Feat → Nat → Option (Bool ⊕ Unit)
 | [], k28 => some (.inr ())
 | x29 :: l30, k28 => (idx a1 (k28 : Int)).bind fun x38 => (gf_ad9 x29 x38).bind fun x41 => if (!x41) = true then (some (.inl (false))) else (gl_bv9_1 a1 l30 (k28 + 1) )
def gf_bv9 (a0 : (List Feat)) (a1 : (List Feat)) : Option Bool := if ((a0.length : Int) != (a1.length : Int)) = true then (some (false)) else (if fits a0.length = true then ((gl_bv9_1 a1 a0 0 ).bind fun q => match q with | .inl r => some r | .inr q26 => some (true)) else none)
def c_bv9 : Con := ⟨(List Feat) × (List Feat), Bool, 325, fun a => [.ro (List.map (eFeat false) a.1), .ro (List.map (eFeat false) a.2), .fn 130 []], fun a => gf_bv9 a.1 a.2, fun a r => ⟨[(false, [.v (.bool r)])], []⟩, fun a => []⟩
/-! impl.SheetSame -/
def ib_ay9 : IC :=
 (Rs [Kb 4 false]
 (Rs [Mv 5 0, Mv 6 1, Io 7 (.call 325 [(false, .t 5), (false, .t 6), (false, .f 130)]), Mv 4 7]
 .ret))
def if_ay9 : IFn := ⟨8, [.inl 4], ib_ay9, lcF []⟩
def ks_ay9 : List (List (Option Nat)) := [[none]]
def gf_ay9 (a0 : (List Feat)) (a1 : (List Feat)) : Option Bool := (gf_bv9 a0 a1).bind fun x1 => some (x1)
def c_ay9 : Con := ⟨(List Feat) × (List Feat), Bool, 220, fun a => [.ro (List.map (eFeat false) a.1), .ro (List.map (eFeat false) a.2)], fun a => gf_ay9 a.1 a.2, fun a r => ⟨[(false, [.v (.bool r)])], []⟩, fun a => []⟩
/-! slices.Equal[[]int,int] -/
def ib_bz9 : IC :=
 (Rs [Kb 4 false]
 (.seq (Rs [Mv 6 0, Ln 7 6, Mv 8 1, Ln 9 8, Bb 10 .neq 7 9]
 (Ct 10 (Rs [Kb 4 false]
 .ret)
 .skip))
 (.seq (Rs [Mv 11 0, Ln 12 11, Ki 13 0]
 (blkC 0 (.loop (Rs [Bb 14 .lss 13 12]
 (.seq (Ct 14 .skip
 (.exit 0))
 (.seq (.block 1 (Rs [Mv 15 13, Mv 5 15]
 (.seq (.drw [Mv 16 0, Mv 17 5, Ia 18 1 16 17, Ld 19 1 18, Mv 20 1, Mv 21 5, Ia 22 1 20 21, Ld 23 1 22, Bb 24 .neq 19 23] [(3, 7)])
 (Ct 24 (Rs [Kb 4 false]
 .ret)
 .skip))))
 (.reg [Bk 25 .add 13 1, Mv 13 25])))))))
 (Rs [Kb 4 true]
 .ret))))
def if_bz9 : IFn := ⟨26, [.inl 4], ib_bz9, lcF []⟩
def ks_bz9 : List (List (Option Nat)) := [[none]]
def gl_bz9_1 (a1 : (List Int)) : List Int → Nat → Option (Bool ⊕ Unit)
 | [], k16 => some (.inr ())
 | x17 :: l18, k16 => (idx a1 (k16 : Int)).bind fun x25 => if (x17 != x25) = true then (some (.inl (false))) else (gl_bz9_1 a1 l18 (k16 + 1) )
def gf_bz9 (a0 : (List Int)) (a1 : (List Int)) : Option Bool := if ((a0.length : Int) != (a1.length : Int)) = true then (some (false)) else (if fits a0.length = true then ((gl_bz9_1 a1 a0 0 ).bind fun q => match q with | .inl r => some r | .inr q14 => some (true)) else none)
def c_bz9 : Con := ⟨(List Int) × (List Int), Bool, 358, fun a => [.ro (List.map eInt a.1), .ro (List.map eInt a.2)], fun a => gf_bz9 a.1 a.2, fun a r => ⟨[(false, [.v (.bool r)])], []⟩, fun a => []⟩
/-! impl.sameCommit -/
def ib_bj9 : IC :=
 (Rs [Io 2 (.box 115 [some 17, some 100, none] (.t 0)), Io 3 (.box 115 [some 17, some 100, none] (.t 1)), Kb 4 false]
 (Rs [Fa 5 0 2, Ld 6 1 5, Fa 7 0 3, Ld 8 1 7, Ca 9 358 [6, 8], Mv 10 9, Gt 10 (Fa 11 1 2), Gt 10 (Ld 12 1 11), Gt 10 (Fa 13 1 3), Gt 10 (Ld 14 1 13), Gt 10 (Ca 15 220 [12, 14]), Io 16 (.pick (.t 10) (.t 15) (.c (.bool false))), Mv 17 16, Gt 17 (Fa 18 2 2), Gt 17 (Ld 19 1 18), Gt 17 (Fa 20 2 3), Gt 17 (Ld 21 1 20), Gt 17 (Bb 22 .eql 19 21), Io 23 (.pick (.t 17) (.t 22) (.c (.bool false))), Mv 4 23]
 .ret))
def if_bj9 : IFn := ⟨24, [.inl 4], ib_bj9, lcF []⟩
def ks_bj9 : List (List (Option Nat)) := [[none]]
def gf_bj9 (a0 : Commit) (a1 : Commit) : Option Bool := (gf_bz9 a0.up a1.up).bind fun x3 => if x3 = true then ((gf_ay9 a0.sheet a1.sheet).bind fun x5 => if x5 = true then (some ((seq a0.note a1.note))) else (some (false))) else (some (false))
def c_bj9 : Con := ⟨Commit × Commit, Bool, 330, fun a => [.agg [.ro (List.map eInt a.1.up), .ro (List.map (eFeat false) a.1.sheet), .v (.string a.1.note)], .agg [.ro (List.map eInt a.2.up), .ro (List.map (eFeat false) a.2.sheet), .v (.string a.2.note)]], fun a => gf_bj9 a.1 a.2, fun a r => ⟨[(false, [.v (.bool r)])], []⟩, fun a => []⟩
/-! slices.Index[[]int,int] -/
def ib_ci9 : IC :=
 (Rs [Ki 4 0]
 (.seq (Rs [Mv 6 0, Ln 7 6, Ki 8 0]
 (blkC 0 (.loop (Rs [Bb 9 .lss 8 7]
 (.seq (Ct 9 .skip
 (.exit 0))
 (.seq (.block 1 (Rs [Mv 10 8, Mv 5 10]
 (Rs [Mv 11 1, Mv 12 0, Mv 13 5, Ia 14 1 12 13, Ld 15 1 14, Bb 16 .eql 11 15]
 (Ct 16 (Rs [Mv 17 5, Mv 4 17]
 .ret)
 .skip))))
 (.reg [Bk 18 .add 8 1, Mv 8 18])))))))
 (Rs [Ki 4 (-1)]
 .ret)))
def if_ci9 : IFn := ⟨19, [.inl 4], ib_ci9, lcF []⟩
def ks_ci9 : List (List (Option Nat)) := [[none]]
def gl_ci9_1 (a1 : Int) : List Int → Nat → Option (Int ⊕ Unit)
 | [], k10 => some (.inr ())
 | x11 :: l12, k10 => if (a1 == x11) = true then (some (.inl ((k10 : Int)))) else (gl_ci9_1 a1 l12 (k10 + 1) )
def gf_ci9 (a0 : (List Int)) (a1 : Int) : Option Int := if fits a0.length = true then ((gl_ci9_1 a1 a0 0 ).bind fun q => match q with | .inl r => some r | .inr q8 => some ((-1))) else none
def c_ci9 : Con := ⟨(List Int) × Int, Int, 85, fun a => [.ro (List.map eInt a.1), .v (.int .i64 a.2)], fun a => gf_ci9 a.1 a.2, fun a r => ⟨[(false, [.v (.int .i64 r)])], []⟩, fun a => []⟩
/-! impl.SheetOk -/
def ib_av9 : IC :=
 (Rs [Kb 2 false]
 (.seq (Rs [Mv 5 0, Ln 6 5, Ki 7 0]
 (blkC 0 (.loop (Rs [Bb 8 .lss 7 6]
 (.seq (Ct 8 .skip
 (.exit 0))
 (.seq (.block 1 (Rs [Mv 9 7, Ia 10 4 5 7, La 11 4 10, Io 4 (.alloc 100 [.v (.string ⟨#[]⟩), .v (.int .i64 0), .sl true 66 [], .sl true 82 []]), Mv 3 9, Sv [none, none, some 66, some 82] 4 11]
 (.seq (.drw [La 12 4 4, Ca 13 82 [12], Nt 14 13, Mv 15 14, Gf 15 (Mv 16 3), Gf 15 (Bk 17 .gtr 16 0), Gf 15 (Mv 18 17), Gt 18 (Mv 19 0), Gt 18 (Mv 20 3), Gt 18 (Bk 21 .sub 20 1), Gt 18 (Ia 22 4 19 21), Gt 18 (Fa 23 0 22), Gt 18 (Ld 24 1 23), Gt 18 (Fa 25 0 4), Gt 18 (Ld 26 1 25), Gt 18 (Bb 27 .geq 24 26), Gf 15 (Io 28 (.pick (.t 18) (.t 27) (.c (.bool false)))), Pk 29 15 28] [(12, 14)])
 (Ct 29 (Rs [Kb 2 false]
 .ret)
 .skip))))
 (.reg [Bk 30 .add 7 1, Mv 7 30])))))))
 (Rs [Mv 31 0, Ln 32 31, Bk 33 .leq 32 8, Mv 2 33]
 .ret)))
def if_av9 : IFn := ⟨34, [.inl 2], ib_av9, lcF []⟩
def ks_av9 : List (List (Option Nat)) := [[none]]
def gl_av9_1 (a0 : (List Feat)) : List Feat → Nat → Option (Bool ⊕ Unit)
 | [], k23 => some (.inr ())
 | x24 :: l25, k23 => (gf_ac9 x24).bind fun x33 => if (!x33) = true then (some (.inl (false))) else (if (decide ((k23 : Int) > 0)) = true then ((idx a0 (IntKind.i64.wrap ((k23 : Int) - 1))).bind fun x35 => if (!slt x35.id x24.id) = true then (some (.inl (false))) else (gl_av9_1 a0 l25 (k23 + 1) )) else (gl_av9_1 a0 l25 (k23 + 1) ))
def gf_av9 (a0 : (List Feat)) : Option Bool := if fits a0.length = true then ((gl_av9_1 a0 a0 0 ).bind fun q => match q with | .inl r => some r | .inr q21 => some ((decide ((a0.length : Int) ≤ 8)))) else none
def c_av9 : Con := ⟨(List Feat), Bool, 86, fun a => [.ro (List.map (eFeat false) a)], fun a => gf_av9 a, fun a r => ⟨[(false, [.v (.bool r)])], []⟩, fun a => []⟩
/-! (impl.Repo).commit$1 -/
def ib_an9 : IC :=
 (Rs [Io 2 (.box 115 [some 17, some 100, none] (.t 0)), Kb 3 false]
 (Rs [La 4 3 2, La 5 3 1, Ca 6 330 [4, 5], Mv 3 6]
 .ret))
def if_an9 : IFn := ⟨7, [.inl 3], ib_an9, lcF []⟩
def ks_an9 : List (List (Option Nat)) := [[none]]
def gf_an9 (a0 : Commit) (a1 : Commit) : Option Bool := (gf_bj9 a0 a1).bind fun x2 => some (x2)
def c_an9 : Con := ⟨Commit × Commit, Bool, 83, fun a => [.agg [.ro (List.map eInt a.1.up), .ro (List.map (eFeat false) a.1.sheet), .v (.string a.1.note)], .rptr [.sl false 1 (List.map eInt a.2.up), .sl false 4 (List.map (eFeat false) a.2.sheet), .v (.string a.2.note)]], fun a => gf_an9 a.1 a.2, fun a r => ⟨[(false, [.v (.bool r)])], []⟩, fun a => []⟩
/-! slices.IndexFunc[[]impl.Commit,impl.Commit] -/
def ib_ca9 : IC :=
 (Rs [Ki 4 0]
 (.seq (Rs [Mv 6 0, Ln 7 6, Ki 8 0]
 (blkC 0 (.loop (Rs [Bb 9 .lss 8 7]
 (.seq (Ct 9 .skip
 (.exit 0))
 (.seq (.block 1 (Rs [Mv 10 8, Mv 5 10]
 (Rs [Mv 11 1, Mv 12 0, Mv 13 5, Ia 14 3 12 13, La 15 3 14, Io 16 (.calld (.t 11) [(false, .t 15)])]
 (Ct 16 (Rs [Mv 17 5, Mv 4 17]
 .ret)
 .skip))))
 (.reg [Bk 18 .add 8 1, Mv 8 18])))))))
 (Rs [Ki 4 (-1)]
 .ret)))
def if_ca9 : IFn := ⟨19, [.inl 4], ib_ca9, lcF []⟩
def ks_ca9 : List (List (Option Nat)) := [[none]]
def gl_cb9_1 (a1 : Commit) : List Commit → Nat → Option (Int ⊕ Unit)
 | [], k16 => some (.inr ())
 | x17 :: l18, k16 => (gf_an9 x17 a1).bind fun x25 => if x25 = true then (some (.inl ((k16 : Int)))) else (gl_cb9_1 a1 l18 (k16 + 1) )
def gf_cb9 (a0 : (List Commit)) (a1 : Commit) : Option Int := if fits a0.length = true then ((gl_cb9_1 a1 a0 0 ).bind fun q => match q with | .inl r => some r | .inr q14 => some ((-1))) else none
def c_cb9 : Con := ⟨(List Commit) × Commit, Int, 84, fun a => [.ro (List.map (eCommit false) a.1), .fn 83 [.rptr [.sl false 1 (List.map eInt a.2.up), .sl false 4 (List.map (eFeat false) a.2.sheet), .v (.string a.2.note)]]], fun a => gf_cb9 a.1 a.2, fun a r => ⟨[(false, [.v (.int .i64 r)])], []⟩, fun a => []⟩
/-! (impl.Repo).commit -/
def ib_am9 : IC :=
 (Rs [Io 2 (.box 210 [some 115, some 130] (.t 0)), Io 3 (.box 115 [some 17, some 100, none] (.t 1)), Ki 4 0]
 (Rs [Fa 5 0 2, Ld 6 1 5, Io 7 (.mkf 83 [.t 3]), Ca 8 84 [6, 7], Mv 4 8]
 .ret))
def if_am9 : IFn := ⟨9, [.inl 4], ib_am9, lcF []⟩
def ks_am9 : List (List (Option Nat)) := [[none]]
def gf_am9 (a0 : Repo) (a1 : Commit) : Option Int := (gf_cb9 a0.commits a1).bind fun x3 => some (x3)
def c_am9 : Con := ⟨Repo × Commit, Int, 87, fun a => [.agg [.ro (List.map (eCommit false) a.1.commits), .ro (List.map eHead a.1.heads)], .agg [.ro (List.map eInt a.2.up), .ro (List.map (eFeat false) a.2.sheet), .v (.string a.2.note)]], fun a => gf_am9 a.1 a.2, fun a r => ⟨[(false, [.v (.int .i64 r)])], []⟩, fun a => []⟩
/-! slices.Contains[[]int,int] -/
def ib_br9 : IC :=
 (Rs [Kb 4 false]
 (Rs [Mv 5 0, Mv 6 1, Ca 7 85 [5, 6], Bk 8 .geq 7 0, Mv 4 8]
 .ret))
def if_br9 : IFn := ⟨9, [.inl 4], ib_br9, lcF []⟩
def ks_br9 : List (List (Option Nat)) := [[none]]
def gf_br9 (a0 : (List Int)) (a1 : Int) : Option Bool := (gf_ci9 a0 a1).bind fun x1 => some ((decide (x1 ≥ 0)))
def c_br9 : Con := ⟨(List Int) × Int, Bool, 88, fun a => [.ro (List.map eInt a.1), .v (.int .i64 a.2)], fun a => gf_br9 a.1 a.2, fun a r => ⟨[(false, [.v (.bool r)])], []⟩, fun a => []⟩
/-! (impl.Repo).head$1 -/
def ib_ap9 : IC :=
 (Rs [Io 2 (.box 130 [none, none] (.t 0)), Kb 3 false]
 (Rs [Fa 4 0 2, Ld 5 1 4, Ld 6 1 1, Bb 7 .eql 5 6, Mv 3 7]
 .ret))
def if_ap9 : IFn := ⟨8, [.inl 3], ib_ap9, lcF []⟩
def ks_ap9 : List (List (Option Nat)) := [[none]]
def gf_ap9 (a0 : Head) (a1 : Str) : Option Bool := some ((seq a0.name a1))
def c_ap9 : Con := ⟨Head × Str, Bool, 77, fun a => [.agg [.v (.string a.1.name), .v (.int .i64 a.1.at_)], .rptr [.v (.string a.2)]], fun a => gf_ap9 a.1 a.2, fun a r => ⟨[(false, [.v (.bool r)])], []⟩, fun a => []⟩
/-! slices.IndexFunc[[]impl.Head,impl.Head] -/
def ib_ce9 : IC :=
 (Rs [Ki 4 0]
 (.seq (Rs [Mv 6 0, Ln 7 6, Ki 8 0]
 (blkC 0 (.loop (Rs [Bb 9 .lss 8 7]
 (.seq (Ct 9 .skip
 (.exit 0))
 (.seq (.block 1 (Rs [Mv 10 8, Mv 5 10]
 (Rs [Mv 11 1, Mv 12 0, Mv 13 5, Ia 14 2 12 13, La 15 2 14, Io 16 (.calld (.t 11) [(false, .t 15)])]
 (Ct 16 (Rs [Mv 17 5, Mv 4 17]
 .ret)
 .skip))))
 (.reg [Bk 18 .add 8 1, Mv 8 18])))))))
 (Rs [Ki 4 (-1)]
 .ret)))
def if_ce9 : IFn := ⟨19, [.inl 4], ib_ce9, lcF []⟩
def ks_ce9 : List (List (Option Nat)) := [[none]]
def gl_cf9_1 (a1 : Str) : List Head → Nat → Option (Int ⊕ Unit)
 | [], k16 => some (.inr ())
 | x17 :: l18, k16 => (gf_ap9 x17 a1).bind fun x25 => if x25 = true then (some (.inl ((k16 : Int)))) else (gl_cf9_1 a1 l18 (k16 + 1) )
def gf_cf9 (a0 : (List Head)) (a1 : Str) : Option Int := if fits a0.length = true then ((gl_cf9_1 a1 a0 0 ).bind fun q => match q with | .inl r => some r | .inr q14 => some ((-1))) else none
def c_cf9 : Con := ⟨(List Head) × Str, Int, 78, fun a => [.ro (List.map eHead a.1), .fn 77 [.rptr [.v (.string a.2)]]], fun a => gf_cf9 a.1 a.2, fun a r => ⟨[(false, [.v (.int .i64 r)])], []⟩, fun a => []⟩
/-! (impl.Repo).head -/
def ib_ao9 : IC :=
 (Rs [Io 2 (.box 210 [some 115, some 130] (.t 0)), Io 3 (.box 49 [none] (.t 1)), Ki 4 0]
 (Rs [Fa 5 1 2, Ld 6 1 5, Io 7 (.mkf 77 [.t 3]), Ca 8 78 [6, 7], Mv 4 8]
 .ret))
def if_ao9 : IFn := ⟨9, [.inl 4], ib_ao9, lcF []⟩
def ks_ao9 : List (List (Option Nat)) := [[none]]
def gf_ao9 (a0 : Repo) (a1 : Str) : Option Int := (gf_cf9 a0.heads a1).bind fun x3 => some (x3)
def c_ao9 : Con := ⟨Repo × Str, Int, 89, fun a => [.agg [.ro (List.map (eCommit false) a.1.commits), .ro (List.map eHead a.1.heads)], .v (.string a.2)], fun a => gf_ao9 a.1 a.2, fun a r => ⟨[(false, [.v (.int .i64 r)])], []⟩, fun a => []⟩
/-! (impl.Repo).version -/
def ib_as9 : IC :=
 (Rs [Io 2 (.box 210 [some 115, some 130] (.t 0)), Kb 4 false]
 (Rs [Mv 5 1, Fa 6 0 2, Ld 7 1 6, Ln 8 7, Bk 9 .sub 8 1, Io 10 (.call 76 [(false, .t 5), (false, .c (.int .i64 0)), (false, .t 9)]), Mv 4 10]
 .ret))
def if_as9 : IFn := ⟨11, [.inl 4], ib_as9, lcF []⟩
def ks_as9 : List (List (Option Nat)) := [[none]]
def gf_as9 (a0 : Repo) (a1 : Int) : Option Bool := (gf_bk9 a1 0 (IntKind.i64.wrap ((a0.commits.length : Int) - 1))).bind fun x2 => some (x2)
def c_as9 : Con := ⟨Repo × Int, Bool, 90, fun a => [.agg [.ro (List.map (eCommit false) a.1.commits), .ro (List.map eHead a.1.heads)], .v (.int .i64 a.2)], fun a => gf_as9 a.1 a.2, fun a r => ⟨[(false, [.v (.bool r)])], []⟩, fun a => []⟩
/-! impl.cloneShape -/
def ib_bd9 : IC :=
 (Rs [Io 1 (.box 226 [none, some 66] (.t 0)), Io 2 (.alloc 226 [.v (.int .i64 0), .sl true 66 []])]
 (.seq (.drw [Fa 3 0 1, Ld 4 1 3, Io 5 (.lit 66 [none, none] [.v (.int .i64 0), .v (.int .i64 0)] 0 []), Fa 6 1 1, Ld 7 1 6, Io 8 (.app 66 false (.t 5) (.t 7)), Io 9 (.build [.v (.int .i64 0), .nil] [(0, 1, .t 4), (1, 1, .t 8)]), Sv [none, some 66] 2 9] [(1, 2), (1, 4), (2, 4), (1, 5)])
 .ret))
def if_bd9 : IFn := ⟨10, [.inr (2, 2)], ib_bd9, lcF []⟩
def ks_bd9 : List (List (Option Nat)) := [[none, some 66]]
def gf_bd9 (a0 : Shape) : Option Shape := if fits ([] ++ a0.pts).length = true then some ((⟨a0.kind, ([] ++ a0.pts)⟩ : Shape)) else none
def c_bd9 : Con := ⟨Shape, Shape, 91, fun a => [.agg [.v (.int .i64 a.kind), .ro (List.map ePt a.pts)]], fun a => gf_bd9 a, fun a r => ⟨[(true, eShape true r)], []⟩, fun a => []⟩
/-! impl.cloneFeat -/
def ib_bb9 : IC :=
 (Rs [Io 1 (.box 100 [none, none, some 66, some 82] (.t 0)), Io 2 (.alloc 100 [.v (.string ⟨#[]⟩), .v (.int .i64 0), .sl true 66 [], .sl true 82 []])]
 (.seq (.drw [Fa 3 0 1, Ld 4 1 3, Fa 5 1 1, La 6 2 5, Ca 7 91 [6], Io 8 (.lit 82 [none, none] [.v (.string ⟨#[]⟩), .v (.string ⟨#[]⟩)] 0 []), Fa 9 3 1, Ld 10 1 9, Io 11 (.app 82 false (.t 8) (.t 10)), Io 12 (.build [.v (.string ⟨#[]⟩), .v (.int .i64 0), .nil, .nil] [(0, 1, .t 4), (1, 2, .t 7), (3, 1, .t 11)]), Sv [none, none, some 66, some 82] 2 12] [(1, 3), (1, 4), (1, 5), (3, 5), (4, 5), (1, 7), (3, 7), (4, 7), (5, 7), (1, 8)])
 .ret))
def if_bb9 : IFn := ⟨13, [.inr (2, 4)], ib_bb9, lcF []⟩
def ks_bb9 : List (List (Option Nat)) := [[none, none, some 66, some 82]]
def gf_bb9 (a0 : Feat) : Option Feat := (gf_bd9 a0.shape).bind fun x3 => if fits ([] ++ a0.tags).length = true then some ((⟨a0.id, x3, ([] ++ a0.tags)⟩ : Feat)) else none
def c_bb9 : Con := ⟨Feat, Feat, 92, fun a => [.agg [.v (.string a.id), .v (.int .i64 a.shape.kind), .ro (List.map ePt a.shape.pts), .ro (List.map eTag a.tags)]], fun a => gf_bb9 a, fun a r => ⟨[(true, eFeat true r)], []⟩, fun a => []⟩
/-! impl.cloneSheet -/
def ib_be9 : IC :=
 (Rs [Io 2 (.mv (.c (.slice none 0 0)))]
 (Rs [Io 6 (.lit 100 [none, none, some 66, some 82] [.v (.string ⟨#[]⟩), .v (.int .i64 0), .sl true 66 [], .sl true 82 []] 0 []), Mv 3 6]
 (.seq (Rs [Mv 7 0, Ln 8 7, Ki 9 0]
 (blkC 0 (.loop (Rs [Bb 10 .lss 9 8]
 (.seq (Ct 10 .skip
 (.exit 0))
 (.seq (.block 1 (Rs [Ia 11 4 7 9, La 12 4 11, Io 5 (.alloc 100 [.v (.string ⟨#[]⟩), .v (.int .i64 0), .sl true 66 [], .sl true 82 []]), Sv [none, none, some 66, some 82] 5 12]
 (.reg [Mv 13 3, La 14 4 5, Ca 15 92 [14], Io 16 (.lit 100 [none, none, some 66, some 82] [.v (.string ⟨#[]⟩), .v (.int .i64 0), .sl true 66 [], .sl true 82 []] 1 [(0, .t 15)]), Io 17 (.app 100 true (.t 13) (.t 16)), Mv 3 17])))
 (.reg [Bk 18 .add 9 1, Mv 9 18])))))))
 (Rs [Mv 19 3, Mv 2 19]
 .ret))))
def if_be9 : IFn := ⟨20, [.inl 2], ib_be9, lcF []⟩
def ks_be9 : List (List (Option Nat)) := [[some 100]]
def gl_be9_1 : List Feat → Nat → (List Feat) → Option (List Feat)
 | [], k52, v49 => some v49
 | x53 :: l54, k52, v49 => (gf_bb9 x53).bind fun x62 => if fits (v49 ++ ([x62] : (List Feat))).length = true then gl_be9_1 l54 (k52 + 1) (v49 ++ ([x62] : (List Feat))) else none
def gf_be9 (a0 : (List Feat)) : Option (List Feat) := if fits a0.length = true then ((gl_be9_1 a0 0 []).bind fun q47 => some (q47)) else none
def c_be9 : Con := ⟨(List Feat), (List Feat), 93, fun a => [.ro (List.map (eFeat false) a)], fun a => gf_be9 a, fun a r => ⟨[(false, [sl true 100 (List.map (eFeat true) r)])], []⟩, fun a => []⟩
/-! impl.cloneCommit -/
def ib_ba9 : IC :=
 (Rs [Io 1 (.box 115 [some 17, some 100, none] (.t 0)), Io 2 (.alloc 115 [.sl true 17 [], .sl true 100 [], .v (.string ⟨#[]⟩)])]
 (.seq (.drw [Io 3 (.lit 17 [none] [.v (.int .i64 0)] 0 []), Fa 4 0 1, Ld 5 1 4, Io 6 (.app 17 false (.t 3) (.t 5)), Fa 7 1 1, Ld 8 1 7, Ca 9 93 [8], Fa 10 2 1, Ld 11 1 10, Io 12 (.build [.nil, .nil, .v (.string ⟨#[]⟩)] [(0, 1, .t 6), (1, 1, .t 9), (2, 1, .t 11)]), Sv [some 17, some 100, none] 2 12] [(0, 2), (0, 5), (2, 5), (3, 5), (0, 8), (2, 8), (3, 8), (5, 8), (6, 8)])
 .ret))
def if_ba9 : IFn := ⟨13, [.inr (2, 3)], ib_ba9, lcF []⟩
def ks_ba9 : List (List (Option Nat)) := [[some 17, some 100, none]]
def gf_ba9 (a0 : Commit) : Option Commit := if fits ([] ++ a0.up).length = true then (gf_be9 a0.sheet).bind fun x7 => some ((⟨([] ++ a0.up), x7, a0.note⟩ : Commit)) else none
def c_ba9 : Con := ⟨Commit, Commit, 94, fun a => [.agg [.ro (List.map eInt a.up), .ro (List.map (eFeat false) a.sheet), .v (.string a.note)]], fun a => gf_ba9 a, fun a r => ⟨[(true, eCommit true r)], []⟩, fun a => []⟩
/-! impl.RepoOk -/
def ib_aj9 : IC :=
 (Rs [Io 1 (.box 210 [some 115, some 130] (.t 0)), Kb 2 false]
 (.seq (Rs [Fa 9 0 1, Ld 10 1 9, Ln 11 10, Io 12 (.call 76 [(false, .t 11), (false, .c (.int .i64 1)), (false, .c (.int .i64 14))]), Nt 13 12, Mv 14 13, Gf 14 (Fa 15 1 1), Gf 14 (Ld 16 1 15), Gf 14 (Ln 17 16), Gf 14 (Io 18 (.call 76 [(false, .t 17), (false, .c (.int .i64 1)), (false, .c (.int .i64 4))])), Gf 14 (Nt 19 18), Pk 20 14 19]
 (Ct 20 (Rs [Kb 2 false]
 .ret)
 .skip))
 (.seq (Rs [Fa 21 0 1, Ld 22 1 21, Ln 23 22, Ki 24 0]
 (blkC 0 (.loop (Rs [Bb 25 .lss 24 23]
 (.seq (Ct 25 .skip
 (.exit 0))
 (.seq (.block 1 (Rs [Mv 26 24, Ia 27 3 22 24, La 28 3 27, Io 4 (.alloc 115 [.sl true 17 [], .sl true 100 [], .v (.string ⟨#[]⟩)]), Mv 3 26, Sv [some 17, some 100, none] 4 28]
 (.seq (Rs [Fa 29 1 4, Ld 30 1 29, Ca 31 86 [30], Nt 32 31, Mv 33 32, Gf 33 (Fa 34 2 4), Gf 33 (Ld 35 1 34), Gf 33 (Ca 36 80 [35]), Gf 33 (Nt 37 36), Pk 38 33 37, Mv 39 38, Gf 39 (La 40 2 1), Gf 39 (La 41 3 4), Gf 39 (Ca 42 87 [40, 41]), Gf 39 (Mv 43 3), Gf 39 (Bb 44 .neq 42 43), Pk 45 39 44, Mv 46 45, Gf 46 (Mv 47 3), Gf 46 (Bk 48 .eql 47 0), Gf 46 (Fa 49 0 4), Gf 46 (Ld 50 1 49), Gf 46 (Ln 51 50), Gf 46 (Bk 52 .eql 51 0), Gf 46 (Io 53 (.eqs true false [1] (.t 48) (.t 52))), Pk 54 46 53, Mv 55 54, Gf 55 (Fa 56 0 4), Gf 55 (Ld 57 1 56), Gf 55 (Ln 58 57), Gf 55 (Bk 59 .gtr 58 2), Pk 60 55 59]
 (Ct 60 (Rs [Kb 2 false]
 .ret)
 .skip))
 (Rs [Fa 61 0 4, Ld 62 1 61, Ln 63 62, Ki 64 0]
 (blkC 2 (.loop (Rs [Bb 65 .lss 64 63]
 (.seq (Ct 65 .skip
 (.exit 2))
 (.seq (.block 3 (Rs [Mv 66 64, Ia 67 1 62 64, Ld 68 1 67, Mv 5 66, Mv 6 68]
 (Rs [Mv 69 6, Mv 70 3, Bk 71 .sub 70 1, Io 72 (.call 76 [(false, .t 69), (false, .c (.int .i64 0)), (false, .t 71)]), Nt 73 72, Mv 74 73, Gf 74 (Fa 75 0 4), Gf 74 (Ld 76 1 75), Gf 74 (Mv 77 5), Gf 74 (Io 78 (.sls 1 (.t 76) none (some (.t 77)))), Gf 74 (Mv 79 6), Gf 74 (Ca 80 88 [78, 79]), Pk 81 74 80]
 (Ct 81 (Rs [Kb 2 false]
 .ret)
 .skip))))
 (.reg [Bk 82 .add 64 1, Mv 64 82]))))))))))
 (.reg [Bk 83 .add 24 1, Mv 24 83])))))))
 (.seq (Rs [Fa 84 1 1, Ld 85 1 84, Ln 86 85, Ki 87 0]
 (blkC 4 (.loop (Rs [Bb 88 .lss 87 86]
 (.seq (Ct 88 .skip
 (.exit 4))
 (.seq (.block 5 (Rs [Mv 89 87, Ia 90 2 85 87, La 91 2 90, Io 8 (.alloc 130 [.v (.string ⟨#[]⟩), .v (.int .i64 0)]), Mv 7 89, Sv [none, none] 8 91]
 (Rs [Fa 92 0 8, Ld 93 1 92, Ca 94 80 [93], Nt 95 94, Mv 96 95, Gf 96 (La 97 2 1), Gf 96 (Fa 98 0 8), Gf 96 (Ld 99 1 98), Gf 96 (Ca 100 89 [97, 99]), Gf 96 (Mv 101 7), Gf 96 (Bb 102 .neq 100 101), Pk 103 96 102, Mv 104 103, Gf 104 (La 105 2 1), Gf 104 (Fa 106 1 8), Gf 104 (Ld 107 1 106), Gf 104 (Ca 108 90 [105, 107]), Gf 104 (Nt 109 108), Pk 110 104 109]
 (Ct 110 (Rs [Kb 2 false]
 .ret)
 .skip))))
 (.reg [Bk 111 .add 87 1, Mv 87 111])))))))
 (Rs [Kb 2 true]
 .ret)))))
def if_aj9 : IFn := ⟨112, [.inl 2], ib_aj9, lcF []⟩
def ks_aj9 : List (List (Option Nat)) := [[none]]
def gl_aj9_5 (k189 : Nat) (x190 : Commit) : List Int → Nat → Option (Bool ⊕ Unit)
 | [], k238 => some (.inr ())
 | x239 :: l240, k238 => (gf_bk9 x239 0 (IntKind.i64.wrap ((k189 : Int) - 1))).bind fun x247 => if (!x247) = true then (some (.inl (false))) else ((slc x190.up 0 (k238 : Int)).bind fun x249 => (gf_br9 x249 x239).bind fun x251 => if x251 = true then (some (.inl (false))) else (gl_aj9_5 k189 x190 l240 (k238 + 1) ))
def gl_aj9_4 (a0 : Repo) : List Commit → Nat → Option (Bool ⊕ Unit)
 | [], k189 => some (.inr ())
 | x190 :: l191, k189 => (gf_av9 x190.sheet).bind fun x199 => if (!x199) = true then (some (.inl (false))) else ((gf_az9 x190.note).bind fun x201 => if (!x201) = true then (some (.inl (false))) else ((gf_am9 a0 x190).bind fun x203 => if (x203 != (k189 : Int)) = true then (some (.inl (false))) else (if (!(((k189 : Int) == 0) == ((x190.up.length : Int) == 0))) = true then (some (.inl (false))) else (if (decide ((x190.up.length : Int) > 2)) = true then (some (.inl (false))) else (if fits x190.up.length = true then ((gl_aj9_5 k189 x190 x190.up 0 ).bind fun q => match q with | .inl r => some (.inl r) | .inr q234 => gl_aj9_4 a0 l191 (k189 + 1) ) else none)))))
def gl_aj9_6 (a0 : Repo) : List Head → Nat → Option (Bool ⊕ Unit)
 | [], k289 => some (.inr ())
 | x290 :: l291, k289 => (gf_az9 x290.name).bind fun x299 => if (!x299) = true then (some (.inl (false))) else ((gf_ao9 a0 x290.name).bind fun x301 => if (x301 != (k289 : Int)) = true then (some (.inl (false))) else ((gf_as9 a0 x290.at_).bind fun x303 => if (!x303) = true then (some (.inl (false))) else (gl_aj9_6 a0 l291 (k289 + 1) )))
def gf_aj9 (a0 : Repo) : Option Bool := (gf_bk9 (a0.commits.length : Int) 1 14).bind fun x2 => if (!x2) = true then (some (false)) else ((gf_bk9 (a0.heads.length : Int) 1 4).bind fun x4 => if (!x4) = true then (some (false)) else (if fits a0.commits.length = true then ((gl_aj9_4 a0 a0.commits 0 ).bind fun q => match q with | .inl r => some r | .inr q186 => if fits a0.heads.length = true then ((gl_aj9_6 a0 a0.heads 0 ).bind fun q => match q with | .inl r => some r | .inr q286 => some (true)) else none) else none))
def c_aj9 : Con := ⟨Repo, Bool, 96, fun a => [.agg [.ro (List.map (eCommit false) a.commits), .ro (List.map eHead a.heads)]], fun a => gf_aj9 a, fun a r => ⟨[(false, [.v (.bool r)])], []⟩, fun a => []⟩
/-! (impl.Repo).past -/
def ib_aq9 : IC :=
 (Rs [Io 2 (.box 210 [some 115, some 130] (.t 0)), Io 4 (.mv (.c (.slice none 0 0)))]
 (Rs [Fa 9 0 2, Ld 10 1 9, Ln 11 10, Io 12 (.mks 33 [.v (.bool false)] (.t 11) (.t 11)), Mv 5 12]
 (Rs [Mv 13 5, Mv 14 1, Ia 15 1 13 14, Iz (.store [none] (.t 15) (.c (.bool true)))]
 (.seq (Rs [Mv 16 1, Mv 6 16]
 (blkC 0 (.loop (.seq (Rs [Mv 17 6, Bk 18 .geq 17 0]
 (Ct 18 .skip
 (.exit 0)))
 (.seq (.block 1 (Rs [Mv 21 5, Mv 22 6, Ia 23 1 21 22, Ld 24 1 23]
 (Ct 24 (Rs [Fa 25 0 2, Ld 26 1 25, Mv 27 6, Ia 28 3 26 27, Fa 29 0 28, Ld 30 1 29, Ln 31 30, Ki 32 0]
 (blkC 2 (.loop (Rs [Bb 33 .lss 32 31]
 (.seq (Ct 33 .skip
 (.exit 2))
 (.seq (.block 3 (Rs [Ia 34 1 30 32, Ld 35 1 34, Mv 8 35]
 (.reg [Mv 36 5, Mv 37 8, Ia 38 1 36 37, Iz (.store [none] (.t 38) (.c (.bool true)))])))
 (.reg [Bk 39 .add 32 1, Mv 32 39])))))))
 .skip)))
 (.reg [Mv 19 6, Bk 20 .sub 19 1, Mv 6 20]))))))
 (Rs [Mv 40 5, Mv 4 40]
 .ret)))))
def if_aq9 : IFn := ⟨41, [.inl 4], ib_aq9, lcF []⟩
def ks_aq9 : List (List (Option Nat)) := [[some 33]]
def gl_aq9_5 : List Int → Nat → (List Bool) → Option (List Bool)
 | [], k187, v184 => some v184
 | x188 :: l189, k187, v184 => (idx v184 x188).bind fun x196 => gl_aq9_5 l189 (k187 + 1) (List.set v184 x188.toNat true)
def gl_aq9_4 (a0 : Repo) : Nat → Int → (List Bool) → Option (List Bool)
 | 0, _, _ => none
 | n156 + 1, v151, v153 => if (decide (v151 ≥ 0)) = true then ((idx v153 v151).bind fun x157 => if x157 = true then ((idx a0.commits v151).bind fun x159 => if fits x159.up.length = true then ((gl_aq9_5 x159.up 0 v153).bind fun q181 => gl_aq9_4 a0 n156 (IntKind.i64.wrap (v151 - 1)) q181) else none) else (gl_aq9_4 a0 n156 (IntKind.i64.wrap (v151 - 1)) v153)) else (some v153)
def gf_aq9 (a0 : Repo) (a1 : Int) : Option (List Bool) := if (decide (0 ≤ (a0.commits.length : Int)) && fits ((a0.commits.length : Int)).toNat) = true then (idx (List.replicate ((a0.commits.length : Int)).toNat false) a1).bind fun x5 => (gl_aq9_4 a0 rounds a1 (List.set (List.replicate ((a0.commits.length : Int)).toNat false) a1.toNat true)).bind fun q150 => some (q150) else none
def c_aq9 : Con := ⟨Repo × Int, (List Bool), 97, fun a => [.agg [.ro (List.map (eCommit false) a.1.commits), .ro (List.map eHead a.1.heads)], .v (.int .i64 a.2)], fun a => gf_aq9 a.1 a.2, fun a r => ⟨[(false, [sl true 33 (List.map eBool r)])], []⟩, fun a => []⟩
/-! impl.RepoBases$1 -/
def ib_ah9 : IC :=
 (Rs [Kb 4 false]
 (.seq (.drw [La 5 2 1, Mv 6 0, Ca 7 97 [5, 6], Ld 8 1 2, Ia 9 1 7 8, Ld 10 1 9, Mv 4 10] [(0, 3), (2, 3)])
 .ret))
def if_ah9 : IFn := ⟨11, [.inl 4], ib_ah9, lcF []⟩
def ks_ah9 : List (List (Option Nat)) := [[none]]
def gf_ah9 (a0 : Int) (a1 : Repo) (a2 : Int) : Option Bool := (gf_aq9 a1 a0).bind fun x1 => (idx x1 a2).bind fun x5 => some (x5)
def c_ah9 : Con := ⟨Int × Repo × Int, Bool, 98, fun a => [.v (.int .i64 a.1), .rptr [.sl false 3 (List.map (eCommit false) a.2.1.commits), .sl false 2 (List.map eHead a.2.1.heads)], .rptr [.v (.int .i64 a.2.2)]], fun a => gf_ah9 a.1 a.2.1 a.2.2, fun a r => ⟨[(false, [.v (.bool r)])], []⟩, fun a => []⟩
/-! slices.IndexFunc[[]int,int] -/
def ib_cg9 : IC :=
 (Rs [Ki 4 0]
 (.seq (Rs [Mv 6 0, Ln 7 6, Ki 8 0]
 (blkC 0 (.loop (Rs [Bb 9 .lss 8 7]
 (.seq (Ct 9 .skip
 (.exit 0))
 (.seq (.block 1 (Rs [Mv 10 8, Mv 5 10]
 (Rs [Mv 11 1, Mv 12 0, Mv 13 5, Ia 14 1 12 13, Ld 15 1 14, Io 16 (.calld (.t 11) [(false, .t 15)])]
 (Ct 16 (Rs [Mv 17 5, Mv 4 17]
 .ret)
 .skip))))
 (.reg [Bk 18 .add 8 1, Mv 8 18])))))))
 (Rs [Ki 4 (-1)]
 .ret)))
def if_cg9 : IFn := ⟨19, [.inl 4], ib_cg9, lcF []⟩
def ks_cg9 : List (List (Option Nat)) := [[none]]
def gl_ch9_1 (a1 : Repo) (a2 : Int) : List Int → Nat → Option (Int ⊕ Unit)
 | [], k16 => some (.inr ())
 | x17 :: l18, k16 => (gf_ah9 x17 a1 a2).bind fun x25 => if x25 = true then (some (.inl ((k16 : Int)))) else (gl_ch9_1 a1 a2 l18 (k16 + 1) )
def gf_ch9 (a0 : (List Int)) (a1 : Repo) (a2 : Int) : Option Int := if fits a0.length = true then ((gl_ch9_1 a1 a2 a0 0 ).bind fun q => match q with | .inl r => some r | .inr q14 => some ((-1))) else none
def c_ch9 : Con := ⟨(List Int) × Repo × Int, Int, 95, fun a => [.ro (List.map eInt a.1), .fn 98 [.rptr [.sl false 3 (List.map (eCommit false) a.2.1.commits), .sl false 2 (List.map eHead a.2.1.heads)], .rptr [.v (.int .i64 a.2.2)]]], fun a => gf_ch9 a.1 a.2.1 a.2.2, fun a r => ⟨[(false, [.v (.int .i64 r)])], []⟩, fun a => []⟩
/-! slices.ContainsFunc[[]int,int] -/
def ib_bp9 : IC :=
 (Rs [Kb 4 false]
 (Rs [Mv 5 0, Mv 6 1, Ca 7 95 [5, 6], Bk 8 .geq 7 0, Mv 4 8]
 .ret))
def if_bp9 : IFn := ⟨9, [.inl 4], ib_bp9, lcF []⟩
def ks_bp9 : List (List (Option Nat)) := [[none]]
def gf_bq9 (a0 : (List Int)) (a1 : Repo) (a2 : Int) : Option Bool := (gf_ch9 a0 a1 a2).bind fun x1 => some ((decide (x1 ≥ 0)))
def c_bq9 : Con := ⟨(List Int) × Repo × Int, Bool, 99, fun a => [.ro (List.map eInt a.1), .fn 98 [.rptr [.sl false 3 (List.map (eCommit false) a.2.1.commits), .sl false 2 (List.map eHead a.2.1.heads)], .rptr [.v (.int .i64 a.2.2)]]], fun a => gf_bq9 a.1 a.2.1 a.2.2, fun a r => ⟨[(false, [.v (.bool r)])], []⟩, fun a => []⟩
/-! impl.RepoBases -/
def ib_ag9 : IC :=
 (Rs [Io 3 (.box 210 [some 115, some 130] (.t 0)), Io 6 (.mv (.c (.slice none 0 0)))]
 (.seq (Rs [La 11 2 3, Ca 12 96 [11], Nt 13 12, Mv 14 13, Gf 14 (La 15 2 3), Gf 14 (Mv 16 1), Gf 14 (Ca 17 90 [15, 16]), Gf 14 (Nt 18 17), Pk 19 14 18, Mv 20 19, Gf 20 (La 21 2 3), Gf 20 (Mv 22 2), Gf 20 (Ca 23 90 [21, 22]), Gf 20 (Nt 24 23), Pk 25 20 24]
 (Ct 25 (Rs [Io 26 (.lit 17 [none] [.v (.int .i64 0)] 0 []), Mv 6 26]
 .ret)
 .skip))
 (.seq (.drw [La 27 2 3, Mv 28 1, Ca 29 97 [27, 28], La 30 2 3, Mv 31 2, Ca 32 97 [30, 31], Mv 7 29, Mv 8 32] [(0, 3), (2, 3)])
 (Rs [Io 33 (.lit 17 [none] [.v (.int .i64 0)] 0 []), Mv 9 33]
 (.seq (Rs [Mv 34 7, Ln 35 34, Bk 36 .sub 35 1, Io 10 (.alloc 17 [.v (.int .i64 0)]), Sv [none] 10 36]
 (blkC 0 (.loop (.seq (Rs [Ld 37 1 10, Bk 38 .geq 37 0]
 (Ct 38 .skip
 (.exit 0)))
 (seqC (.block 1 (.seq (Rs [Mv 41 7, Ld 42 1 10, Ia 43 1 41 42, Ld 44 1 43, Nt 45 44, Mv 46 45, Gf 46 (Mv 47 8), Gf 46 (Ld 48 1 10), Gf 46 (Ia 49 1 47 48), Gf 46 (Ld 50 1 49), Gf 46 (Nt 51 50), Pk 52 46 51]
 (Ct 52 (.exit 1)
 .skip))
 (Rs [Mv 53 9, Io 54 (.mkf 98 [.t 3, .t 10]), Ca 55 99 [53, 54], Nt 56 55]
 (Ct 56 (.reg [Mv 57 9, Ld 58 1 10, Io 59 (.lit 17 [none] [.v (.int .i64 0)] 1 [(0, .t 58)]), Io 60 (.app 17 true (.t 57) (.t 59)), Mv 9 60])
 .skip))))
 (.seq (Rs [Ld 61 1 10]
 (.reg [Io 10 (.alloc 17 [.v (.int .i64 0)]), Sv [none] 10 61]))
 (.reg [Ld 39 1 10, Bk 40 .sub 39 1, Sv [none] 10 40])))))))
 (Rs [Mv 62 9, Mv 6 62]
 .ret))))))
def if_ag9 : IFn := ⟨63, [.inl 6], ib_ag9, lcF []⟩
def ks_ag9 : List (List (Option Nat)) := [[some 17]]
def gl_ah9 (x11 : (List Bool)) (x15 : (List Bool)) (a0 : Repo) : Nat → (List Int) → Int → Option (List Int)
 | 0, _, _ => none
 | n112 + 1, v107, v110 => if (decide (v110 ≥ 0)) = true then ((((idx x11 v110).bind fun x124 => if (!x124) = true then (some v107) else ((idx x15 v110).bind fun x126 => if (!x126) = true then (some v107) else ((gf_bq9 v107 a0 v110).bind fun x128 => if (!x128) = true then (if fits (v107 ++ ([v110] : (List Int))).length = true then some (v107 ++ ([v110] : (List Int))) else none) else (some v107))) : Option (List Int))).bind fun q123 => gl_ah9 x11 x15 a0 n112 q123 (IntKind.i64.wrap (v110 - 1))) else (some v107)
def gf_ag9 (a0 : Repo) (a1 : Int) (a2 : Int) : Option (List Int) := (gf_aj9 a0).bind fun x2 => if (!x2) = true then (some (([] : (List Int)))) else ((gf_as9 a0 a1).bind fun x4 => if (!x4) = true then (some (([] : (List Int)))) else ((gf_as9 a0 a2).bind fun x6 => if (!x6) = true then (some (([] : (List Int)))) else ((gf_aq9 a0 a1).bind fun x11 => (gf_aq9 a0 a2).bind fun x15 => (gl_ah9 x11 x15 a0 rounds [] (IntKind.i64.wrap ((x11.length : Int) - 1))).bind fun q101 => some (q101))))
def c_ag9 : Con := ⟨Repo × Int × Int, (List Int), 100, fun a => [.agg [.ro (List.map (eCommit false) a.1.commits), .ro (List.map eHead a.1.heads)], .v (.int .i64 a.2.1), .v (.int .i64 a.2.2)], fun a => gf_ag9 a.1 a.2.1 a.2.2, fun a r => ⟨[(false, [sl true 17 (List.map eInt r)])], []⟩, fun a => []⟩
/-! cmp.isNaN[string] -/
def ib_ab9 : IC :=
 (Rs [Kb 2 false]
 (Rs [Mv 3 0, Mv 4 0, Bb 5 .neq 3 4, Mv 2 5]
 .ret))
def if_ab9 : IFn := ⟨6, [.inl 2], ib_ab9, lcF []⟩
def ks_ab9 : List (List (Option Nat)) := [[none]]
def gf_ab9 (a0 : Str) : Option Bool := some ((!seq a0 a0))
def c_ab9 : Con := ⟨Str, Bool, 101, fun a => [.v (.string a)], fun a => gf_ab9 a, fun a r => ⟨[(false, [.v (.bool r)])], []⟩, fun a => []⟩
/-! math/bits.Len32 -/
def ib_bn9 : IC :=
 (Rs [Ki 2 0]
 (seqC (Rs [Mv 3 0, Io 4 (.bin .geq (.t 3) (.c (.int .u32 65536)))]
 (Ct 4 (Rs [Mv 5 0, Io 6 (.bin .shr (.t 5) (.c (.int .u64 16))), Mv 0 6]
 (.reg [Ki 2 16]))
 .skip))
 (.seq (Rs [Mv 7 0, Io 8 (.bin .geq (.t 7) (.c (.int .u32 256)))]
 (Ct 8 (Rs [Mv 9 0, Io 10 (.bin .shr (.t 9) (.c (.int .u64 8))), Mv 0 10]
 (.reg [Mv 11 2, Bk 12 .add 11 8, Mv 2 12]))
 .skip))
 (Rs [Mv 13 2, Mv 14 0, Io 15 (.conv .u8 (.t 14)), Io 16 (.sidx (.c (.string ⟨#[0, 1, 2, 2, 3, 3, 3, 3, 4, 4, 4, 4, 4, 4, 4, 4, 5, 5, 5, 5, 5, 5, 5, 5, 5, 5, 5, 5, 5, 5, 5, 5, 6, 6, 6, 6, 6, 6, 6, 6, 6, 6, 6, 6, 6, 6, 6, 6, 6, 6, 6, 6, 6, 6, 6, 6, 6, 6, 6, 6, 6, 6, 6, 6, 7, 7, 7, 7, 7, 7, 7, 7, 7, 7, 7, 7, 7, 7, 7, 7, 7, 7, 7, 7, 7, 7, 7, 7, 7, 7, 7, 7, 7, 7, 7, 7, 7, 7, 7, 7, 7, 7, 7, 7, 7, 7, 7, 7, 7, 7, 7, 7, 7, 7, 7, 7, 7, 7, 7, 7, 7, 7, 7, 7, 7, 7, 7, 7, 8, 8, 8, 8, 8, 8, 8, 8, 8, 8, 8, 8, 8, 8, 8, 8, 8, 8, 8, 8, 8, 8, 8, 8, 8, 8, 8, 8, 8, 8, 8, 8, 8, 8, 8, 8, 8, 8, 8, 8, 8, 8, 8, 8, 8, 8, 8, 8, 8, 8, 8, 8, 8, 8, 8, 8, 8, 8, 8, 8, 8, 8, 8, 8, 8, 8, 8, 8, 8, 8, 8, 8, 8, 8, 8, 8, 8, 8, 8, 8, 8, 8, 8, 8, 8, 8, 8, 8, 8, 8, 8, 8, 8, 8, 8, 8, 8, 8, 8, 8, 8, 8, 8, 8, 8, 8, 8, 8, 8, 8, 8, 8, 8, 8, 8, 8, 8, 8, 8, 8, 8, 8, 8, 8, 8, 8, 8, 8]⟩)) (.t 15)), Io 17 (.conv .i64 (.t 16)), Bb 18 .add 13 17, Mv 2 18]
 .ret))))
def if_bn9 : IFn := ⟨19, [.inl 2], ib_bn9, lcF []⟩
def ks_bn9 : List (List (Option Nat)) := [[none]]
def gf_bn9 (a0 : Int) : Option Int := ((if (decide (a0 ≥ 65536)) = true then (some ((Int.fdiv a0 (2 ^ 16)), 16)) else (some (a0, 0)) : Option (Int × Int))).bind fun q1 => if (decide (q1.1 ≥ 256)) = true then ((bidx (⟨#[0, 1, 2, 2, 3, 3, 3, 3, 4, 4, 4, 4, 4, 4, 4, 4, 5, 5, 5, 5, 5, 5, 5, 5, 5, 5, 5, 5, 5, 5, 5, 5, 6, 6, 6, 6, 6, 6, 6, 6, 6, 6, 6, 6, 6, 6, 6, 6, 6, 6, 6, 6, 6, 6, 6, 6, 6, 6, 6, 6, 6, 6, 6, 6, 7, 7, 7, 7, 7, 7, 7, 7, 7, 7, 7, 7, 7, 7, 7, 7, 7, 7, 7, 7, 7, 7, 7, 7, 7, 7, 7, 7, 7, 7, 7, 7, 7, 7, 7, 7, 7, 7, 7, 7, 7, 7, 7, 7, 7, 7, 7, 7, 7, 7, 7, 7, 7, 7, 7, 7, 7, 7, 7, 7, 7, 7, 7, 7, 8, 8, 8, 8, 8, 8, 8, 8, 8, 8, 8, 8, 8, 8, 8, 8, 8, 8, 8, 8, 8, 8, 8, 8, 8, 8, 8, 8, 8, 8, 8, 8, 8, 8, 8, 8, 8, 8, 8, 8, 8, 8, 8, 8, 8, 8, 8, 8, 8, 8, 8, 8, 8, 8, 8, 8, 8, 8, 8, 8, 8, 8, 8, 8, 8, 8, 8, 8, 8, 8, 8, 8, 8, 8, 8, 8, 8, 8, 8, 8, 8, 8, 8, 8, 8, 8, 8, 8, 8, 8, 8, 8, 8, 8, 8, 8, 8, 8, 8, 8, 8, 8, 8, 8, 8, 8, 8, 8, 8, 8, 8, 8, 8, 8, 8, 8, 8, 8, 8, 8, 8, 8, 8, 8, 8, 8, 8, 8]⟩ : Str) (IntKind.u8.wrap (Int.fdiv q1.1 (2 ^ 8)))).bind fun x4 => some ((IntKind.i64.wrap ((IntKind.i64.wrap (q1.2 + 8)) + (IntKind.i64.wrap (x4.toNat : Int)))))) else ((bidx (⟨#[0, 1, 2, 2, 3, 3, 3, 3, 4, 4, 4, 4, 4, 4, 4, 4, 5, 5, 5, 5, 5, 5, 5, 5, 5, 5, 5, 5, 5, 5, 5, 5, 6, 6, 6, 6, 6, 6, 6, 6, 6, 6, 6, 6, 6, 6, 6, 6, 6, 6, 6, 6, 6, 6, 6, 6, 6, 6, 6, 6, 6, 6, 6, 6, 7, 7, 7, 7, 7, 7, 7, 7, 7, 7, 7, 7, 7, 7, 7, 7, 7, 7, 7, 7, 7, 7, 7, 7, 7, 7, 7, 7, 7, 7, 7, 7, 7, 7, 7, 7, 7, 7, 7, 7, 7, 7, 7, 7, 7, 7, 7, 7, 7, 7, 7, 7, 7, 7, 7, 7, 7, 7, 7, 7, 7, 7, 7, 7, 8, 8, 8, 8, 8, 8, 8, 8, 8, 8, 8, 8, 8, 8, 8, 8, 8, 8, 8, 8, 8, 8, 8, 8, 8, 8, 8, 8, 8, 8, 8, 8, 8, 8, 8, 8, 8, 8, 8, 8, 8, 8, 8, 8, 8, 8, 8, 8, 8, 8, 8, 8, 8, 8, 8, 8, 8, 8, 8, 8, 8, 8, 8, 8, 8, 8, 8, 8, 8, 8, 8, 8, 8, 8, 8, 8, 8, 8, 8, 8, 8, 8, 8, 8, 8, 8, 8, 8, 8, 8, 8, 8, 8, 8, 8, 8, 8, 8, 8, 8, 8, 8, 8, 8, 8, 8, 8, 8, 8, 8, 8, 8, 8, 8, 8, 8, 8, 8, 8, 8, 8, 8, 8, 8, 8, 8, 8, 8]⟩ : Str) (IntKind.u8.wrap q1.1)).bind fun x6 => some ((IntKind.i64.wrap (q1.2 + (IntKind.i64.wrap (x6.toNat : Int))))))
def c_bn9 : Con := ⟨Int, Int, 104, fun a => [.v (.int .u32 a)], fun a => gf_bn9 a, fun a r => ⟨[(false, [.v (.int .i64 r)])], []⟩, fun a => []⟩
/-! math/bits.Len64 -/
def ib_bo9 : IC :=
 (Rs [Ki 2 0]
 (seqC (Rs [Mv 3 0, Io 4 (.bin .geq (.t 3) (.c (.int .u64 4294967296)))]
 (Ct 4 (Rs [Mv 5 0, Io 6 (.bin .shr (.t 5) (.c (.int .u64 32))), Mv 0 6]
 (.reg [Ki 2 32]))
 .skip))
 (seqC (Rs [Mv 7 0, Io 8 (.bin .geq (.t 7) (.c (.int .u64 65536)))]
 (Ct 8 (Rs [Mv 9 0, Io 10 (.bin .shr (.t 9) (.c (.int .u64 16))), Mv 0 10]
 (.reg [Mv 11 2, Bk 12 .add 11 16, Mv 2 12]))
 .skip))
 (.seq (Rs [Mv 13 0, Io 14 (.bin .geq (.t 13) (.c (.int .u64 256)))]
 (Ct 14 (Rs [Mv 15 0, Io 16 (.bin .shr (.t 15) (.c (.int .u64 8))), Mv 0 16]
 (.reg [Mv 17 2, Bk 18 .add 17 8, Mv 2 18]))
 .skip))
 (Rs [Mv 19 2, Mv 20 0, Io 21 (.conv .u8 (.t 20)), Io 22 (.sidx (.c (.string ⟨#[0, 1, 2, 2, 3, 3, 3, 3, 4, 4, 4, 4, 4, 4, 4, 4, 5, 5, 5, 5, 5, 5, 5, 5, 5, 5, 5, 5, 5, 5, 5, 5, 6, 6, 6, 6, 6, 6, 6, 6, 6, 6, 6, 6, 6, 6, 6, 6, 6, 6, 6, 6, 6, 6, 6, 6, 6, 6, 6, 6, 6, 6, 6, 6, 7, 7, 7, 7, 7, 7, 7, 7, 7, 7, 7, 7, 7, 7, 7, 7, 7, 7, 7, 7, 7, 7, 7, 7, 7, 7, 7, 7, 7, 7, 7, 7, 7, 7, 7, 7, 7, 7, 7, 7, 7, 7, 7, 7, 7, 7, 7, 7, 7, 7, 7, 7, 7, 7, 7, 7, 7, 7, 7, 7, 7, 7, 7, 7, 8, 8, 8, 8, 8, 8, 8, 8, 8, 8, 8, 8, 8, 8, 8, 8, 8, 8, 8, 8, 8, 8, 8, 8, 8, 8, 8, 8, 8, 8, 8, 8, 8, 8, 8, 8, 8, 8, 8, 8, 8, 8, 8, 8, 8, 8, 8, 8, 8, 8, 8, 8, 8, 8, 8, 8, 8, 8, 8, 8, 8, 8, 8, 8, 8, 8, 8, 8, 8, 8, 8, 8, 8, 8, 8, 8, 8, 8, 8, 8, 8, 8, 8, 8, 8, 8, 8, 8, 8, 8, 8, 8, 8, 8, 8, 8, 8, 8, 8, 8, 8, 8, 8, 8, 8, 8, 8, 8, 8, 8, 8, 8, 8, 8, 8, 8, 8, 8, 8, 8, 8, 8, 8, 8, 8, 8, 8, 8]⟩)) (.t 21)), Io 23 (.conv .i64 (.t 22)), Bb 24 .add 19 23, Mv 2 24]
 .ret)))))
def if_bo9 : IFn := ⟨25, [.inl 2], ib_bo9, lcF []⟩
def ks_bo9 : List (List (Option Nat)) := [[none]]
def gf_bo9 (a0 : Int) : Option Int := ((if (decide (a0 ≥ 4294967296)) = true then (some ((Int.fdiv a0 (2 ^ 32)), 32)) else (some (a0, 0)) : Option (Int × Int))).bind fun q1 => ((if (decide (q1.1 ≥ 65536)) = true then (some ((Int.fdiv q1.1 (2 ^ 16)), (IntKind.i64.wrap (q1.2 + 16)))) else (some (q1.1, q1.2)) : Option (Int × Int))).bind fun q4 => if (decide (q4.1 ≥ 256)) = true then ((bidx (⟨#[0, 1, 2, 2, 3, 3, 3, 3, 4, 4, 4, 4, 4, 4, 4, 4, 5, 5, 5, 5, 5, 5, 5, 5, 5, 5, 5, 5, 5, 5, 5, 5, 6, 6, 6, 6, 6, 6, 6, 6, 6, 6, 6, 6, 6, 6, 6, 6, 6, 6, 6, 6, 6, 6, 6, 6, 6, 6, 6, 6, 6, 6, 6, 6, 7, 7, 7, 7, 7, 7, 7, 7, 7, 7, 7, 7, 7, 7, 7, 7, 7, 7, 7, 7, 7, 7, 7, 7, 7, 7, 7, 7, 7, 7, 7, 7, 7, 7, 7, 7, 7, 7, 7, 7, 7, 7, 7, 7, 7, 7, 7, 7, 7, 7, 7, 7, 7, 7, 7, 7, 7, 7, 7, 7, 7, 7, 7, 7, 8, 8, 8, 8, 8, 8, 8, 8, 8, 8, 8, 8, 8, 8, 8, 8, 8, 8, 8, 8, 8, 8, 8, 8, 8, 8, 8, 8, 8, 8, 8, 8, 8, 8, 8, 8, 8, 8, 8, 8, 8, 8, 8, 8, 8, 8, 8, 8, 8, 8, 8, 8, 8, 8, 8, 8, 8, 8, 8, 8, 8, 8, 8, 8, 8, 8, 8, 8, 8, 8, 8, 8, 8, 8, 8, 8, 8, 8, 8, 8, 8, 8, 8, 8, 8, 8, 8, 8, 8, 8, 8, 8, 8, 8, 8, 8, 8, 8, 8, 8, 8, 8, 8, 8, 8, 8, 8, 8, 8, 8, 8, 8, 8, 8, 8, 8, 8, 8, 8, 8, 8, 8, 8, 8, 8, 8, 8, 8]⟩ : Str) (IntKind.u8.wrap (Int.fdiv q4.1 (2 ^ 8)))).bind fun x7 => some ((IntKind.i64.wrap ((IntKind.i64.wrap (q4.2 + 8)) + (IntKind.i64.wrap (x7.toNat : Int)))))) else ((bidx (⟨#[0, 1, 2, 2, 3, 3, 3, 3, 4, 4, 4, 4, 4, 4, 4, 4, 5, 5, 5, 5, 5, 5, 5, 5, 5, 5, 5, 5, 5, 5, 5, 5, 6, 6, 6, 6, 6, 6, 6, 6, 6, 6, 6, 6, 6, 6, 6, 6, 6, 6, 6, 6, 6, 6, 6, 6, 6, 6, 6, 6, 6, 6, 6, 6, 7, 7, 7, 7, 7, 7, 7, 7, 7, 7, 7, 7, 7, 7, 7, 7, 7, 7, 7, 7, 7, 7, 7, 7, 7, 7, 7, 7, 7, 7, 7, 7, 7, 7, 7, 7, 7, 7, 7, 7, 7, 7, 7, 7, 7, 7, 7, 7, 7, 7, 7, 7, 7, 7, 7, 7, 7, 7, 7, 7, 7, 7, 7, 7, 8, 8, 8, 8, 8, 8, 8, 8, 8, 8, 8, 8, 8, 8, 8, 8, 8, 8, 8, 8, 8, 8, 8, 8, 8, 8, 8, 8, 8, 8, 8, 8, 8, 8, 8, 8, 8, 8, 8, 8, 8, 8, 8, 8, 8, 8, 8, 8, 8, 8, 8, 8, 8, 8, 8, 8, 8, 8, 8, 8, 8, 8, 8, 8, 8, 8, 8, 8, 8, 8, 8, 8, 8, 8, 8, 8, 8, 8, 8, 8, 8, 8, 8, 8, 8, 8, 8, 8, 8, 8, 8, 8, 8, 8, 8, 8, 8, 8, 8, 8, 8, 8, 8, 8, 8, 8, 8, 8, 8, 8, 8, 8, 8, 8, 8, 8, 8, 8, 8, 8, 8, 8, 8, 8, 8, 8, 8, 8]⟩ : Str) (IntKind.u8.wrap q4.1)).bind fun x9 => some ((IntKind.i64.wrap (q4.2 + (IntKind.i64.wrap (x9.toNat : Int))))))
def c_bo9 : Con := ⟨Int, Int, 105, fun a => [.v (.int .u64 a)], fun a => gf_bo9 a, fun a r => ⟨[(false, [.v (.int .i64 r)])], []⟩, fun a => []⟩
/-! math/bits.Len -/
def ib_bm9 : IC :=
 (Rs [Ki 2 0]
 (.seq (.cond (.c (.bool false)) (Rs [Mv 3 0, Io 4 (.conv .u32 (.t 3)), Ca 5 104 [4], Mv 2 5]
 .ret)
 .skip)
 (Rs [Mv 6 0, Ca 7 105 [6], Mv 2 7]
 .ret)))
def if_bm9 : IFn := ⟨8, [.inl 2], ib_bm9, lcF []⟩
def ks_bm9 : List (List (Option Nat)) := [[none]]
def gf_bm9 (a0 : Int) : Option Int := (gf_bo9 a0).bind fun x1 => some (x1)
def c_bm9 : Con := ⟨Int, Int, 106, fun a => [.v (.int .u64 a)], fun a => gf_bm9 a, fun a r => ⟨[(false, [.v (.int .i64 r)])], []⟩, fun a => []⟩
/-! impl.featAt$1 -/
def ib_bg9 : IC :=
 (Rs [Io 2 (.box 100 [none, none, some 66, some 82] (.t 0)), Kb 3 false]
 (Rs [Fa 4 0 2, Ld 5 1 4, Ld 6 1 1, Bb 7 .eql 5 6, Mv 3 7]
 .ret))
def if_bg9 : IFn := ⟨8, [.inl 3], ib_bg9, lcF []⟩
def ks_bg9 : List (List (Option Nat)) := [[none]]
def gf_bg9 (a0 : Feat) (a1 : Str) : Option Bool := some ((seq a0.id a1))
def c_bg9 : Con := ⟨Feat × Str, Bool, 123, fun a => [.agg [.v (.string a.1.id), .v (.int .i64 a.1.shape.kind), .ro (List.map ePt a.1.shape.pts), .ro (List.map eTag a.1.tags)], .rptr [.v (.string a.2)]], fun a => gf_bg9 a.1 a.2, fun a r => ⟨[(false, [.v (.bool r)])], []⟩, fun a => []⟩
/-! slices.IndexFunc[[]impl.Feat,impl.Feat] -/
def ib_cc9 : IC :=
 (Rs [Ki 4 0]
 (.seq (Rs [Mv 6 0, Ln 7 6, Ki 8 0]
 (blkC 0 (.loop (Rs [Bb 9 .lss 8 7]
 (.seq (Ct 9 .skip
 (.exit 0))
 (.seq (.block 1 (Rs [Mv 10 8, Mv 5 10]
 (Rs [Mv 11 1, Mv 12 0, Mv 13 5, Ia 14 4 12 13, La 15 4 14, Io 16 (.calld (.t 11) [(false, .t 15)])]
 (Ct 16 (Rs [Mv 17 5, Mv 4 17]
 .ret)
 .skip))))
 (.reg [Bk 18 .add 8 1, Mv 8 18])))))))
 (Rs [Ki 4 (-1)]
 .ret)))
def if_cc9 : IFn := ⟨19, [.inl 4], ib_cc9, lcF []⟩
def ks_cc9 : List (List (Option Nat)) := [[none]]
def gl_cd9_1 (a1 : Str) : List Feat → Nat → Option (Int ⊕ Unit)
 | [], k16 => some (.inr ())
 | x17 :: l18, k16 => (gf_bg9 x17 a1).bind fun x25 => if x25 = true then (some (.inl ((k16 : Int)))) else (gl_cd9_1 a1 l18 (k16 + 1) )
def gf_cd9 (a0 : (List Feat)) (a1 : Str) : Option Int := if fits a0.length = true then ((gl_cd9_1 a1 a0 0 ).bind fun q => match q with | .inl r => some r | .inr q14 => some ((-1))) else none
def c_cd9 : Con := ⟨(List Feat) × Str, Int, 124, fun a => [.ro (List.map (eFeat false) a.1), .fn 123 [.rptr [.v (.string a.2)]]], fun a => gf_cd9 a.1 a.2, fun a r => ⟨[(false, [.v (.int .i64 r)])], []⟩, fun a => []⟩
/-! impl.featAt -/
def ib_bf9 : IC :=
 (Rs [Io 3 (.box 49 [none] (.t 1)), Ki 4 0]
 (Rs [Mv 5 0, Io 6 (.mkf 123 [.t 3]), Ca 7 124 [5, 6], Mv 4 7]
 .ret))
def if_bf9 : IFn := ⟨8, [.inl 4], ib_bf9, lcF []⟩
def ks_bf9 : List (List (Option Nat)) := [[none]]
def gf_bf9 (a0 : (List Feat)) (a1 : Str) : Option Int := (gf_cd9 a0 a1).bind fun x2 => some (x2)
def c_bf9 : Con := ⟨(List Feat) × Str, Int, 125, fun a => [.ro (List.map (eFeat false) a.1), .v (.string a.2)], fun a => gf_bf9 a.1 a.2, fun a r => ⟨[(false, [.v (.int .i64 r)])], []⟩, fun a => []⟩
/-! impl.cloneRepo -/
def ib_bc9 : IC :=
 (Rs [Io 1 (.box 210 [some 115, some 130] (.t 0)), Io 2 (.alloc 210 [.sl true 115 [], .sl true 130 []])]
 (Rs [Io 6 (.lit 115 [some 17, some 100, none] [.sl true 17 [], .sl true 100 [], .v (.string ⟨#[]⟩)] 0 []), Io 7 (.lit 130 [none, none] [.v (.string ⟨#[]⟩), .v (.int .i64 0)] 0 []), Fa 8 1 1, Ld 9 1 8, Io 10 (.app 130 false (.t 7) (.t 9)), Io 11 (.build [.nil, .nil] [(0, 1, .t 6), (1, 1, .t 10)]), Io 3 (.alloc 210 [.sl true 115 [], .sl true 130 []]), Sv [some 115, some 130] 3 11]
 (.seq (Rs [Fa 12 0 1, Ld 13 1 12, Ln 14 13, Ki 15 0]
 (blkC 0 (.loop (Rs [Bb 16 .lss 15 14]
 (.seq (Ct 16 .skip
 (.exit 0))
 (.seq (.block 1 (Rs [Ia 17 3 13 15, La 18 3 17, Io 5 (.alloc 115 [.sl true 17 [], .sl true 100 [], .v (.string ⟨#[]⟩)]), Sv [some 17, some 100, none] 5 18]
 (.drw [Fa 19 0 3, Ld 20 1 19, La 21 3 5, Ca 22 94 [21], Io 23 (.lit 115 [some 17, some 100, none] [.sl true 17 [], .sl true 100 [], .v (.string ⟨#[]⟩)] 1 [(0, .t 22)]), Io 24 (.app 115 true (.t 20) (.t 23)), Fa 25 0 3, Sv [some 115] 25 24] [(1, 2), (1, 3), (1, 4)])))
 (.reg [Bk 26 .add 15 1, Mv 15 26])))))))
 (Rs [La 27 2 3, Sv [some 115, some 130] 2 27]
 .ret))))
def if_bc9 : IFn := ⟨28, [.inr (2, 2)], ib_bc9, lcF []⟩
def ks_bc9 : List (List (Option Nat)) := [[some 115, some 130]]
def gl_bc9_1 : List Commit → Nat → (List Commit) → Option (List Commit)
 | [], k83, v77 => some v77
 | x84 :: l85, k83, v77 => (gf_ba9 x84).bind fun x93 => if fits (v77 ++ ([x93] : (List Commit))).length = true then gl_bc9_1 l85 (k83 + 1) (v77 ++ ([x93] : (List Commit))) else none
def gf_bc9 (a0 : Repo) : Option Repo := if fits ([] ++ a0.heads).length = true then if fits a0.commits.length = true then ((gl_bc9_1 a0.commits 0 []).bind fun q70 => some ((⟨q70, ([] ++ a0.heads)⟩ : Repo))) else none else none
def c_bc9 : Con := ⟨Repo, Repo, 150, fun a => [.agg [.ro (List.map (eCommit false) a.commits), .ro (List.map eHead a.heads)]], fun a => gf_bc9 a, fun a r => ⟨[(true, eRepo true r)], []⟩, fun a => []⟩
/-! (*impl.Repo).set -/
def ib_ar9 : IC :=
 (Rs [Io 5 (.box 115 [some 17, some 100, none] (.t 2)), Kb 6 false]
 (.seq (.drw [Mv 8 0, Io 9 (.nilck (.t 8)), La 10 2 9, La 11 3 5, Ca 12 87 [10, 11], Mv 7 12] [(2, 3)])
 (.seq (Rs [Mv 13 7, Bk 14 .lss 13 0]
 (Ct 14 (.seq (Rs [Mv 15 0, Io 16 (.nilck (.t 15)), Fa 17 0 16, Ld 18 1 17, Ln 19 18, Bk 20 .eql 19 14]
 (Ct 20 (Rs [Kb 6 false]
 .ret)
 .skip))
 (Rs [Mv 21 0, Io 22 (.nilck (.t 21)), Fa 23 0 22, Ld 24 1 23, Ln 25 24, Mv 7 25]
 (.drw [Mv 26 0, Mv 27 0, Io 28 (.nilck (.t 27)), Fa 29 0 28, Ld 30 1 29, La 31 3 5, Ca 32 94 [31], Io 33 (.lit 115 [some 17, some 100, none] [.sl true 17 [], .sl true 100 [], .v (.string ⟨#[]⟩)] 1 [(0, .t 32)]), Io 34 (.app 115 true (.t 30) (.t 33)), Io 35 (.nilck (.t 26)), Fa 36 0 35, Sv [some 115] 36 34] [(4, 5), (4, 6), (4, 7)])))
 .skip))
 (Rs [Mv 37 0, Io 38 (.nilck (.t 37)), Fa 39 1 38, Ld 40 1 39, Mv 41 1, Mv 42 7, Ia 43 2 40 41, Fa 44 1 43, Sv [none] 44 42]
 (Rs [Kb 6 true]
 .ret)))))
def if_ar9 : IFn := ⟨45, [.inl 6], ib_ar9, lcF []⟩
def ks_ar9 : List (List (Option Nat)) := [[none]]
def gf_ar9 (a0 : Repo) (a1 : Int) (a2 : Commit) : Option (Bool × Repo) := (gf_am9 a0 a2).bind fun x6 => if (decide (x6 < 0)) = true then (if ((a0.commits.length : Int) == 14) = true then (some (false, a0)) else ((gf_ba9 a2).bind fun x8 => if fits (a0.commits ++ ([x8] : (List Commit))).length = true then (idx a0.heads a1).bind fun x18 => some (true, (⟨(a0.commits ++ ([x8] : (List Commit))), (List.set a0.heads a1.toNat (⟨x18.name, (a0.commits.length : Int)⟩ : Head))⟩ : Repo)) else none)) else ((idx a0.heads a1).bind fun x20 => some (true, (⟨a0.commits, (List.set a0.heads a1.toNat (⟨x20.name, x6⟩ : Head))⟩ : Repo)))
def c_ar9 : Con := ⟨Repo × Int × Commit, (Bool × Repo), 152, fun a => [.pio 0 210, .v (.int .i64 a.2.1), .agg [.ro (List.map eInt a.2.2.up), .ro (List.map (eFeat false) a.2.2.sheet), .v (.string a.2.2.note)]], fun a => gf_ar9 a.1 a.2.1 a.2.2, fun a r => ⟨[(false, [.v (.bool r.1)])], [some [[.sl true 115 (List.map (eCommit true) r.2.commits), .sl true 130 (List.map eHead r.2.heads)]]]⟩, fun a => [(true, 210, [[.sl true 115 (List.map (eCommit true) a.1.commits), .sl true 130 (List.map eHead a.1.heads)]])]⟩
/-! spec.l12Open -/
def ib_ct9 : IC :=
 (Rs [Io 2 (.mv (.c (.pointer none)))]
 (.seq (Rs [Mv 3 0, Ln 4 3, Bk 5 .gtr 4 2000]
 (Ct 5 (.reg [Mv 6 0, Io 7 (.sls 1 (.t 6) none (some (.c (.int .i64 2000)))), Mv 0 7])
 .skip))
 (Rs [Mv 8 0, Io 9 (.build [.nil, .v (.int .i64 0)] [(0, 1, .t 8)]), Io 10 (.box 290 [some 257, none] (.t 9)), Mv 2 10]
 .ret)))
def if_ct9 : IFn := ⟨11, [.inl 2], ib_ct9, lcF []⟩
def ks_ct9 : List (List (Option Nat)) := [[none]]
def gf_ct9 (a0 : (List UInt8)) : Option Rd := if (decide ((a0.length : Int) > 2000)) = true then ((slc a0 0 2000).bind fun x1 => some ((⟨x1, 0⟩ : Rd))) else (some ((⟨a0, 0⟩ : Rd)))
def c_ct9 : Con := ⟨(List UInt8) × Option Addr × Nat, Rd, 316, fun a => [.raw a.2.1 a.2.2 (List.map eU8 a.1)], fun a => gf_ct9 a.1, fun a r => ⟨[(false, [.bx 290 [.rw a.2.1 a.2.2 (List.map eU8 r.b), .v (.int .i64 r.p)]])], []⟩, fun a => []⟩
/-! (*spec.l12Rd).pick -/
def ib_cw9 : IC :=
 (Rs [Ki 4 0]
 (Rs [Mv 7 0, Mv 8 0, Io 9 (.nilck (.t 8)), Fa 10 1 9, Ld 11 1 10, Bk 12 .add 11 1, Io 13 (.nilck (.t 7)), Fa 14 1 13, Sv [none] 14 12]
 (.seq (Rs [Mv 15 1, Bk 16 .lss 15 1, Mv 17 16, Gf 17 (Mv 18 0), Gf 17 (Io 19 (.nilck (.t 18))), Gf 17 (Fa 20 0 19), Gf 17 (Ld 21 1 20), Gf 17 (Ln 22 21), Gf 17 (Bk 23 .eql 22 0), Pk 24 17 23]
 (Ct 24 (Rs [Ki 4 0]
 .ret)
 .skip))
 (Rs [Mv 25 0, Io 26 (.nilck (.t 25)), Fa 27 1 26, Ld 28 1 27, Bk 29 .sub 28 1, Mv 5 29]
 (.seq (Rs [Mv 30 5, Mv 31 0, Io 32 (.nilck (.t 31)), Fa 33 0 32, Ld 34 1 33, Ln 35 34, Bb 36 .lss 30 35]
 (Ct 36 (Rs [Mv 37 0, Io 38 (.nilck (.t 37)), Fa 39 0 38, Ld 40 1 39, Mv 41 5, Ia 42 1 40 41, Ld 43 1 42, Io 44 (.conv .i64 (.t 43)), Mv 45 1, Bb 46 .rem 44 45, Mv 4 46]
 .ret)
 .skip))
 (.seq (.drw [Mv 47 0, Io 48 (.nilck (.t 47)), Fa 49 0 48, Ld 50 1 49, Mv 51 5, Mv 52 0, Io 53 (.nilck (.t 52)), Fa 54 0 53, Ld 55 1 54, Ln 56 55, Bb 57 .rem 51 56, Ia 58 1 50 57, Ld 59 1 58, Io 60 (.conv .i64 (.t 59)), Bk 61 .mul 60 131, Mv 62 0, Io 63 (.nilck (.t 62)), Fa 64 0 63, Ld 65 1 64, Mv 66 5, Bk 67 .mul 66 7, Bk 68 .add 67 3, Mv 69 0, Io 70 (.nilck (.t 69)), Fa 71 0 70, Ld 72 1 71, Ln 73 72, Bb 74 .rem 68 73, Ia 75 1 65 74, Ld 76 1 75, Io 77 (.conv .i64 (.t 76)), Bk 78 .mul 77 1117, Bb 79 .add 61 78, Mv 80 5, Bk 81 .mul 80 29, Bb 82 .add 79 81, Mv 83 5, Mv 84 0, Io 85 (.nilck (.t 84)), Fa 86 0 85, Ld 87 1 86, Ln 88 87, Bb 89 .quo 83 88, Bk 90 .mul 89 53, Bb 91 .add 82 90, Mv 6 91] [(3, 8), (3, 18), (8, 18), (12, 18), (3, 25), (8, 25), (12, 25), (18, 25), (3, 29), (8, 29), (12, 29), (3, 40), (8, 40), (12, 40), (18, 40), (25, 40), (29, 40)])
 (Rs [Mv 92 6, Mv 93 6, Bk 94 .quo 93 64, Bb 95 .xor 92 94, Mv 6 95]
 (Rs [Mv 96 6, Mv 97 1, Bb 98 .rem 96 97, Mv 4 98]
 .ret))))))))
def if_cw9 : IFn := ⟨99, [.inl 4], ib_cw9, lcF []⟩
def ks_cw9 : List (List (Option Nat)) := [[none]]
def gf_cw9 (a0 : Rd) (a1 : Int) : Option (Int × Int) := if (decide (a1 < 1)) = true then (some (0, (IntKind.i64.wrap (a0.p + 1)))) else (if ((a0.b.length : Int) == 0) = true then (some (0, (IntKind.i64.wrap (a0.p + 1)))) else (if (decide ((IntKind.i64.wrap ((IntKind.i64.wrap (a0.p + 1)) - 1)) < (a0.b.length : Int))) = true then ((idx a0.b (IntKind.i64.wrap ((IntKind.i64.wrap (a0.p + 1)) - 1))).bind fun x1 => (imod (IntKind.i64.wrap (x1.toNat : Int)) a1).bind fun x3 => some (x3, (IntKind.i64.wrap (a0.p + 1)))) else ((imod (IntKind.i64.wrap ((IntKind.i64.wrap (a0.p + 1)) - 1)) (a0.b.length : Int)).bind fun x5 => (idx a0.b x5).bind fun x7 => (imod (IntKind.i64.wrap ((IntKind.i64.wrap ((IntKind.i64.wrap ((IntKind.i64.wrap (a0.p + 1)) - 1)) * 7)) + 3)) (a0.b.length : Int)).bind fun x9 => (idx a0.b x9).bind fun x11 => (idiv (IntKind.i64.wrap ((IntKind.i64.wrap (a0.p + 1)) - 1)) (a0.b.length : Int)).bind fun x13 => (imod (ixor (IntKind.i64.wrap ((IntKind.i64.wrap ((IntKind.i64.wrap ((IntKind.i64.wrap ((IntKind.i64.wrap (x7.toNat : Int)) * 131)) + (IntKind.i64.wrap ((IntKind.i64.wrap (x11.toNat : Int)) * 1117)))) + (IntKind.i64.wrap ((IntKind.i64.wrap ((IntKind.i64.wrap (a0.p + 1)) - 1)) * 29)))) + (IntKind.i64.wrap (x13 * 53)))) (IntKind.i64.wrap (Int.tdiv (IntKind.i64.wrap ((IntKind.i64.wrap ((IntKind.i64.wrap ((IntKind.i64.wrap ((IntKind.i64.wrap (x7.toNat : Int)) * 131)) + (IntKind.i64.wrap ((IntKind.i64.wrap (x11.toNat : Int)) * 1117)))) + (IntKind.i64.wrap ((IntKind.i64.wrap ((IntKind.i64.wrap (a0.p + 1)) - 1)) * 29)))) + (IntKind.i64.wrap (x13 * 53)))) 64))) a1).bind fun x15 => some (x15, (IntKind.i64.wrap (a0.p + 1))))))
def c_cw9 : Con := ⟨Rd × Int × Option Addr × Nat, (Int × Int), 321, fun a => [.pio 0 290, .v (.int .i64 a.2.1)], fun a => gf_cw9 a.1 a.2.1, fun a r => ⟨[(false, [.v (.int .i64 r.1)])], [some [[.v (.slice a.2.2.1 (List.map eU8 a.1.b).length a.2.2.2), .v (.int .i64 r.2)]]]⟩, fun a => [(true, 290, [[.rw a.2.2.1 a.2.2.2 (List.map eU8 a.1.b), .v (.int .i64 a.1.p)]])]⟩
/-! (*spec.l12Rd).of -/
def ib_cv9 : IC :=
 (Rs [Io 4 (.mv (.c (.string ⟨#[]⟩)))]
 (Rs [Mv 5 1, Mv 6 0, Mv 7 1, Ln 8 7, Io 9 (.call 321 [(true, .t 6), (false, .t 8)]), Ia 10 1 5 9, Ld 11 1 10, Mv 4 11]
 .ret))
def if_cv9 : IFn := ⟨12, [.inl 4], ib_cv9, lcF []⟩
def ks_cv9 : List (List (Option Nat)) := [[none]]
def gf_cv9 (a0 : Rd) (a1 : (List Str)) : Option (Str × Int) := (gf_cw9 a0 (a1.length : Int)).bind fun x1 => (idx a1 x1.1).bind fun x3 => some (x3, x1.2)
def c_cv9 : Con := ⟨Rd × (List Str) × Option Addr × Nat, (Str × Int), 326, fun a => [.pio 0 290, .ro (List.map eStr a.2.1)], fun a => gf_cv9 a.1 a.2.1, fun a r => ⟨[(false, [.v (.string r.1)])], [some [[.v (.slice a.2.2.1 (List.map eU8 a.1.b).length a.2.2.2), .v (.int .i64 r.2)]]]⟩, fun a => [(true, 290, [[.rw a.2.2.1 a.2.2.2 (List.map eU8 a.1.b), .v (.int .i64 a.1.p)]])]⟩
/-! spec.l2Id -/
def ib_df9 : IC :=
 (Rs [Io 2 (.mv (.c (.string ⟨#[]⟩)))]
 (Rs [Mv 3 0, Io 4 (.lit 49 [none] [.v (.string ⟨#[]⟩)] 5 [(0, .c (.string ⟨#[97]⟩)), (1, .c (.string ⟨#[98]⟩)), (2, .c (.string ⟨#[99]⟩)), (3, .c (.string ⟨#[100]⟩)), (4, .c (.string ⟨#[101]⟩))]), Io 5 (.call 326 [(true, .t 3), (false, .t 4)]), Mv 2 5]
 .ret))
def if_df9 : IFn := ⟨6, [.inl 2], ib_df9, lcF []⟩
def ks_df9 : List (List (Option Nat)) := [[none]]
def gf_df9 (a0 : Rd) : Option (Str × Int) := (gf_cv9 a0 ([(⟨#[97]⟩ : Str), (⟨#[98]⟩ : Str), (⟨#[99]⟩ : Str), (⟨#[100]⟩ : Str), (⟨#[101]⟩ : Str)] : (List Str))).bind fun x2 => some (x2.1, x2.2)
def c_df9 : Con := ⟨Rd × Option Addr × Nat, (Str × Int), 362, fun a => [.pio 0 290], fun a => gf_df9 a.1, fun a r => ⟨[(false, [.v (.string r.1)])], [some [[.v (.slice a.2.1 (List.map eU8 a.1.b).length a.2.2), .v (.int .i64 r.2)]]]⟩, fun a => [(true, 290, [[.rw a.2.1 a.2.2 (List.map eU8 a.1.b), .v (.int .i64 a.1.p)]])]⟩
/-! spec.l2Key -/
def ib_dg9 : IC :=
 (Rs [Io 2 (.mv (.c (.string ⟨#[]⟩)))]
 (Rs [Mv 3 0, Io 4 (.lit 49 [none] [.v (.string ⟨#[]⟩)] 4 [(0, .c (.string ⟨#[110, 97, 109, 101]⟩)), (1, .c (.string ⟨#[107, 105, 110, 100]⟩)), (2, .c (.string ⟨#[117, 115, 101]⟩)), (3, .c (.string ⟨#[116, 111, 110, 101]⟩))]), Io 5 (.call 326 [(true, .t 3), (false, .t 4)]), Mv 2 5]
 .ret))
def if_dg9 : IFn := ⟨6, [.inl 2], ib_dg9, lcF []⟩
def ks_dg9 : List (List (Option Nat)) := [[none]]
def gf_dg9 (a0 : Rd) : Option (Str × Int) := (gf_cv9 a0 ([(⟨#[110, 97, 109, 101]⟩ : Str), (⟨#[107, 105, 110, 100]⟩ : Str), (⟨#[117, 115, 101]⟩ : Str), (⟨#[116, 111, 110, 101]⟩ : Str)] : (List Str))).bind fun x2 => some (x2.1, x2.2)
def c_dg9 : Con := ⟨Rd × Option Addr × Nat, (Str × Int), 365, fun a => [.pio 0 290], fun a => gf_dg9 a.1, fun a r => ⟨[(false, [.v (.string r.1)])], [some [[.v (.slice a.2.1 (List.map eU8 a.1.b).length a.2.2), .v (.int .i64 r.2)]]]⟩, fun a => [(true, 290, [[.rw a.2.1 a.2.2 (List.map eU8 a.1.b), .v (.int .i64 a.1.p)]])]⟩
/-! spec.l2Val -/
def ib_di9 : IC :=
 (Rs [Io 2 (.mv (.c (.string ⟨#[]⟩)))]
 (Rs [Mv 3 0, Io 4 (.lit 49 [none] [.v (.string ⟨#[]⟩)] 5 [(0, .c (.string ⟨#[97]⟩)), (1, .c (.string ⟨#[98]⟩)), (2, .c (.string ⟨#[111, 97, 107]⟩)), (3, .c (.string ⟨#[97, 115, 104]⟩)), (4, .c (.string ⟨#[114, 111, 97, 100]⟩))]), Io 5 (.call 326 [(true, .t 3), (false, .t 4)]), Mv 2 5]
 .ret))
def if_di9 : IFn := ⟨6, [.inl 2], ib_di9, lcF []⟩
def ks_di9 : List (List (Option Nat)) := [[none]]
def gf_di9 (a0 : Rd) : Option (Str × Int) := (gf_cv9 a0 ([(⟨#[97]⟩ : Str), (⟨#[98]⟩ : Str), (⟨#[111, 97, 107]⟩ : Str), (⟨#[97, 115, 104]⟩ : Str), (⟨#[114, 111, 97, 100]⟩ : Str)] : (List Str))).bind fun x2 => some (x2.1, x2.2)
def c_di9 : Con := ⟨Rd × Option Addr × Nat, (Str × Int), 366, fun a => [.pio 0 290], fun a => gf_di9 a.1, fun a r => ⟨[(false, [.v (.string r.1)])], [some [[.v (.slice a.2.1 (List.map eU8 a.1.b).length a.2.2), .v (.int .i64 r.2)]]]⟩, fun a => [(true, 290, [[.rw a.2.1 a.2.2 (List.map eU8 a.1.b), .v (.int .i64 a.1.p)]])]⟩
/-! (*spec.l12Rd).num -/
def ib_cu9 : IC :=
 (Rs [Ki 4 0]
 (Rs [Mv 5 1, Mv 6 0, Mv 7 1, Ln 8 7, Io 9 (.call 321 [(true, .t 6), (false, .t 8)]), Ia 10 1 5 9, Ld 11 1 10, Mv 4 11]
 .ret))
def if_cu9 : IFn := ⟨12, [.inl 4], ib_cu9, lcF []⟩
def ks_cu9 : List (List (Option Nat)) := [[none]]
def gf_cu9 (a0 : Rd) (a1 : (List Int)) : Option (Int × Int) := (gf_cw9 a0 (a1.length : Int)).bind fun x1 => (idx a1 x1.1).bind fun x3 => some (x3, x1.2)
def c_cu9 : Con := ⟨Rd × (List Int) × Option Addr × Nat, (Int × Int), 356, fun a => [.pio 0 290, .ro (List.map eInt a.2.1)], fun a => gf_cu9 a.1 a.2.1, fun a r => ⟨[(false, [.v (.int .i64 r.1)])], [some [[.v (.slice a.2.2.1 (List.map eU8 a.1.b).length a.2.2.2), .v (.int .i64 r.2)]]]⟩, fun a => [(true, 290, [[.rw a.2.2.1 a.2.2.2 (List.map eU8 a.1.b), .v (.int .i64 a.1.p)]])]⟩
/-! spec.l1Pt -/
def ib_da9 : IC :=
 (Rs [Io 2 (.alloc 66 [.v (.int .i64 0), .v (.int .i64 0)])]
 (Rs [Mv 3 0, Io 4 (.call 321 [(true, .t 3), (false, .c (.int .i64 4))]), Mv 5 0, Io 6 (.lit 17 [none] [.v (.int .i64 0)] 4 [(0, .c (.int .i64 0)), (1, .c (.int .i64 1)), (2, .c (.int .i64 2)), (3, .c (.int .i64 5))]), Io 7 (.call 356 [(true, .t 5), (false, .t 6)]), Io 8 (.build [.v (.int .i64 0), .v (.int .i64 0)] [(0, 1, .t 4), (1, 1, .t 7)]), Sv [none, none] 2 8]
 .ret))
def if_da9 : IFn := ⟨9, [.inr (2, 2)], ib_da9, lcF []⟩
def ks_da9 : List (List (Option Nat)) := [[none, none]]
def gf_da9 (a0 : Rd) : Option (Pt × Int) := (gf_cw9 a0 4).bind fun x2 => (gf_cu9 (⟨a0.b, x2.2⟩ : Rd) ([0, 1, 2, 5] : (List Int))).bind fun x5 => some ((⟨x2.1, x5.1⟩ : Pt), x5.2)
def c_da9 : Con := ⟨Rd × Option Addr × Nat, (Pt × Int), 387, fun a => [.pio 0 290], fun a => gf_da9 a.1, fun a r => ⟨[(true, ePt r.1)], [some [[.v (.slice a.2.1 (List.map eU8 a.1.b).length a.2.2), .v (.int .i64 r.2)]]]⟩, fun a => [(true, 290, [[.rw a.2.1 a.2.2 (List.map eU8 a.1.b), .v (.int .i64 a.1.p)]])]⟩
/-! spec.l1Min -/
def ib_cy9 : IC :=
 (Rs [Ki 4 0]
 (.seq (Rs [Mv 5 0, Mv 6 1, Bb 7 .lss 5 6]
 (Ct 7 (Rs [Mv 8 0, Mv 4 8]
 .ret)
 .skip))
 (Rs [Mv 9 1, Mv 4 9]
 .ret)))
def if_cy9 : IFn := ⟨10, [.inl 4], ib_cy9, lcF []⟩
def ks_cy9 : List (List (Option Nat)) := [[none]]
def gf_cy9 (a0 : Int) (a1 : Int) : Option Int := if (decide (a0 < a1)) = true then (some (a0)) else (some (a1))
def c_cy9 : Con := ⟨Int × Int, Int, 397, fun a => [.v (.int .i64 a.1), .v (.int .i64 a.2)], fun a => gf_cy9 a.1 a.2, fun a r => ⟨[(false, [.v (.int .i64 r)])], []⟩, fun a => []⟩
/-! spec.l1Shape -/
def ib_dc9 : IC :=
 (Rs [Io 2 (.alloc 226 [.v (.int .i64 0), .sl true 66 []])]
 (Rs [Mv 8 0, Io 9 (.lit 17 [none] [.v (.int .i64 0)] 5 [(0, .c (.int .i64 1)), (1, .c (.int .i64 2)), (2, .c (.int .i64 2)), (3, .c (.int .i64 3)), (4, .c (.int .i64 3))]), Io 10 (.call 356 [(true, .t 8), (false, .t 9)]), Io 11 (.build [.v (.int .i64 0), .nil] [(0, 1, .t 10)]), Io 3 (.alloc 226 [.v (.int .i64 0), .sl true 66 []]), Sv [none, some 66] 3 11]
 (.seq (.drw [Fa 12 0 3, Ld 13 1 12, Mv 14 0, Io 15 (.call 321 [(true, .t 14), (false, .c (.int .i64 4))]), Bb 16 .add 13 15, Mv 4 16] [(1, 3)])
 (seqC (Rs [Fa 17 0 3, Ld 18 1 17, Bk 19 .eql 18 1]
 (Ct 19 (.reg [Ki 4 1])
 .skip))
 (.seq (Rs [Ki 5 0]
 (blkC 0 (.loop (.seq (.seq (.drw [Mv 20 5, Bk 21 .lss 20 12, Mv 22 21, Gt 22 (Fa 23 1 3), Gt 22 (Ld 24 1 23), Gt 22 (Ln 25 24), Gt 22 (Mv 26 4), Gt 22 (Io 27 (.call 397 [(false, .t 26), (false, .c (.int .i64 6))])), Gt 22 (Bb 28 .lss 25 27), Io 29 (.pick (.t 22) (.t 28) (.c (.bool false)))] [(4, 7)])
 (Ct 29 .skip
 (.exit 0)))
 (.seq (.block 1 (Rs [Mv 32 0, Io 33 (.call 387 [(true, .t 32)]), Io 6 (.alloc 66 [.v (.int .i64 0), .v (.int .i64 0)]), Sv [none, none] 6 33]
 (Rs [Fa 34 1 3, Ld 35 1 34, Ln 36 35, Mv 7 36]
 (seqC (.drw [Mv 37 7, Bk 38 .eql 37 0, Mv 39 38, Gf 39 (Fa 40 1 3), Gf 39 (Ld 41 1 40), Gf 39 (Mv 42 7), Gf 39 (Bk 43 .sub 42 1), Gf 39 (Ia 44 2 41 43), Gf 39 (La 45 2 44), Gf 39 (La 46 2 6), Gf 39 (Io 47 (.eqs true true [0, 0] (.t 45) (.t 46))), Gf 39 (Mv 48 47), Gt 48 (Fa 49 0 3), Gt 48 (Ld 50 1 49), Gt 48 (Bk 51 .neq 50 3), Gt 48 (Mv 52 51), Gf 52 (Fa 53 1 3), Gf 52 (Ld 54 1 53), Gf 52 (Io 55 (.iaddr 2 (.t 54) (.c (.int .i64 0)))), Gf 52 (La 56 2 55), Gf 52 (La 57 2 6), Gf 52 (Io 58 (.eqs true true [0, 0] (.t 56) (.t 57))), Gt 48 (Pk 59 52 58), Gf 39 (Io 60 (.pick (.t 48) (.t 59) (.c (.bool false)))), Pk 61 39 60] [(4, 9), (8, 9), (17, 20), (19, 20)])
 (Ct 61 (.reg [Fa 62 1 3, Ld 63 1 62, La 64 2 6, Io 65 (.lit 66 [none, none] [.v (.int .i64 0), .v (.int .i64 0)] 1 [(0, .t 64)]), Io 66 (.app 66 true (.t 63) (.t 65)), Fa 67 1 3, Sv [some 66] 67 66])
 .skip)))))
 (.reg [Mv 30 5, Bk 31 .add 30 1, Mv 5 31]))))))
 (.seq (Rs [La 68 2 3, Ca 69 15 [68], Nt 70 69]
 (Ct 70 (Rs [Mv 71 0, Io 72 (.call 387 [(true, .t 71)]), Io 73 (.lit 66 [none, none] [.v (.int .i64 0), .v (.int .i64 0)] 1 [(0, .t 72)]), Io 74 (.build [.v (.int .i64 0), .nil] [(0, 1, .c (.int .i64 1)), (1, 1, .t 73)]), Sv [none, some 66] 2 74]
 .ret)
 .skip))
 (Rs [La 75 2 3, Sv [none, some 66] 2 75]
 .ret)))))))
def if_dc9 : IFn := ⟨76, [.inr (2, 2)], ib_dc9, lcF []⟩
def ks_dc9 : List (List (Option Nat)) := [[none, some 66]]
def gl_dc9_1 (q8 : Int) (a0 : Rd) (x3 : (Int × Int)) : Nat → Int → Int → (List Pt) → Option (Int × (List Pt))
 | 0, _, _, _ => none
 | n119 + 1, v110, v111, v115 => if (decide (v110 < 12)) = true then ((gf_cy9 q8 6).bind fun x120 => if (decide ((v115.length : Int) < x120)) = true then ((gf_da9 (⟨a0.b, v111⟩ : Rd)).bind fun x122 => ((if ((v115.length : Int) == 0) = true then (some true) else ((idx v115 (IntKind.i64.wrap ((v115.length : Int) - 1))).bind fun x130 => if (!((x130.x == x122.1.x) && ((x130.y == x122.1.y) && true))) = true then (if (x3.1 != 3) = true then (some true) else ((idx v115 0).bind fun x132 => some (!((x132.x == x122.1.x) && ((x132.y == x122.1.y) && true))))) else (some false)) : Option Bool)).bind fun q129 => if q129 = true then (if fits (v115 ++ ([x122.1] : (List Pt))).length = true then gl_dc9_1 q8 a0 x3 n119 (IntKind.i64.wrap (v110 + 1)) x122.2 (v115 ++ ([x122.1] : (List Pt))) else none) else (gl_dc9_1 q8 a0 x3 n119 (IntKind.i64.wrap (v110 + 1)) x122.2 v115)) else (some (v111, v115))) else (some (v111, v115))
def gf_dc9 (a0 : Rd) : Option (Shape × Int) := (gf_cu9 a0 ([1, 2, 2, 3, 3] : (List Int))).bind fun x3 => (gf_cw9 (⟨a0.b, x3.2⟩ : Rd) 4).bind fun x6 => ((if (x3.1 == 1) = true then (some 1) else (some (IntKind.i64.wrap (x3.1 + x6.1))) : Option Int)).bind fun q8 => (gl_dc9_1 q8 a0 x3 rounds 0 x6.2 []).bind fun q109 => (gf_cr9 (⟨x3.1, q109.2⟩ : Shape)).bind fun x154 => if (!x154) = true then ((gf_da9 (⟨a0.b, q109.1⟩ : Rd)).bind fun x156 => some ((⟨1, [x156.1]⟩ : Shape), x156.2)) else (some ((⟨x3.1, q109.2⟩ : Shape), q109.1))
def c_dc9 : Con := ⟨Rd × Option Addr × Nat, (Shape × Int), 386, fun a => [.pio 0 290], fun a => gf_dc9 a.1, fun a r => ⟨[(true, eShape true r.1)], [some [[.v (.slice a.2.1 (List.map eU8 a.1.b).length a.2.2), .v (.int .i64 r.2)]]]⟩, fun a => [(true, 290, [[.rw a.2.1 a.2.2 (List.map eU8 a.1.b), .v (.int .i64 a.1.p)]])]⟩
/-! spec.l2Feat -/
def ib_de9 : IC :=
 (Rs [Io 4 (.alloc 100 [.v (.string ⟨#[]⟩), .v (.int .i64 0), .sl true 66 [], .sl true 82 []])]
 (Rs [Mv 7 1, Mv 8 0, Io 9 (.call 386 [(true, .t 8)]), Io 10 (.build [.v (.string ⟨#[]⟩), .v (.int .i64 0), .nil, .nil] [(0, 1, .t 7), (1, 2, .t 9)]), Io 5 (.alloc 100 [.v (.string ⟨#[]⟩), .v (.int .i64 0), .sl true 66 [], .sl true 82 []]), Sv [none, none, some 66, some 82] 5 10]
 (.seq (Rs [Mv 11 0, Io 12 (.call 321 [(true, .t 11), (false, .c (.int .i64 4))]), Mv 6 12]
 (blkC 0 (.loop (.seq (Rs [Mv 13 6, Bk 14 .gtr 13 0]
 (Ct 14 .skip
 (.exit 0)))
 (.seq (.block 1 (.drw [Fa 17 3 5, Ld 18 1 17, Mv 19 0, Io 20 (.call 365 [(true, .t 19)]), Mv 21 0, Io 22 (.call 366 [(true, .t 21)]), Ca 23 47 [18, 20, 22], Fa 24 3 5, Sv [some 82] 24 23] [(1, 3), (1, 5)]))
 (.reg [Mv 15 6, Bk 16 .sub 15 1, Mv 6 16]))))))
 (Rs [La 25 4 5, Sv [none, none, some 66, some 82] 4 25]
 .ret))))
def if_de9 : IFn := ⟨26, [.inr (4, 4)], ib_de9, lcF []⟩
def ks_de9 : List (List (Option Nat)) := [[none, none, some 66, some 82]]
def gl_de9_1 (a0 : Rd) : Nat → Int → Int → (List Tag) → Option ((List Tag) × Int)
 | 0, _, _, _ => none
 | n70 + 1, v57, v58, v66 => if (decide (v57 > 0)) = true then ((gf_dg9 (⟨a0.b, v58⟩ : Rd)).bind fun x71 => (gf_di9 (⟨a0.b, x71.2⟩ : Rd)).bind fun x73 => (gf_dh9 v66 x71.1 x73.1).bind fun x75 => gl_de9_1 a0 n70 (IntKind.i64.wrap (v57 - 1)) x73.2 x75) else (some (v66, v58))
def gf_de9 (a0 : Rd) (a1 : Str) : Option (Feat × Int) := (gf_dc9 a0).bind fun x2 => (gf_cw9 (⟨a0.b, x2.2⟩ : Rd) 4).bind fun x7 => (gl_de9_1 a0 rounds x7.1 x7.2 []).bind fun q56 => some ((⟨a1, x2.1, q56.1⟩ : Feat), q56.2)
def c_de9 : Con := ⟨Rd × Str × Option Addr × Nat, (Feat × Int), 363, fun a => [.pio 0 290, .v (.string a.2.1)], fun a => gf_de9 a.1 a.2.1, fun a r => ⟨[(true, eFeat true r.1)], [some [[.v (.slice a.2.2.1 (List.map eU8 a.1.b).length a.2.2.2), .v (.int .i64 r.2)]]]⟩, fun a => [(true, 290, [[.rw a.2.2.1 a.2.2.2 (List.map eU8 a.1.b), .v (.int .i64 a.1.p)]])]⟩
/-! spec.l1Bent -/
def ib_cx9 : IC :=
 (Rs [Io 2 (.alloc 226 [.v (.int .i64 0), .sl true 66 []])]
 (Rs [Mv 5 0, Io 6 (.call 386 [(true, .t 5)]), Io 3 (.alloc 226 [.v (.int .i64 0), .sl true 66 []]), Sv [none, some 66] 3 6]
 (Rs [Mv 7 0, Fa 8 1 3, Ld 9 1 8, Ln 10 9, Io 11 (.call 321 [(true, .t 7), (false, .t 10)]), Mv 4 11]
 (.seq (Rs [Mv 12 0, Io 13 (.call 321 [(true, .t 12), (false, .c (.int .i64 40))])]
 (.block 0 (seqC (.reg [Bk 15 .eql 13 0, Mv 14 15])
 (Ct 14 (.reg [Mv 16 0, Io 17 (.lit 17 [none] [.v (.int .i64 0)] 5 [(0, .c (.int .i64 0)), (1, .c (.int .i64 4)), (2, .c (.int .i64 1)), (3, .c (.int .i64 2)), (4, .c (.int .i64 3))]), Io 18 (.call 356 [(true, .t 16), (false, .t 17)]), Fa 19 0 3, Sv [none] 19 18])
 (Rs [Bk 21 .eql 13 1, Mv 20 21]
 (Ct 20 (.drw [Fa 22 1 3, Ld 23 1 22, Mv 24 4, Mv 25 0, Io 26 (.lit 17 [none] [.v (.int .i64 0)] 3 [(0, .c (.int .i64 1000)), (1, .c (.int .i64 1001)), (2, .c (.int .i64 (-1001)))]), Io 27 (.call 356 [(true, .t 25), (false, .t 26)]), Ia 28 2 23 24, Fa 29 0 28, Sv [none] 29 27] [(1, 4), (1, 5)])
 (Rs [Bk 31 .eql 13 2, Mv 30 31]
 (Ct 30 (.drw [Fa 32 1 3, Ld 33 1 32, Fa 34 1 3, Ld 35 1 34, Fa 36 1 3, Ld 37 1 36, Ln 38 37, Bk 39 .sub 38 1, Ia 40 2 35 39, La 41 2 40, Io 42 (.lit 66 [none, none] [.v (.int .i64 0), .v (.int .i64 0)] 1 [(0, .t 41)]), Io 43 (.app 66 true (.t 33) (.t 42)), Fa 44 1 3, Sv [some 66] 44 43] [(1, 3), (1, 5), (3, 5), (1, 9), (1, 10)])
 (Rs [Bk 46 .eql 13 3, Mv 45 46]
 (Ct 45 (.reg [Fa 47 1 3, Ld 48 1 47, Mv 49 4, Io 50 (.trn (.sls 2 (.t 48) none (some (.t 49)))), Fa 51 1 3, Sv [some 66] 51 50])
 .skip))))))))))
 (Rs [La 52 2 3, Sv [none, some 66] 2 52]
 .ret)))))
def if_cx9 : IFn := ⟨53, [.inr (2, 2)], ib_cx9, lcF []⟩
def ks_cx9 : List (List (Option Nat)) := [[none, some 66]]
def gf_cx9 (a0 : Rd) : Option (Shape × Int) := (gf_dc9 a0).bind fun x2 => (gf_cw9 (⟨a0.b, x2.2⟩ : Rd) (x2.1.pts.length : Int)).bind fun x7 => (gf_cw9 (⟨a0.b, x7.2⟩ : Rd) 40).bind fun x9 => ((some () : Option Unit)).bind fun q11 => if (x9.1 == 0) = true then ((gf_cu9 (⟨a0.b, x9.2⟩ : Rd) ([0, 4, 1, 2, 3] : (List Int))).bind fun x19 => some ((⟨x19.1, x2.1.pts⟩ : Shape), x19.2)) else (if (x9.1 == 1) = true then ((gf_cu9 (⟨a0.b, x9.2⟩ : Rd) ([1000, 1001, (-1001)] : (List Int))).bind fun x22 => (idx x2.1.pts x7.1).bind fun x24 => some ((⟨x2.1.kind, (List.set x2.1.pts x7.1.toNat (⟨x22.1, x24.y⟩ : Pt))⟩ : Shape), x22.2)) else (if (x9.1 == 2) = true then ((idx x2.1.pts (IntKind.i64.wrap ((x2.1.pts.length : Int) - 1))).bind fun x26 => if fits (x2.1.pts ++ ([x26] : (List Pt))).length = true then some ((⟨x2.1.kind, (x2.1.pts ++ ([x26] : (List Pt)))⟩ : Shape), x9.2) else none) else (if (x9.1 == 3) = true then ((slc x2.1.pts 0 x7.1).bind fun x32 => some ((⟨x2.1.kind, x32⟩ : Shape), x9.2)) else (some (x2.1, x9.2)))))
def c_cx9 : Con := ⟨Rd × Option Addr × Nat, (Shape × Int), 372, fun a => [.pio 0 290], fun a => gf_cx9 a.1, fun a r => ⟨[(true, eShape true r.1)], [some [[.v (.slice a.2.1 (List.map eU8 a.1.b).length a.2.2), .v (.int .i64 r.2)]]]⟩, fun a => [(true, 290, [[.rw a.2.1 a.2.2 (List.map eU8 a.1.b), .v (.int .i64 a.1.p)]])]⟩
/-! spec.l2Bent -/
def ib_dd9 : IC :=
 (Rs [Io 2 (.alloc 100 [.v (.string ⟨#[]⟩), .v (.int .i64 0), .sl true 66 [], .sl true 82 []])]
 (seqC (.reg [Mv 4 0, Mv 5 0, Io 6 (.call 362 [(true, .t 5)]), Io 7 (.call 363 [(true, .t 4), (false, .t 6)]), Io 3 (.alloc 100 [.v (.string ⟨#[]⟩), .v (.int .i64 0), .sl true 66 [], .sl true 82 []]), Sv [none, none, some 66, some 82] 3 7])
 (.seq (Rs [Mv 8 0, Io 9 (.call 321 [(true, .t 8), (false, .c (.int .i64 40))])]
 (.block 0 (Rs [Bk 11 .eql 9 0, Mv 10 11]
 (Ct 10 (.reg [Mv 12 0, Io 13 (.lit 49 [none] [.v (.string ⟨#[]⟩)] 3 [(0, .c (.string ⟨#[]⟩)), (1, .c (.string ⟨#[65]⟩)), (2, .c (.string ⟨#[97, 98, 99, 100, 101, 102, 103]⟩))]), Io 14 (.call 326 [(true, .t 12), (false, .t 13)]), Fa 15 0 3, Sv [none] 15 14])
 (Rs [Bk 17 .eql 9 1, Mv 16 17]
 (Ct 16 (.reg [Mv 18 0, Io 19 (.call 372 [(true, .t 18)]), Fa 20 1 3, Sv [none, some 66] 20 19])
 (Rs [Bk 22 .eql 9 2, Mv 21 22]
 (Ct 21 (.reg [Fa 23 3 3, Ld 24 1 23, Io 25 (.build [.v (.string ⟨#[]⟩), .v (.string ⟨#[]⟩)] [(0, 1, .c (.string ⟨#[97]⟩)), (1, 1, .c (.string ⟨#[98]⟩))]), Io 26 (.lit 82 [none, none] [.v (.string ⟨#[]⟩), .v (.string ⟨#[]⟩)] 1 [(0, .t 25)]), Io 27 (.app 82 true (.t 24) (.t 26)), Fa 28 3 3, Sv [some 82] 28 27])
 (Rs [Bk 30 .eql 9 3, Mv 29 30]
 (Ct 29 (.drw [Fa 31 3 3, Ld 32 1 31, Mv 33 0, Io 34 (.lit 49 [none] [.v (.string ⟨#[]⟩)] 2 [(0, .c (.string ⟨#[]⟩)), (1, .c (.string ⟨#[66]⟩))]), Io 35 (.call 326 [(true, .t 33), (false, .t 34)]), Io 36 (.build [.v (.string ⟨#[]⟩), .v (.string ⟨#[]⟩)] [(0, 1, .c (.string ⟨#[122, 122]⟩)), (1, 1, .t 35)]), Io 37 (.lit 82 [none, none] [.v (.string ⟨#[]⟩), .v (.string ⟨#[]⟩)] 1 [(0, .t 36)]), Io 38 (.app 82 true (.t 32) (.t 37)), Fa 39 3 3, Sv [some 82] 39 38] [(1, 3), (1, 4), (1, 6)])
 .skip))))))))))
 (Rs [La 40 4 3, Sv [none, none, some 66, some 82] 2 40]
 .ret))))
def if_dd9 : IFn := ⟨41, [.inr (2, 4)], ib_dd9, lcF []⟩
def ks_dd9 : List (List (Option Nat)) := [[none, none, some 66, some 82]]
def gf_dd9 (a0 : Rd) : Option (Feat × Int) := (((gf_df9 a0).bind fun x3 => (gf_de9 (⟨a0.b, x3.2⟩ : Rd) x3.1).bind fun x5 => some (x5.2, x5.1.shape.pts, x5.1.tags, x5.1.id, x5.1.shape.kind) : Option (Int × (List Pt) × (List Tag) × Str × Int))).bind fun q2 => (gf_cw9 (⟨a0.b, q2.1⟩ : Rd) 40).bind fun x27 => if (x27.1 == 0) = true then ((gf_cv9 (⟨a0.b, x27.2⟩ : Rd) ([(⟨#[]⟩ : Str), (⟨#[65]⟩ : Str), (⟨#[97, 98, 99, 100, 101, 102, 103]⟩ : Str)] : (List Str))).bind fun x30 => some ((⟨x30.1, ⟨q2.2.2.2.2, q2.2.1⟩, q2.2.2.1⟩ : Feat), x30.2)) else (if (x27.1 == 1) = true then ((gf_cx9 (⟨a0.b, x27.2⟩ : Rd)).bind fun x32 => some ((⟨q2.2.2.2.1, x32.1, q2.2.2.1⟩ : Feat), x32.2)) else (if (x27.1 == 2) = true then (if fits (q2.2.2.1 ++ ([(⟨(⟨#[97]⟩ : Str), (⟨#[98]⟩ : Str)⟩ : Tag)] : (List Tag))).length = true then some ((⟨q2.2.2.2.1, ⟨q2.2.2.2.2, q2.2.1⟩, (q2.2.2.1 ++ ([(⟨(⟨#[97]⟩ : Str), (⟨#[98]⟩ : Str)⟩ : Tag)] : (List Tag)))⟩ : Feat), x27.2) else none) else (if (x27.1 == 3) = true then ((gf_cv9 (⟨a0.b, x27.2⟩ : Rd) ([(⟨#[]⟩ : Str), (⟨#[66]⟩ : Str)] : (List Str))).bind fun x41 => if fits (q2.2.2.1 ++ ([(⟨(⟨#[122, 122]⟩ : Str), x41.1⟩ : Tag)] : (List Tag))).length = true then some ((⟨q2.2.2.2.1, ⟨q2.2.2.2.2, q2.2.1⟩, (q2.2.2.1 ++ ([(⟨(⟨#[122, 122]⟩ : Str), x41.1⟩ : Tag)] : (List Tag)))⟩ : Feat), x41.2) else none) else (some ((⟨q2.2.2.2.1, ⟨q2.2.2.2.2, q2.2.1⟩, q2.2.2.1⟩ : Feat), x27.2)))))
def c_dd9 : Con := ⟨Rd × Option Addr × Nat, (Feat × Int), 341, fun a => [.pio 0 290], fun a => gf_dd9 a.1, fun a r => ⟨[(true, eFeat true r.1)], [some [[.v (.slice a.2.1 (List.map eU8 a.1.b).length a.2.2), .v (.int .i64 r.2)]]]⟩, fun a => [(true, 290, [[.rw a.2.1 a.2.2 (List.map eU8 a.1.b), .v (.int .i64 a.1.p)]])]⟩
/-! spec.l3Put -/
def ib_dl9 : IC :=
 (Rs [Io 3 (.box 100 [none, none, some 66, some 82] (.t 1)), Io 4 (.mv (.c (.slice none 0 0)))]
 (Rs [Io 8 (.lit 100 [none, none, some 66, some 82] [.v (.string ⟨#[]⟩), .v (.int .i64 0), .sl true 66 [], .sl true 82 []] 0 []), Mv 5 8]
 (Rs [Kb 6 false]
 (.seq (Rs [Ki 7 0]
 (blkC 0 (.loop (.seq (Rs [Mv 9 7, Mv 10 0, Ln 11 10, Bb 12 .lss 9 11]
 (Ct 12 .skip
 (.exit 0)))
 (.seq (.block 1 (seqC (.seq (.drw [Mv 15 6, Nt 16 15, Mv 17 16, Gt 17 (Mv 18 0), Gt 17 (Mv 19 7), Gt 17 (Ia 20 4 18 19), Gt 17 (Fa 21 0 20), Gt 17 (Ld 22 1 21), Gt 17 (Fa 23 0 3), Gt 17 (Ld 24 1 23), Gt 17 (Bb 25 .geq 22 24), Io 26 (.pick (.t 17) (.t 25) (.c (.bool false)))] [(7, 9)])
 (Ct 26 (Rs [Mv 27 5, La 28 4 3, Io 29 (.lit 100 [none, none, some 66, some 82] [.v (.string ⟨#[]⟩), .v (.int .i64 0), .sl true 66 [], .sl true 82 []] 1 [(0, .t 28)]), Io 30 (.app 100 true (.t 27) (.t 29)), Mv 5 30]
 (.reg [Kb 6 true]))
 .skip))
 (.seq (.drw [Mv 31 0, Mv 32 7, Ia 33 4 31 32, Fa 34 0 33, Ld 35 1 34, Fa 36 0 3, Ld 37 1 36, Bb 38 .neq 35 37] [(4, 6)])
 (Ct 38 (.reg [Mv 39 5, Mv 40 0, Mv 41 7, Ia 42 4 40 41, La 43 4 42, Io 44 (.lit 100 [none, none, some 66, some 82] [.v (.string ⟨#[]⟩), .v (.int .i64 0), .sl true 66 [], .sl true 82 []] 1 [(0, .t 43)]), Io 45 (.app 100 true (.t 39) (.t 44)), Mv 5 45])
 .skip))))
 (.reg [Mv 13 7, Bk 14 .add 13 1, Mv 7 14]))))))
 (.seq (Rs [Mv 46 6, Nt 47 46]
 (Ct 47 (.reg [Mv 48 5, La 49 4 3, Io 50 (.lit 100 [none, none, some 66, some 82] [.v (.string ⟨#[]⟩), .v (.int .i64 0), .sl true 66 [], .sl true 82 []] 1 [(0, .t 49)]), Io 51 (.app 100 true (.t 48) (.t 50)), Mv 5 51])
 .skip))
 (Rs [Mv 52 5, Mv 4 52]
 .ret))))))
def if_dl9 : IFn := ⟨53, [.inl 4], ib_dl9, lcF []⟩
def ks_dl9 : List (List (Option Nat)) := [[some 100]]
def gl_dl9_1 (a1 : Feat) : List Feat → Nat → Bool → (List Feat) → Option (Bool × (List Feat))
 | [], k92, v86, v89 => some (v86, v89)
 | x93 :: l94, k92, v86, v89 => ((if (!v86) = true then (if (!slt x93.id a1.id) = true then (if fits (v89 ++ ([a1] : (List Feat))).length = true then some (true, (v89 ++ ([a1] : (List Feat)))) else none) else (some (v86, v89))) else (some (v86, v89)) : Option (Bool × (List Feat)))).bind fun q105 => if (!seq x93.id a1.id) = true then (if fits (q105.2 ++ ([x93] : (List Feat))).length = true then gl_dl9_1 a1 l94 (k92 + 1) q105.1 (q105.2 ++ ([x93] : (List Feat))) else none) else (gl_dl9_1 a1 l94 (k92 + 1) q105.1 q105.2)
def gf_dl9 (a0 : (List Feat)) (a1 : Feat) : Option (List Feat) := if fits a0.length = true then ((gl_dl9_1 a1 a0 0 false []).bind fun q85 => if (!q85.1) = true then (if fits (q85.2 ++ ([a1] : (List Feat))).length = true then some ((q85.2 ++ ([a1] : (List Feat)))) else none) else (some (q85.2))) else none
def c_dl9 : Con := ⟨(List Feat) × Feat, (List Feat), 37, fun a => [.io 0 a.1.length 100, .agg [.v (.string a.2.id), .v (.int .i64 a.2.shape.kind), .ro (List.map ePt a.2.shape.pts), .ro (List.map eTag a.2.tags)]], fun a => gf_dl9 a.1 a.2, fun a r => ⟨[(false, [sl true 100 (List.map (eFeat false) r)])], [none]⟩, fun a => [(false, 100, List.map (eFeat false) a.1)]⟩
/-! spec.l3Sheet -/
def ib_dm9 : IC :=
 (Rs [Io 2 (.mv (.c (.slice none 0 0)))]
 (Rs [Io 5 (.lit 100 [none, none, some 66, some 82] [.v (.string ⟨#[]⟩), .v (.int .i64 0), .sl true 66 [], .sl true 82 []] 0 []), Io 3 (.ren 2000003 100 (.mv (.t 5)))]
 (.seq (Rs [Mv 6 0, Io 7 (.call 321 [(true, .t 6), (false, .c (.int .i64 5))]), Mv 4 7]
 (blkC 0 (.loop (.seq (Rs [Mv 8 4, Bk 9 .gtr 8 0]
 (Ct 9 .skip
 (.exit 0)))
 (.seq (.block 1 (.reg [Mv 12 3, Mv 13 0, Mv 14 0, Io 15 (.call 362 [(true, .t 14)]), Io 16 (.frz (.call 363 [(true, .t 13), (false, .t 15)])), Io 17 (.call 37 [(true, .t 12), (false, .t 16)]), Io 3 (.ren 2000003 100 (.mv (.t 17)))]))
 (.reg [Mv 10 4, Bk 11 .sub 10 1, Mv 4 11]))))))
 (Rs [Mv 18 3, Mv 2 18]
 .ret))))
def if_dm9 : IFn := ⟨19, [.inl 2], ib_dm9, lcF []⟩
def ks_dm9 : List (List (Option Nat)) := [[some 100]]
def gl_dm9_1 (a0 : Rd) : Nat → Int → Int → (List Feat) → Option ((List Feat) × Int)
 | 0, _, _, _ => none
 | n53 + 1, v48, v49, v50 => if (decide (v48 > 0)) = true then ((gf_df9 (⟨a0.b, v49⟩ : Rd)).bind fun x54 => (gf_de9 (⟨a0.b, x54.2⟩ : Rd) x54.1).bind fun x56 => (gf_dl9 v50 x56.1).bind fun x62 => gl_dm9_1 a0 n53 (IntKind.i64.wrap (v48 - 1)) x56.2 x62) else (some (v50, v49))
def gf_dm9 (a0 : Rd) : Option ((List Feat) × Int) := (gf_cw9 a0 5).bind fun x2 => (gl_dm9_1 a0 rounds x2.1 x2.2 []).bind fun q47 => some (q47.1, q47.2)
def c_dm9 : Con := ⟨Rd × Option Addr × Nat, ((List Feat) × Int), 361, fun a => [.pio 0 290], fun a => gf_dm9 a.1, fun a r => ⟨[(false, [sl true 100 (List.map (eFeat false) r.1)])], [some [[.v (.slice a.2.1 (List.map eU8 a.1.b).length a.2.2), .v (.int .i64 r.2)]]]⟩, fun a => [(true, 290, [[.rw a.2.1 a.2.2 (List.map eU8 a.1.b), .v (.int .i64 a.1.p)]])]⟩
/-! spec.l3Bent -/
def ib_dj9 : IC :=
 (Rs [Io 2 (.mv (.c (.slice none 0 0)))]
 (Rs [Mv 5 0, Io 6 (.call 361 [(true, .t 5)]), Io 3 (.ren 2000003 100 (.mv (.t 6)))]
 (.seq (Rs [Mv 7 0, Io 8 (.call 321 [(true, .t 7), (false, .c (.int .i64 40))])]
 (.block 0 (Rs [Bk 10 .eql 8 0, Mv 9 10]
 (Ct 9 (.reg [Mv 11 3, Mv 12 0, Io 13 (.frz (.call 341 [(true, .t 12)])), Io 14 (.lit 100 [none, none, some 66, some 82] [.v (.string ⟨#[]⟩), .v (.int .i64 0), .sl true 66 [], .sl true 82 []] 1 [(0, .t 13)]), Io 15 (.app 100 true (.t 11) (.t 14)), Io 3 (.ren 2000003 100 (.mv (.t 15)))])
 (Rs [Bk 17 .eql 8 1, Mv 16 17]
 (Ct 16 (Rs [Mv 18 3, Mv 19 3, Io 20 (.app 100 false (.t 18) (.t 19)), Mv 2 20]
 .ret)
 (Rs [Bk 22 .eql 8 2, Mv 21 22]
 (Ct 21 (Rs [Ki 4 0]
 (blkC 1 (.loop (.seq (Rs [Mv 23 4, Bk 24 .leq 23 8]
 (Ct 24 .skip
 (.exit 1)))
 (.seq (.block 2 (.reg [Mv 27 3, Mv 28 4, Mv 29 4, Bk 30 .add 29 1, Io 31 (.ssl (.c (.string ⟨#[113, 114, 115, 116, 117, 118, 119, 120, 121, 122]⟩)) (some (.t 28)) (some (.t 30))), Io 32 (.build [.v (.int .i64 0), .v (.int .i64 0)] []), Io 33 (.lit 66 [none, none] [.v (.int .i64 0), .v (.int .i64 0)] 1 [(0, .t 32)]), Io 34 (.build [.v (.int .i64 0), .nil] [(0, 1, .c (.int .i64 1)), (1, 1, .t 33)]), Io 35 (.frz (.build [.v (.string ⟨#[]⟩), .v (.int .i64 0), .nil, .nil] [(0, 1, .t 31), (1, 2, .t 34)])), Io 36 (.call 37 [(true, .t 27), (false, .t 35)]), Io 3 (.ren 2000003 100 (.mv (.t 36)))]))
 (.reg [Mv 25 4, Bk 26 .add 25 1, Mv 4 26]))))))
 .skip))))))))
 (Rs [Mv 37 3, Mv 2 37]
 .ret))))
def if_dj9 : IFn := ⟨38, [.inl 2], ib_dj9, lcF []⟩
def ks_dj9 : List (List (Option Nat)) := [[some 100]]
def gl_dj9_1 : Nat → Int → (List Feat) → Option (List Feat)
 | 0, _, _ => none
 | n52 + 1, v48, v49 => if (decide (v48 ≤ 8)) = true then ((sslc (⟨#[113, 114, 115, 116, 117, 118, 119, 120, 121, 122]⟩ : Str) v48 (IntKind.i64.wrap (v48 + 1))).bind fun x53 => (gf_dl9 v49 (⟨x53, ⟨1, [(⟨0, 0⟩ : Pt)]⟩, []⟩ : Feat)).bind fun x56 => gl_dj9_1 n52 (IntKind.i64.wrap (v48 + 1)) x56) else (some v49)
def gf_dj9 (a0 : Rd) : Option ((List Feat) × Int) := (gf_dm9 a0).bind fun x1 => (gf_cw9 (⟨a0.b, x1.2⟩ : Rd) 40).bind fun x5 => if (x5.1 == 0) = true then ((gf_dd9 (⟨a0.b, x5.2⟩ : Rd)).bind fun x7 => if fits (x1.1 ++ ([x7.1] : (List Feat))).length = true then some ((x1.1 ++ ([x7.1] : (List Feat))), x7.2) else none) else (if (x5.1 == 1) = true then (if fits (x1.1 ++ x1.1).length = true then some ((x1.1 ++ x1.1), x5.2) else none) else (if (x5.1 == 2) = true then ((gl_dj9_1 rounds 0 x1.1).bind fun q47 => some (q47, x5.2)) else (some (x1.1, x5.2))))
def c_dj9 : Con := ⟨Rd × Option Addr × Nat, ((List Feat) × Int), 335, fun a => [.pio 0 290], fun a => gf_dj9 a.1, fun a r => ⟨[(false, [sl true 100 (List.map (eFeat false) r.1)])], [some [[.v (.slice a.2.1 (List.map eU8 a.1.b).length a.2.2), .v (.int .i64 r.2)]]]⟩, fun a => [(true, 290, [[.rw a.2.1 a.2.2 (List.map eU8 a.1.b), .v (.int .i64 a.1.p)]])]⟩
/-! spec.RepoNew -/
def ib_cq9 : IC :=
 (Rs [Io 2 (.alloc 210 [.sl true 115 [], .sl true 130 []]), Kb 3 false]
 (.seq (Rs [Mv 4 0, Ca 5 14 [4], Nt 6 5]
 (Ct 6 (Rs [Io 7 (.build [.nil, .nil] []), Sv [some 115, some 130] 2 7, Kb 3 false]
 .ret)
 .skip))
 (Rs [Io 8 (.build [.nil, .nil, .v (.string ⟨#[]⟩)] [(2, 1, .c (.string ⟨#[98, 101, 103, 105, 110]⟩))]), Io 9 (.lit 115 [some 17, some 100, none] [.sl true 17 [], .sl true 100 [], .v (.string ⟨#[]⟩)] 1 [(0, .t 8)]), Mv 10 0, Io 11 (.build [.v (.string ⟨#[]⟩), .v (.int .i64 0)] [(0, 1, .t 10)]), Io 12 (.lit 130 [none, none] [.v (.string ⟨#[]⟩), .v (.int .i64 0)] 1 [(0, .t 11)]), Io 13 (.build [.nil, .nil] [(0, 1, .t 9), (1, 1, .t 12)]), Sv [some 115, some 130] 2 13, Kb 3 true]
 .ret)))
def if_cq9 : IFn := ⟨14, [.inr (2, 2), .inl 3], ib_cq9, lcF []⟩
def ks_cq9 : List (List (Option Nat)) := [[some 115, some 130], [none]]
def gf_cq9 (a0 : Str) : Option (Repo × Bool) := (gf_cs9 a0).bind fun x2 => if (!x2) = true then (some ((⟨[], []⟩ : Repo), false)) else (some ((⟨[(⟨[], [], (⟨#[98, 101, 103, 105, 110]⟩ : Str)⟩ : Commit)], [(⟨a0, 0⟩ : Head)]⟩ : Repo), true))
def c_cq9 : Con := ⟨Str, (Repo × Bool), 227, fun a => [.v (.string a)], fun a => gf_cq9 a, fun a r => ⟨[(true, eRepo true r.1), (false, [.v (.bool r.2)])], []⟩, fun a => []⟩
/-! impl.RepoAt -/
def ib_af9 : IC :=
 (Rs [Io 2 (.box 210 [some 115, some 130] (.t 0)), Ki 4 0]
 (Rs [La 6 2 2, Mv 7 1, Ca 8 89 [6, 7], Mv 5 8]
 (.seq (Rs [La 9 2 2, Ca 10 96 [9], Nt 11 10, Mv 12 11, Gf 12 (Mv 13 5), Gf 12 (Bk 14 .lss 13 0), Pk 15 12 14]
 (Ct 15 (Rs [Ki 4 (-1)]
 .ret)
 .skip))
 (Rs [Fa 16 1 2, Ld 17 1 16, Mv 18 5, Ia 19 2 17 18, Fa 20 1 19, Ld 21 1 20, Mv 4 21]
 .ret))))
def if_af9 : IFn := ⟨22, [.inl 4], ib_af9, lcF []⟩
def ks_af9 : List (List (Option Nat)) := [[none]]
def gf_af9 (a0 : Repo) (a1 : Str) : Option Int := (gf_ao9 a0 a1).bind fun x2 => (gf_aj9 a0).bind fun x4 => if (!x4) = true then (some ((-1))) else (if (decide (x2 < 0)) = true then (some ((-1))) else ((idx a0.heads x2).bind fun x6 => some (x6.at_)))
def c_af9 : Con := ⟨Repo × Str, Int, 213, fun a => [.agg [.ro (List.map (eCommit false) a.1.commits), .ro (List.map eHead a.1.heads)], .v (.string a.2)], fun a => gf_af9 a.1 a.2, fun a r => ⟨[(false, [.v (.int .i64 r)])], []⟩, fun a => []⟩
/-! impl.greatestFirst -/
def ib_bh9 : IC :=
 (Rs [Io 2 (.mv (.c (.slice none 0 0)))]
 (Rs [Io 5 (.lit 17 [none] [.v (.int .i64 0)] 0 []), Mv 3 5]
 (.seq (Rs [Mv 6 0, Ln 7 6, Bk 8 .sub 7 1, Mv 4 8]
 (blkC 0 (.loop (.seq (Rs [Mv 9 4, Bk 10 .geq 9 0]
 (Ct 10 .skip
 (.exit 0)))
 (.seq (.block 1 (Rs [Mv 13 0, Mv 14 4, Ia 15 1 13 14, Ld 16 1 15]
 (Ct 16 (.reg [Mv 17 3, Mv 18 4, Io 19 (.lit 17 [none] [.v (.int .i64 0)] 1 [(0, .t 18)]), Io 20 (.app 17 true (.t 17) (.t 19)), Mv 3 20])
 .skip)))
 (.reg [Mv 11 4, Bk 12 .sub 11 1, Mv 4 12]))))))
 (Rs [Mv 21 3, Mv 2 21]
 .ret))))
def if_bh9 : IFn := ⟨22, [.inl 2], ib_bh9, lcF []⟩
def ks_bh9 : List (List (Option Nat)) := [[some 17]]
def gl_bh9_1 (a0 : (List Bool)) : Nat → Int → (List Int) → Option (List Int)
 | 0, _, _ => none
 | n31 + 1, v27, v28 => if (decide (v27 ≥ 0)) = true then ((idx a0 v27).bind fun x32 => if x32 = true then (if fits (v28 ++ ([v27] : (List Int))).length = true then gl_bh9_1 a0 n31 (IntKind.i64.wrap (v27 - 1)) (v28 ++ ([v27] : (List Int))) else none) else (gl_bh9_1 a0 n31 (IntKind.i64.wrap (v27 - 1)) v28)) else (some v28)
def gf_bh9 (a0 : (List Bool)) : Option (List Int) := (gl_bh9_1 a0 rounds (IntKind.i64.wrap ((a0.length : Int) - 1)) []).bind fun q26 => some (q26)
def c_bh9 : Con := ⟨(List Bool), (List Int), 319, fun a => [.ro (List.map eBool a)], fun a => gf_bh9 a, fun a r => ⟨[(false, [sl true 17 (List.map eInt r)])], []⟩, fun a => []⟩
/-! impl.RepoPast -/
def ib_ak9 : IC :=
 (Rs [Io 2 (.box 210 [some 115, some 130] (.t 0)), Io 4 (.mv (.c (.slice none 0 0)))]
 (.seq (Rs [La 5 2 2, Ca 6 96 [5], Nt 7 6, Mv 8 7, Gf 8 (La 9 2 2), Gf 8 (Mv 10 1), Gf 8 (Ca 11 90 [9, 10]), Gf 8 (Nt 12 11), Pk 13 8 12]
 (Ct 13 (Rs [Io 14 (.lit 17 [none] [.v (.int .i64 0)] 0 []), Mv 4 14]
 .ret)
 .skip))
 (Rs [La 15 2 2, Mv 16 1, Ca 17 97 [15, 16], Ca 18 319 [17], Mv 4 18]
 .ret)))
def if_ak9 : IFn := ⟨19, [.inl 4], ib_ak9, lcF []⟩
def ks_ak9 : List (List (Option Nat)) := [[some 17]]
def gf_ak9 (a0 : Repo) (a1 : Int) : Option (List Int) := (gf_aj9 a0).bind fun x2 => if (!x2) = true then (some (([] : (List Int)))) else ((gf_as9 a0 a1).bind fun x4 => if (!x4) = true then (some (([] : (List Int)))) else ((gf_aq9 a0 a1).bind fun x8 => (gf_bh9 x8).bind fun x12 => some (x12)))
def c_ak9 : Con := ⟨Repo × Int, (List Int), 214, fun a => [.agg [.ro (List.map (eCommit false) a.1.commits), .ro (List.map eHead a.1.heads)], .v (.int .i64 a.2)], fun a => gf_ak9 a.1 a.2, fun a r => ⟨[(false, [sl true 17 (List.map eInt r)])], []⟩, fun a => []⟩
/-! impl.RepoNew -/
def ib_ai9 : IC :=
 (Rs [Io 2 (.alloc 210 [.sl true 115 [], .sl true 130 []]), Kb 3 false]
 (.seq (Rs [Mv 4 0, Ca 5 80 [4], Nt 6 5]
 (Ct 6 (Rs [Io 7 (.build [.nil, .nil] []), Sv [some 115, some 130] 2 7, Kb 3 false]
 .ret)
 .skip))
 (Rs [Io 8 (.lit 17 [none] [.v (.int .i64 0)] 0 []), Io 9 (.lit 100 [none, none, some 66, some 82] [.v (.string ⟨#[]⟩), .v (.int .i64 0), .sl true 66 [], .sl true 82 []] 0 []), Io 10 (.build [.nil, .nil, .v (.string ⟨#[]⟩)] [(0, 1, .t 8), (1, 1, .t 9), (2, 1, .c (.string ⟨#[98, 101, 103, 105, 110]⟩))]), Io 11 (.lit 115 [some 17, some 100, none] [.sl true 17 [], .sl true 100 [], .v (.string ⟨#[]⟩)] 1 [(0, .t 10)]), Mv 12 0, Io 13 (.build [.v (.string ⟨#[]⟩), .v (.int .i64 0)] [(0, 1, .t 12), (1, 1, .c (.int .i64 0))]), Io 14 (.lit 130 [none, none] [.v (.string ⟨#[]⟩), .v (.int .i64 0)] 1 [(0, .t 13)]), Io 15 (.build [.nil, .nil] [(0, 1, .t 11), (1, 1, .t 14)]), Sv [some 115, some 130] 2 15, Kb 3 true]
 .ret)))
def if_ai9 : IFn := ⟨16, [.inr (2, 2), .inl 3], ib_ai9, lcF []⟩
def ks_ai9 : List (List (Option Nat)) := [[some 115, some 130], [none]]
def gf_ai9 (a0 : Str) : Option (Repo × Bool) := (gf_az9 a0).bind fun x2 => if (!x2) = true then (some ((⟨[], []⟩ : Repo), false)) else (some ((⟨[(⟨[], [], (⟨#[98, 101, 103, 105, 110]⟩ : Str)⟩ : Commit)], [(⟨a0, 0⟩ : Head)]⟩ : Repo), true))
def c_ai9 : Con := ⟨Str, (Repo × Bool), 226, fun a => [.v (.string a)], fun a => gf_ai9 a, fun a r => ⟨[(true, eRepo true r.1), (false, [.v (.bool r.2)])], []⟩, fun a => []⟩
/-! slices.Equal[[]impl.Head,impl.Head] -/
def ib_bw9 : IC :=
 (Rs [Kb 4 false]
 (.seq (Rs [Mv 6 0, Ln 7 6, Mv 8 1, Ln 9 8, Bb 10 .neq 7 9]
 (Ct 10 (Rs [Kb 4 false]
 .ret)
 .skip))
 (.seq (Rs [Mv 11 0, Ln 12 11, Ki 13 0]
 (blkC 0 (.loop (Rs [Bb 14 .lss 13 12]
 (.seq (Ct 14 .skip
 (.exit 0))
 (.seq (.block 1 (Rs [Mv 15 13, Mv 5 15]
 (.seq (.drw [Mv 16 0, Mv 17 5, Ia 18 2 16 17, La 19 2 18, Mv 20 1, Mv 21 5, Ia 22 2 20 21, La 23 2 22, Io 24 (.eqs true true [2, 0] (.t 19) (.t 23))] [(3, 7)])
 (Ct 24 (Rs [Kb 4 false]
 .ret)
 .skip))))
 (.reg [Bk 25 .add 13 1, Mv 13 25])))))))
 (Rs [Kb 4 true]
 .ret))))
def if_bw9 : IFn := ⟨26, [.inl 4], ib_bw9, lcF []⟩
def ks_bw9 : List (List (Option Nat)) := [[none]]
def gl_bw9_1 (a1 : (List Head)) : List Head → Nat → Option (Bool ⊕ Unit)
 | [], k16 => some (.inr ())
 | x17 :: l18, k16 => (idx a1 (k16 : Int)).bind fun x25 => if (!((x17.name == x25.name) && ((x17.at_ == x25.at_) && true))) = true then (some (.inl (false))) else (gl_bw9_1 a1 l18 (k16 + 1) )
def gf_bw9 (a0 : (List Head)) (a1 : (List Head)) : Option Bool := if ((a0.length : Int) != (a1.length : Int)) = true then (some (false)) else (if fits a0.length = true then ((gl_bw9_1 a1 a0 0 ).bind fun q => match q with | .inl r => some r | .inr q14 => some (true)) else none)
def c_bw9 : Con := ⟨(List Head) × (List Head), Bool, 331, fun a => [.ro (List.map eHead a.1), .ro (List.map eHead a.2)], fun a => gf_bw9 a.1 a.2, fun a r => ⟨[(false, [.v (.bool r)])], []⟩, fun a => []⟩
/-! slices.EqualFunc[[]impl.Commit,[]impl.Commit,impl.Commit,impl.Commit] -/
def ib_bs9 : IC :=
 (Rs [Kb 6 false]
 (.seq (Rs [Mv 10 0, Ln 11 10, Mv 12 1, Ln 13 12, Bb 14 .neq 11 13]
 (Ct 14 (Rs [Kb 6 false]
 .ret)
 .skip))
 (.seq (Rs [Mv 15 0, Ln 16 15, Ki 17 0]
 (blkC 0 (.loop (Rs [Bb 18 .lss 17 16]
 (.seq (Ct 18 .skip
 (.exit 0))
 (.seq (.block 1 (Rs [Mv 19 17, Ia 20 3 15 17, La 21 3 20, Io 8 (.alloc 115 [.sl true 17 [], .sl true 100 [], .v (.string ⟨#[]⟩)]), Mv 7 19, Sv [some 17, some 100, none] 8 21]
 (Rs [Mv 22 1, Mv 23 7, Ia 24 3 22 23, La 25 3 24, Io 9 (.alloc 115 [.sl true 17 [], .sl true 100 [], .v (.string ⟨#[]⟩)]), Sv [some 17, some 100, none] 9 25]
 (Rs [Mv 26 2, La 27 3 8, La 28 3 9, Io 29 (.calld (.t 26) [(false, .t 27), (false, .t 28)]), Nt 30 29]
 (Ct 30 (Rs [Kb 6 false]
 .ret)
 .skip)))))
 (.reg [Bk 31 .add 17 1, Mv 17 31])))))))
 (Rs [Kb 6 true]
 .ret))))
def if_bs9 : IFn := ⟨32, [.inl 6], ib_bs9, lcF []⟩
def ks_bs9 : List (List (Option Nat)) := [[none]]
def gl_bt9_1 (a1 : (List Commit)) : List Commit → Nat → Option (Bool ⊕ Unit)
 | [], k28 => some (.inr ())
 | x29 :: l30, k28 => (idx a1 (k28 : Int)).bind fun x38 => (gf_bj9 x29 x38).bind fun x41 => if (!x41) = true then (some (.inl (false))) else (gl_bt9_1 a1 l30 (k28 + 1) )
def gf_bt9 (a0 : (List Commit)) (a1 : (List Commit)) : Option Bool := if ((a0.length : Int) != (a1.length : Int)) = true then (some (false)) else (if fits a0.length = true then ((gl_bt9_1 a1 a0 0 ).bind fun q => match q with | .inl r => some r | .inr q26 => some (true)) else none)
def c_bt9 : Con := ⟨(List Commit) × (List Commit), Bool, 329, fun a => [.ro (List.map (eCommit false) a.1), .ro (List.map (eCommit false) a.2), .fn 330 []], fun a => gf_bt9 a.1 a.2, fun a r => ⟨[(false, [.v (.bool r)])], []⟩, fun a => []⟩
/-! impl.RepoSame -/
def ib_al9 : IC :=
 (Rs [Io 2 (.box 210 [some 115, some 130] (.t 0)), Io 3 (.box 210 [some 115, some 130] (.t 1)), Kb 4 false]
 (Rs [Fa 5 0 2, Ld 6 1 5, Fa 7 0 3, Ld 8 1 7, Io 9 (.call 329 [(false, .t 6), (false, .t 8), (false, .f 330)]), Mv 10 9, Gt 10 (Fa 11 1 2), Gt 10 (Ld 12 1 11), Gt 10 (Fa 13 1 3), Gt 10 (Ld 14 1 13), Gt 10 (Ca 15 331 [12, 14]), Io 16 (.pick (.t 10) (.t 15) (.c (.bool false))), Mv 4 16]
 .ret))
def if_al9 : IFn := ⟨17, [.inl 4], ib_al9, lcF []⟩
def ks_al9 : List (List (Option Nat)) := [[none]]
def gf_al9 (a0 : Repo) (a1 : Repo) : Option Bool := (gf_bt9 a0.commits a1.commits).bind fun x3 => if x3 = true then ((gf_bw9 a0.heads a1.heads).bind fun x5 => some (x5)) else (some (false))
def c_al9 : Con := ⟨Repo × Repo, Bool, 228, fun a => [.agg [.ro (List.map (eCommit false) a.1.commits), .ro (List.map eHead a.1.heads)], .agg [.ro (List.map (eCommit false) a.2.commits), .ro (List.map eHead a.2.heads)]], fun a => gf_al9 a.1 a.2, fun a r => ⟨[(false, [.v (.bool r)])], []⟩, fun a => []⟩
/-! cmp.Compare[string] -/
def ib_aa9 : IC :=
 (Rs [Ki 4 0]
 (Rs [Mv 7 0, Ca 8 101 [7], Mv 5 8]
 (Rs [Mv 9 1, Ca 10 101 [9], Mv 6 10]
 (.seq (Rs [Mv 11 5]
 (Ct 11 (.seq (Rs [Mv 12 6]
 (Ct 12 (Rs [Ki 4 0]
 .ret)
 .skip))
 (Rs [Ki 4 (-1)]
 .ret))
 .skip))
 (.seq (Rs [Mv 13 6]
 (Ct 13 (Rs [Ki 4 1]
 .ret)
 .skip))
 (.seq (Rs [Mv 14 0, Mv 15 1, Bb 16 .lss 14 15]
 (Ct 16 (Rs [Ki 4 (-1)]
 .ret)
 .skip))
 (.seq (Rs [Mv 17 0, Mv 18 1, Bb 19 .gtr 17 18]
 (Ct 19 (Rs [Ki 4 1]
 .ret)
 .skip))
 (Rs [Ki 4 0]
 .ret))))))))
def if_aa9 : IFn := ⟨20, [.inl 4], ib_aa9, lcF []⟩
def ks_aa9 : List (List (Option Nat)) := [[none]]
def gf_aa9 (a0 : Str) (a1 : Str) : Option Int := (gf_ab9 a0).bind fun x1 => (gf_ab9 a1).bind fun x3 => if x1 = true then (if x3 = true then (some (0)) else (some ((-1)))) else (if x3 = true then (some (1)) else (if (slt a0 a1) = true then (some ((-1))) else (if (!(slt a0 a1 || seq a0 a1)) = true then (some (1)) else (some (0)))))
def c_aa9 : Con := ⟨Str × Str, Int, 360, fun a => [.v (.string a.1), .v (.string a.2)], fun a => gf_aa9 a.1 a.2, fun a r => ⟨[(false, [.v (.int .i64 r)])], []⟩, fun a => []⟩
/-! impl.SheetPut$1 -/
def ib_ax9 : IC :=
 (Rs [Io 2 (.box 100 [none, none, some 66, some 82] (.t 0)), Io 3 (.box 100 [none, none, some 66, some 82] (.t 1)), Ki 4 0]
 (Rs [Fa 5 0 2, Ld 6 1 5, Fa 7 0 3, Ld 8 1 7, Ca 9 360 [6, 8], Mv 4 9]
 .ret))
def if_ax9 : IFn := ⟨10, [.inl 4], ib_ax9, lcF []⟩
def ks_ax9 : List (List (Option Nat)) := [[none]]
def gf_ax9 (a0 : Feat) (a1 : Feat) : Option Int := (gf_aa9 a0.id a1.id).bind fun x3 => some (x3)
def c_ax9 : Con := ⟨Feat × Feat, Int, 333, fun a => [.agg [.v (.string a.1.id), .v (.int .i64 a.1.shape.kind), .ro (List.map ePt a.1.shape.pts), .ro (List.map eTag a.1.tags)], .agg [.v (.string a.2.id), .v (.int .i64 a.2.shape.kind), .ro (List.map ePt a.2.shape.pts), .ro (List.map eTag a.2.tags)]], fun a => gf_ax9 a.1 a.2, fun a r => ⟨[(false, [.v (.int .i64 r)])], []⟩, fun a => []⟩
/-! slices.insertionSortCmpFunc[impl.Feat] -/
def ib_cl9 : IC :=
 (Rs [Mv 10 1, Bk 11 .add 10 1, Mv 8 11]
 (blkC 0 (.loop (.seq (Rs [Mv 12 8, Mv 13 2, Bb 14 .lss 12 13]
 (Ct 14 .skip
 (.exit 0)))
 (.seq (.block 1 (Rs [Mv 17 8, Mv 9 17]
 (blkC 2 (.loop (.seq (.seq (.drw [Mv 18 9, Mv 19 1, Bb 20 .gtr 18 19, Mv 21 20, Gt 21 (Mv 22 3), Gt 21 (Mv 23 0), Gt 21 (Mv 24 9), Gt 21 (Ia 25 4 23 24), Gt 21 (La 26 4 25), Gt 21 (Mv 27 0), Gt 21 (Mv 28 9), Gt 21 (Bk 29 .sub 28 1), Gt 21 (Ia 30 4 27 29), Gt 21 (La 31 4 30), Gt 21 (Io 32 (.calld (.t 22) [(false, .t 26), (false, .t 31)])), Gt 21 (Bk 33 .lss 32 0), Io 34 (.pick (.t 21) (.t 33) (.c (.bool false)))] [(8, 13)])
 (Ct 34 .skip
 (.exit 2)))
 (.seq (.block 3 (.drw [Mv 37 0, Mv 38 9, Mv 39 0, Mv 40 9, Bk 41 .sub 40 1, Mv 42 0, Mv 43 9, Bk 44 .sub 43 1, Ia 45 4 42 44, La 46 4 45, Mv 47 0, Mv 48 9, Ia 49 4 47 48, La 50 4 49, Ia 51 4 37 38, Sv [none, none, some 66, some 82] 51 46, Ia 52 4 39 41, Sv [none, none, some 66, some 82] 52 50] [(9, 13)]))
 (.reg [Mv 35 9, Bk 36 .sub 35 1, Mv 9 36])))))))
 (.reg [Mv 15 8, Bk 16 .add 15 1, Mv 8 16]))))))
def if_cl9 : IFn := ⟨53, [], ib_cl9, lcF []⟩
def ks_cl9 : List (List (Option Nat)) := []
def gl_cm9_5 (a1 : Int) : Nat → Int → (List Feat) → Option (List Feat)
 | 0, _, _ => none
 | n153 + 1, v151, v152 => if (decide (v151 > a1)) = true then ((idx v152 v151).bind fun x154 => (idx v152 (IntKind.i64.wrap (v151 - 1))).bind fun x156 => (gf_ax9 x154 x156).bind fun x158 => if (decide (x158 < 0)) = true then ((idx (List.set v152 v151.toNat x156) (IntKind.i64.wrap (v151 - 1))).bind fun x160 => gl_cm9_5 a1 n153 (IntKind.i64.wrap (v151 - 1)) (List.set (List.set v152 v151.toNat x156) (IntKind.i64.wrap (v151 - 1)).toNat x154)) else (some v152)) else (some v152)
def gl_cm9_4 (a2 : Int) (a1 : Int) : Nat → Int → (List Feat) → Option (List Feat)
 | 0, _, _ => none
 | n123 + 1, v121, v122 => if (decide (v121 < a2)) = true then ((gl_cm9_5 a1 rounds v121 v122).bind fun q150 => gl_cm9_4 a2 a1 n123 (IntKind.i64.wrap (v121 + 1)) q150) else (some v122)
def gf_cm9 (a0 : (List Feat)) (a1 : Int) (a2 : Int) : Option (List Feat) := (gl_cm9_4 a2 a1 rounds (IntKind.i64.wrap (a1 + 1)) a0).bind fun q120 => some (q120)
def c_cm9 : Con := ⟨(List Feat) × Int × Int, (List Feat), 378, fun a => [.io 0 a.1.length 100, .v (.int .i64 a.2.1), .v (.int .i64 a.2.2), .fn 333 []], fun a => gf_cm9 a.1 a.2.1 a.2.2, fun a r => ⟨[], [some (List.map (eFeat false) r)]⟩, fun a => [(false, 100, List.map (eFeat false) a.1)]⟩
theorem l5_slices_insertionSortCmpFunc_impl_Feat__impl_SheetPut_1 {a1 : Int} : ∀ (n : Nat) (v : Int) (xs r : List Feat), gl_cm9_5 a1 n v xs = some r → r.length = xs.length
 | 0, _, _, _, h => by simp [gl_cm9_5] at h
 | n + 1, v, xs, r, h => by
  simp only [gl_cm9_5] at h
  split at h
  ·simp only [Option.bind_eq_some_iff] at h
   obtain ⟨x, _, y, _, z, _, h⟩ := h
   split at h
   ·simp only [Option.bind_eq_some_iff] at h
    obtain ⟨w, _, h⟩ := h
    have := l5_slices_insertionSortCmpFunc_impl_Feat__impl_SheetPut_1 n _ _ _ h
    simpa using this
   ·cases h; rfl
  ·cases h; rfl
theorem l4_slices_insertionSortCmpFunc_impl_Feat__impl_SheetPut_1 {a1 a2 : Int} : ∀ (n : Nat) (v : Int) (xs r : List Feat), gl_cm9_4 a2 a1 n v xs = some r → r.length = xs.length
 | 0, _, _, _, h => by simp [gl_cm9_4] at h
 | n + 1, v, xs, r, h => by
  simp only [gl_cm9_4] at h
  split at h
  ·obtain ⟨q, h1, h2⟩ := bnd h
   rw [l4_slices_insertionSortCmpFunc_impl_Feat__impl_SheetPut_1 n _ _ _ h2, l5_slices_insertionSortCmpFunc_impl_Feat__impl_SheetPut_1 _ _ _ _ h1]
  ·cases h; rfl
theorem l_cm9 {a0 : (List Feat)} {a1 : Int} {a2 : Int} {r : (List Feat)} (h : gf_cm9 a0 a1 a2 = some r) : (r).length = (a0).length := by
 unfold gf_cm9 at h
 obtain ⟨q, h1, h2⟩ := bnd h
 cases h2
 exact l4_slices_insertionSortCmpFunc_impl_Feat__impl_SheetPut_1 _ _ _ _ h1

/-! slices.pdqsortCmpFunc[impl.Feat] -/
def ib_cn9 : IC :=
 (Rs [Kb 10 true]
 (Rs [Kb 11 true]
 (blkC 0 (.loop (.block 1 (Rs [Mv 21 2, Mv 22 1, Bb 23 .sub 21 22, Mv 12 23]
 (.seq (Rs [Mv 24 12, Bk 25 .leq 24 12]
 (Ct 25 (Rs [Mv 26 0, Mv 27 1, Mv 28 2, Mv 29 4, Io 30 (.call 378 [(true, .t 26), (false, .t 27), (false, .t 28), (false, .t 29)])]
 .ret)
 .skip))
 (.seq (Rs [Mv 31 3, Bk 32 .eql 31 0]
 (Ct 32 (Rs [Mv 33 0, Mv 34 1, Mv 35 2, Mv 36 4, Ca 37 379 [33, 34, 35, 36]]
 .ret)
 .skip))
 (.seq (Rs [Mv 38 10, Nt 39 38]
 (Ct 39 (Rs [Mv 40 0, Mv 41 1, Mv 42 2, Mv 43 4, Ca 44 380 [40, 41, 42, 43]]
 (.reg [Mv 45 3, Bk 46 .sub 45 1, Mv 3 46]))
 .skip))
 (Rs [Mv 48 0, Mv 49 1, Mv 50 2, Mv 51 4, Ca 52 381 [48, 49, 50, 51], Mv 47 52, Xt 53 47 0, Xt 54 47 1, Mv 13 53, Mv 14 54]
 (.seq (Rs [Mv 55 14, Bk 56 .eql 55 2]
 (Ct 56 (Rs [Mv 57 0, Mv 58 1, Mv 59 2, Mv 60 4, Ca 61 382 [57, 58, 59, 60]]
 (Rs [Mv 62 2, Bk 63 .sub 62 1, Mv 64 13, Mv 65 1, Bb 66 .sub 64 65, Bb 67 .sub 63 66, Mv 13 67]
 (.reg [Ki 14 1])))
 .skip))
 (.seq (Rs [Mv 68 10, Mv 69 68, Gt 69 (Mv 70 11), Io 71 (.pick (.t 69) (.t 70) (.c (.bool false))), Mv 72 71, Gt 72 (Mv 73 14), Gt 72 (Bk 74 .eql 73 1), Io 75 (.pick (.t 72) (.t 74) (.c (.bool false)))]
 (Ct 75 (Rs [Mv 76 0, Mv 77 1, Mv 78 2, Mv 79 4, Ca 80 383 [76, 77, 78, 79]]
 (Ct 80 .ret
 .skip))
 .skip))
 (.seq (.seq (.drw [Mv 81 1, Bk 82 .gtr 81 0, Mv 83 82, Gt 83 (Mv 84 4), Gt 83 (Mv 85 0), Gt 83 (Mv 86 1), Gt 83 (Bk 87 .sub 86 1), Gt 83 (Ia 88 4 85 87), Gt 83 (La 89 4 88), Gt 83 (Mv 90 0), Gt 83 (Mv 91 13), Gt 83 (Ia 92 4 90 91), Gt 83 (La 93 4 92), Gt 83 (Io 94 (.calld (.t 84) [(false, .t 89), (false, .t 93)])), Gt 83 (Bk 95 .lss 94 0), Gt 83 (Nt 96 95), Io 97 (.pick (.t 83) (.t 96) (.c (.bool false)))] [(8, 12)])
 (Ct 97 (Rs [Mv 98 0, Mv 99 1, Mv 100 2, Mv 101 13, Mv 102 4, Ca 103 384 [98, 99, 100, 101, 102], Mv 15 103]
 (Rs [Mv 104 15, Mv 1 104]
 (.exit 1)))
 .skip))
 (Rs [Mv 106 0, Mv 107 1, Mv 108 2, Mv 109 13, Mv 110 4, Ca 111 385 [106, 107, 108, 109, 110], Mv 105 111, Xt 112 105 0, Xt 113 105 1, Mv 16 112, Mv 17 113]
 (Rs [Mv 114 17, Mv 11 114]
 (Rs [Mv 115 16, Mv 116 1, Bb 117 .sub 115 116, Mv 118 2, Mv 119 16, Bb 120 .sub 118 119, Mv 18 117, Mv 19 120]
 (Rs [Mv 121 12, Bk 122 .quo 121 8, Mv 20 122]
 (Rs [Mv 123 18, Mv 124 19, Bb 125 .lss 123 124]
 (Ct 125 (Rs [Mv 126 18, Mv 127 20, Bb 128 .geq 126 127, Mv 10 128]
 (Rs [Mv 129 0, Mv 130 1, Mv 131 16, Mv 132 3, Mv 133 4, Io 134 (.call 359 [(true, .t 129), (false, .t 130), (false, .t 131), (false, .t 132), (false, .t 133)])]
 (.reg [Mv 135 16, Bk 136 .add 135 1, Mv 1 136])))
 (Rs [Mv 137 19, Mv 138 20, Bb 139 .geq 137 138, Mv 10 139]
 (Rs [Mv 140 0, Mv 141 16, Bk 142 .add 141 1, Mv 143 2, Mv 144 3, Mv 145 4, Io 146 (.call 359 [(true, .t 140), (false, .t 142), (false, .t 143), (false, .t 144), (false, .t 145)])]
 (.reg [Mv 147 16, Mv 2 147]))))))))))))))))))))))
def if_cn9 : IFn := ⟨148, [], ib_cn9, lcF []⟩
def ks_cn9 : List (List (Option Nat)) := []
def gl_co9_1 (a2 : Int) (a1 : Int) (a0 : (List Feat)) (a3 : Int) : Nat → Option ((List Feat) ⊕ Unit)
 | 0 => none
 | n4 + 1 => if (decide ((IntKind.i64.wrap (a2 - a1)) ≤ 12)) = true then ((gf_cm9 a0 a1 a2).bind fun x5 => some (.inl (x5))) else (if (a3 == 0) = true then (none) else (none))
def gf_co9 (a0 : (List Feat)) (a1 : Int) (a2 : Int) (a3 : Int) : Option (List Feat) := (gl_co9_1 a2 a1 a0 a3 rounds ).bind fun q => match q with | .inl r => some r | .inr q3 => none
def c_co9 : Con := ⟨(List Feat) × Int × Int × Int, (List Feat), 359, fun a => [.io 0 a.1.length 100, .v (.int .i64 a.2.1), .v (.int .i64 a.2.2.1), .v (.int .i64 a.2.2.2), .fn 333 []], fun a => gf_co9 a.1 a.2.1 a.2.2.1 a.2.2.2, fun a r => ⟨[], [some (List.map (eFeat false) r)]⟩, fun a => [(false, 100, List.map (eFeat false) a.1)]⟩
theorem l_co9 {a0 : (List Feat)} {a1 : Int} {a2 : Int} {a3 : Int} {r : (List Feat)} (h : gf_co9 a0 a1 a2 a3 = some r) : (r).length = (a0).length := by
 unfold gf_co9 at h
 obtain ⟨q, h1, h2⟩ := bnd h
 rw [show rounds = 4194303 + 1 from rfl] at h1
 simp only [gl_co9_1] at h1
 split at h1
 ·obtain ⟨x, h3, h4⟩ := bnd h1
  cases h4
  cases h2
  exact l_cm9 h3
 ·split at h1 <;> cases h1

/-! slices.SortFunc[[]impl.Feat,impl.Feat] -/
def ib_cj9 : IC :=
 (Rs [Mv 5 0, Ln 6 5, Mv 4 6]
 (.reg [Mv 7 0, Mv 8 4, Mv 9 4, Io 10 (.conv .u64 (.t 9)), Ca 11 106 [10], Mv 12 1, Io 13 (.call 359 [(true, .t 7), (false, .c (.int .i64 0)), (false, .t 8), (false, .t 11), (false, .t 12)])]))
def if_cj9 : IFn := ⟨14, [], ib_cj9, lcF []⟩
def ks_cj9 : List (List (Option Nat)) := []
def gf_ck9 (a0 : (List Feat)) : Option (List Feat) := (gf_bm9 (IntKind.u64.wrap (a0.length : Int))).bind fun x1 => (gf_co9 a0 0 (a0.length : Int) x1).bind fun x3 => some (x3)
def c_ck9 : Con := ⟨(List Feat), (List Feat), 332, fun a => [.io 0 a.length 100, .fn 333 []], fun a => gf_ck9 a, fun a r => ⟨[], [some (List.map (eFeat false) r)]⟩, fun a => [(false, 100, List.map (eFeat false) a)]⟩
theorem l_ck9 {a0 : (List Feat)} {r : (List Feat)} (h : gf_ck9 a0 = some r) : (r).length = (a0).length := by
 unfold gf_ck9 at h
 simp only [Option.bind_eq_some_iff] at h
 obtain ⟨_, _, q, h1, h2⟩ := h
 cases h2
 exact l_co9 h1

/-! impl.SheetPut -/
def ib_aw9 : IC :=
 (Rs [Io 3 (.box 100 [none, none, some 66, some 82] (.t 1)), Io 4 (.mv (.c (.slice none 0 0))), Kb 5 false]
 (.seq (Rs [Mv 8 0, Ca 9 86 [8], Nt 10 9, Mv 11 10, Gf 11 (La 12 4 3), Gf 11 (Ca 13 82 [12]), Gf 11 (Nt 14 13), Pk 15 11 14]
 (Ct 15 (Rs [Io 16 (.lit 100 [none, none, some 66, some 82] [.v (.string ⟨#[]⟩), .v (.int .i64 0), .sl true 66 [], .sl true 82 []] 0 []), Mv 4 16, Kb 5 false]
 .ret)
 .skip))
 (Rs [Mv 17 0, Io 18 (.pfz 16 (.call 93 [(false, .t 17)])), Mv 6 18]
 (.seq (Rs [Mv 19 6, Fa 20 0 3, Ld 21 1 20, Ca 22 125 [19, 21], Mv 7 22]
 (Rs [Mv 23 7, Bk 24 .geq 23 0]
 (Ct 24 (Rs [Mv 25 6, Mv 26 7, La 27 4 3, Io 28 (.frz (.call 92 [(false, .t 27)])), Ia 29 4 25 26, Sv [none, none, some 66, some 82] 29 28]
 (Rs [Mv 30 6, Mv 4 30, Kb 5 true]
 .ret))
 .skip)))
 (.seq (Rs [Mv 31 6, Ln 32 31, Bk 33 .eql 32 8]
 (Ct 33 (Rs [Io 34 (.lit 100 [none, none, some 66, some 82] [.v (.string ⟨#[]⟩), .v (.int .i64 0), .sl true 66 [], .sl true 82 []] 0 []), Mv 4 34, Kb 5 false]
 .ret)
 .skip))
 (Rs [Mv 35 6, Io 36 (.frz (.load 4 true (.t 3))), Io 37 (.lit 100 [none, none, some 66, some 82] [.v (.string ⟨#[]⟩), .v (.int .i64 0), .sl true 66 [], .sl true 82 []] 1 [(0, .t 36)]), Io 38 (.app 100 true (.t 35) (.t 37)), Mv 6 38]
 (Rs [Mv 39 6, Io 40 (.call 332 [(true, .t 39), (false, .f 333)])]
 (Rs [Mv 41 6, Io 42 (.pfz 16 (.call 93 [(false, .t 41)])), Mv 4 42, Kb 5 true]
 .ret))))))))
def if_aw9 : IFn := ⟨43, [.inl 4, .inl 5], ib_aw9, lcF []⟩
def ks_aw9 : List (List (Option Nat)) := [[some 100], [none]]
def gf_aw9 (a0 : (List Feat)) (a1 : Feat) : Option ((List Feat) × Bool) := (gf_av9 a0).bind fun x2 => if (!x2) = true then (some (([] : (List Feat)), false)) else ((gf_ac9 a1).bind fun x4 => if (!x4) = true then (some (([] : (List Feat)), false)) else ((gf_be9 a0).bind fun x8 => (gf_bf9 x8 a1.id).bind fun x12 => if (decide (x12 ≥ 0)) = true then ((gf_bb9 a1).bind fun x14 => (idx x8 x12).bind fun x20 => some ((List.set x8 x12.toNat x14), true)) else (if ((x8.length : Int) == 8) = true then (some (([] : (List Feat)), false)) else (if fits (x8 ++ ([a1] : (List Feat))).length = true then (gf_ck9 (x8 ++ ([a1] : (List Feat)))).bind fun x27 => (gf_be9 x27).bind fun x29 => some (x29, true) else none))))
def c_aw9 : Con := ⟨(List Feat) × Feat, ((List Feat) × Bool), 233, fun a => [.ro (List.map (eFeat false) a.1), .agg [.v (.string a.2.id), .v (.int .i64 a.2.shape.kind), .ro (List.map ePt a.2.shape.pts), .ro (List.map eTag a.2.tags)]], fun a => gf_aw9 a.1 a.2, fun a r => ⟨[(false, [sl true 100 (List.map (eFeat false) r.1)]), (false, [.v (.bool r.2)])], []⟩, fun a => []⟩
/-! impl.RepoAdd -/
def ib_ae9 : IC :=
 (Rs [Io 4 (.box 210 [some 115, some 130] (.t 0)), Io 8 (.alloc 210 [.sl true 115 [], .sl true 130 []]), Ki 9 0]
 (.seq (Rs [La 13 2 4, Ca 14 96 [13], Nt 15 14, Mv 16 15, Gf 16 (Mv 17 2), Gf 16 (Ca 18 86 [17]), Gf 16 (Nt 19 18), Pk 20 16 19, Mv 21 20, Gf 21 (Mv 22 3), Gf 21 (Ca 23 80 [22]), Gf 21 (Nt 24 23), Pk 25 21 24]
 (Ct 25 (Rs [Io 26 (.build [.nil, .nil] []), Sv [some 115, some 130] 8 26, Ki 9 4]
 .ret)
 .skip))
 (seqC (.reg [La 27 2 4, Ca 28 150 [27], Io 10 (.alloc 210 [.sl true 115 [], .sl true 130 []]), Sv [some 115, some 130] 10 28])
 (Rs [La 29 2 4, Mv 30 1, Ca 31 89 [29, 30], Mv 11 31]
 (.seq (Rs [Mv 32 11, Bk 33 .lss 32 0]
 (Ct 33 (Rs [La 34 2 10, Sv [some 115, some 130] 8 34, Ki 9 1]
 .ret)
 .skip))
 (Rs [Fa 35 1 4, Ld 36 1 35, Mv 37 11, Ia 38 2 36 37, Fa 39 1 38, Ld 40 1 39, Mv 12 40]
 (.seq (Rs [Fa 41 0 4, Ld 42 1 41, Mv 43 12, Ia 44 3 42 43, Fa 45 1 44, Ld 46 1 45, Mv 47 2, Ca 48 220 [46, 47]]
 (Ct 48 (Rs [La 49 2 10, Sv [some 115, some 130] 8 49, Ki 9 3]
 .ret)
 .skip))
 (.seq (Rs [Mv 50 11, Mv 51 12, Io 52 (.lit 17 [none] [.v (.int .i64 0)] 1 [(0, .t 51)]), Mv 53 2, Mv 54 3, Io 55 (.build [.nil, .nil, .v (.string ⟨#[]⟩)] [(0, 1, .t 52), (1, 1, .t 53), (2, 1, .t 54)]), Io 56 (.call 152 [(true, .t 10), (false, .t 50), (false, .t 55)]), Nt 57 56]
 (Ct 57 (Rs [La 58 2 10, Sv [some 115, some 130] 8 58, Ki 9 2]
 .ret)
 .skip))
 (Rs [La 59 2 10, Sv [some 115, some 130] 8 59, Ki 9 0]
 .ret)))))))))
def if_ae9 : IFn := ⟨60, [.inr (8, 2), .inl 9], ib_ae9, lcF []⟩
def ks_ae9 : List (List (Option Nat)) := [[some 115, some 130], [none]]
def gf_ae9 (a0 : Repo) (a1 : Str) (a2 : (List Feat)) (a3 : Str) : Option (Repo × Int) := (gf_aj9 a0).bind fun x3 => if (!x3) = true then (some ((⟨[], []⟩ : Repo), 4)) else ((gf_av9 a2).bind fun x5 => if (!x5) = true then (some ((⟨[], []⟩ : Repo), 4)) else ((gf_az9 a3).bind fun x7 => if (!x7) = true then (some ((⟨[], []⟩ : Repo), 4)) else ((((gf_bc9 a0).bind fun x10 => some (x10.commits, x10.heads) : Option ((List Commit) × (List Head)))).bind fun q9 => (gf_ao9 a0 a1).bind fun x30 => if (decide (x30 < 0)) = true then (some ((⟨q9.1, q9.2⟩ : Repo), 1)) else ((idx a0.heads x30).bind fun x32 => (idx a0.commits x32.at_).bind fun x34 => (gf_ay9 x34.sheet a2).bind fun x36 => if x36 = true then (some ((⟨q9.1, q9.2⟩ : Repo), 3)) else ((gf_ar9 (⟨q9.1, q9.2⟩ : Repo) x30 (⟨[x32.at_], a2, a3⟩ : Commit)).bind fun x39 => if (!x39.1) = true then (some (x39.2, 2)) else (some (x39.2, 0)))))))
def c_ae9 : Con := ⟨Repo × Str × (List Feat) × Str, (Repo × Int), 234, fun a => [.agg [.ro (List.map (eCommit false) a.1.commits), .ro (List.map eHead a.1.heads)], .v (.string a.2.1), .ro (List.map (eFeat false) a.2.2.1), .v (.string a.2.2.2)], fun a => gf_ae9 a.1 a.2.1 a.2.2.1 a.2.2.2, fun a r => ⟨[(true, eRepo true r.1), (false, [.v (.int .i64 r.2)])], []⟩, fun a => []⟩
/-! spec.DrawSheetPut -/
def ib_cp9 : IC :=
 (Rs [Io 2 (.mv (.c (.slice none 0 0))), Io 3 (.alloc 100 [.v (.string ⟨#[]⟩), .v (.int .i64 0), .sl true 66 [], .sl true 82 []])]
 (Rs [Mv 6 0, Ca 7 316 [6], Mv 4 7]
 (Rs [Mv 8 4, Io 9 (.call 335 [(true, .t 8)]), Mv 5 9]
 (Rs [Mv 10 5, Mv 11 4, Io 12 (.call 341 [(true, .t 11)]), Mv 2 10, Sv [none, none, some 66, some 82] 3 12]
 .ret))))
def if_cp9 : IFn := ⟨13, [.inl 2, .inr (3, 4)], ib_cp9, lcF []⟩
def ks_cp9 : List (List (Option Nat)) := [[some 100], [none, none, some 66, some 82]]
def gf_cp9 (a0 : (List UInt8)) : Option ((List Feat) × Feat) := (gf_ct9 a0).bind fun x2 => (gf_dj9 x2).bind fun x5 => (gf_dd9 (⟨x2.b, x5.2⟩ : Rd)).bind fun x9 => some (x5.1, x9.1)
def c_cp9 : Con := ⟨(List UInt8) × Option Addr × Nat, ((List Feat) × Feat), 268, fun a => [.raw a.2.1 a.2.2 (List.map eU8 a.1)], fun a => gf_cp9 a.1, fun a r => ⟨[(false, [sl true 100 (List.map (eFeat false) r.1)]), (true, eFeat true r.2)], []⟩, fun a => []⟩
/-! laws.FnRepoLine -/
def ib_bl9 : IC :=
 (Rs [Kb 2 false]
 (.seq (Rs [Mv 19 0, Ln 20 19, Bk 21 .gtr 20 1048576]
 (Ct 21 (Rs [Kb 2 true]
 .ret)
 .skip))
 (Rs [Io 23 (.call 226 [(false, .c (.string ⟨#[109, 97, 105, 110]⟩))]), Mv 22 23, Xt 24 22 0, Xt 25 22 1, Io 3 (.alloc 210 [.sl true 115 [], .sl true 130 []]), Sv [some 115, some 130] 3 24, Mv 4 25]
 (Rs [Io 27 (.call 227 [(false, .c (.string ⟨#[109, 97, 105, 110]⟩))]), Mv 26 27, Xt 28 26 0, Xt 29 26 1, Io 5 (.alloc 210 [.sl true 115 [], .sl true 130 []]), Sv [some 115, some 130] 5 28, Mv 6 29]
 (.seq (Rs [Mv 30 4, Nt 31 30, Mv 32 31, Gf 32 (Mv 33 6), Gf 32 (Nt 34 33), Pk 35 32 34, Mv 36 35, Gf 36 (La 37 2 3), Gf 36 (La 38 2 5), Gf 36 (Io 39 (.call 228 [(false, .w 37), (false, .w 38)])), Gf 36 (Nt 40 39), Pk 41 36 40]
 (Ct 41 (Rs [Kb 2 false]
 .ret)
 .skip))
 (Rs [Ki 7 1]
 (.seq (Rs [Ki 8 0]
 (blkC 0 (.loop (.seq (Rs [Mv 42 8, Bk 43 .lss 42 6]
 (Ct 43 .skip
 (.exit 0)))
 (.seq (.block 1 (Rs [Mv 46 0, Mv 9 46]
 (seqC (Rs [Mv 47 8, Mv 48 0, Ln 49 48, Bb 50 .lss 47 49]
 (Ct 50 (.reg [Mv 51 0, Mv 52 8, Io 53 (.sls 1 (.t 51) (some (.t 52)) none), Mv 9 53])
 .skip))
 (Rs [Mv 55 9, Io 56 (.frz (.call 268 [(false, .t 55)])), Mv 54 56, Xt 57 54 0, Xt 58 54 1, Io 11 (.alloc 100 [.v (.string ⟨#[]⟩), .v (.int .i64 0), .sl true 66 [], .sl true 82 []]), Mv 10 57, Sv [none, none, some 66, some 82] 11 58]
 (Rs [Mv 60 10, La 61 4 11, Io 62 (.call 233 [(false, .w 60), (false, .w 61)]), Mv 59 62, Xt 63 59 0, Xt 64 59 1, Mv 12 63, Mv 13 64]
 (.seq (Rs [Mv 65 13, Nt 66 65]
 (Ct 66 (.exit 1)
 .skip))
 (Rs [La 68 2 3, Mv 69 12, Io 70 (.call 234 [(false, .w 68), (false, .c (.string ⟨#[109, 97, 105, 110]⟩)), (false, .w 69), (false, .c (.string ⟨#[97, 110, 110]⟩))]), Mv 67 70, Xt 71 67 0, Xt 72 67 1, Io 14 (.alloc 210 [.sl true 115 [], .sl true 130 []]), Sv [some 115, some 130] 14 71, Mv 15 72]
 (.seq (Rs [Mv 73 15, Bk 74 .eql 73 0]
 (Ct 74 (.reg [Mv 75 7, Bk 76 .add 75 1, Mv 7 76])
 .skip))
 (.reg [La 77 2 14, Sv [some 115, some 130] 3 77])))))))))
 (.reg [Mv 44 8, Bk 45 .add 44 1, Mv 8 45]))))))
 (.seq (.drw [La 78 2 3, La 79 2 3, Io 80 (.call 213 [(false, .w 79), (false, .c (.string ⟨#[109, 97, 105, 110]⟩))]), Io 81 (.call 214 [(false, .w 78), (false, .w 80)]), Mv 16 81] [(0, 1), (0, 2)])
 (.seq (Rs [Mv 82 16, Ln 83 82, Mv 84 7, Bb 85 .neq 83 84, Mv 86 85, Gf 86 (Fa 87 0 3), Gf 86 (Ld 88 1 87), Gf 86 (Ln 89 88), Gf 86 (Mv 90 7), Gf 86 (Bb 91 .neq 89 90), Pk 92 86 91]
 (Ct 92 (Rs [Kb 2 false]
 .ret)
 .skip))
 (.seq (Rs [Ki 17 0]
 (blkC 2 (.loop (.seq (Rs [Mv 93 17, Mv 94 7, Bb 95 .lss 93 94]
 (Ct 95 .skip
 (.exit 2)))
 (.seq (.block 3 (.seq (Rs [Mv 98 16, Mv 99 17, Io 100 (.iaddr 1 (.w 98) (.t 99)), Ld 101 1 100, Mv 102 7, Bk 103 .sub 102 1, Mv 104 17, Bb 105 .sub 103 104, Bb 106 .neq 101 105]
 (Ct 106 (Rs [Kb 2 false]
 .ret)
 .skip))
 (Rs [La 107 2 3, Mv 108 17, Mv 109 7, Bk 110 .sub 109 1, Io 111 (.call 100 [(false, .w 107), (false, .w 108), (false, .w 110)]), Mv 18 111]
 (Rs [Mv 112 18, Ln 113 112, Bk 114 .neq 113 1, Mv 115 114, Gf 115 (Mv 116 18), Gf 115 (Io 117 (.iaddr 1 (.w 116) (.c (.int .i64 0)))), Gf 115 (Ld 118 1 117), Gf 115 (Mv 119 17), Gf 115 (Bb 120 .neq 118 119), Pk 121 115 120]
 (Ct 121 (Rs [Kb 2 false]
 .ret)
 .skip)))))
 (.reg [Mv 96 17, Bk 97 .add 96 1, Mv 17 97]))))))
 (Rs [Kb 2 true]
 .ret)))))))))))
def if_bl9 : IFn := ⟨122, [.inl 2], ib_bl9, lcF []⟩
def ks_bl9 : List (List (Option Nat)) := [[none]]
def gl_bl9_1 (a0 : (List UInt8)) : Nat → Int → Int → (List Commit) → (List Head) → Option (Int × (List Commit) × (List Head))
 | 0, _, _, _, _ => none
 | n152 + 1, v143, v144, v145, v148 => if (decide (v144 < 6)) = true then (((if (decide (v144 < (a0.length : Int))) = true then ((slc a0 v144 (a0.length : Int)).bind fun x160 => some x160) else (some a0) : Option (List UInt8))).bind fun q157 => (gf_cp9 q157).bind fun x170 => (gf_aw9 x170.1 x170.2).bind fun x179 => if (!x179.2) = true then (gl_bl9_1 a0 n152 v143 (IntKind.i64.wrap (v144 + 1)) v145 v148) else ((gf_ae9 (⟨v145, v148⟩ : Repo) (⟨#[109, 97, 105, 110]⟩ : Str) x179.1 (⟨#[97, 110, 110]⟩ : Str)).bind fun x183 => if (x183.2 == 0) = true then (gl_bl9_1 a0 n152 (IntKind.i64.wrap (v143 + 1)) (IntKind.i64.wrap (v144 + 1)) x183.1.commits x183.1.heads) else (gl_bl9_1 a0 n152 v143 (IntKind.i64.wrap (v144 + 1)) x183.1.commits x183.1.heads))) else (some (v143, v145, v148))
def gl_bl9_2 (q142 : (Int × (List Commit) × (List Head))) (x200 : (List Int)) : Nat → Int → Option (Bool ⊕ Unit)
 | 0, _ => none
 | n252 + 1, v244 => if (decide (v244 < q142.1)) = true then ((idx x200 v244).bind fun x253 => if (x253 != (IntKind.i64.wrap ((IntKind.i64.wrap (q142.1 - 1)) - v244))) = true then (some (.inl (false))) else ((gf_ag9 (⟨q142.2.1, q142.2.2⟩ : Repo) v244 (IntKind.i64.wrap (q142.1 - 1))).bind fun x255 => if ((x255.length : Int) != 1) = true then (some (.inl (false))) else ((idx x255 0).bind fun x259 => if (x259 != v244) = true then (some (.inl (false))) else (gl_bl9_2 q142 x200 n252 (IntKind.i64.wrap (v244 + 1)))))) else (some (.inr ()))
def gf_bl9 (a0 : (List UInt8)) : Option Bool := if (decide ((a0.length : Int) > 1048576)) = true then (some (true)) else ((gf_ai9 (⟨#[109, 97, 105, 110]⟩ : Str)).bind fun x1 => (gf_cq9 (⟨#[109, 97, 105, 110]⟩ : Str)).bind fun x8 => if (!x1.2) = true then (some (false)) else (if (!x8.2) = true then (some (false)) else ((gf_al9 x1.1 x8.1).bind fun x15 => if (!x15) = true then (some (false)) else ((gl_bl9_1 a0 rounds 1 0 x1.1.commits x1.1.heads).bind fun q142 => (gf_af9 (⟨q142.2.1, q142.2.2⟩ : Repo) (⟨#[109, 97, 105, 110]⟩ : Str)).bind fun x198 => (gf_ak9 (⟨q142.2.1, q142.2.2⟩ : Repo) x198).bind fun x200 => if ((x200.length : Int) != q142.1) = true then (some (false)) else (if ((q142.2.1.length : Int) != q142.1) = true then (some (false)) else ((gl_bl9_2 q142 x200 rounds 0).bind fun q => match q with | .inl r => some r | .inr q243 => some (true)))))))
def c_bl9 : Con := ⟨(List UInt8) × Option Addr × Nat, Bool, 267, fun a => [.raw a.2.1 a.2.2 (List.map eU8 a.1)], fun a => gf_bl9 a.1, fun a r => ⟨[(false, [.v (.bool r)])], []⟩, fun a => []⟩
end Go.Proofs.AM
