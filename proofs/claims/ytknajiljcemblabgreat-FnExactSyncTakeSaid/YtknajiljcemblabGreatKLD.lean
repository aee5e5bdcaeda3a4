/- Lemmas of the proof (KLD), on an abstract machine. Conditions: none. -/
import Derived.Test.YtknajiljcemblabGreatG2
set_option linter.unusedVariables false
set_option maxRecDepth 100000
set_option maxHeartbeats 4000000
namespace Go.Proofs.AM
attribute [local irreducible] vwp vstps vstpLs vstp vdo vret kseq kblk kloop kend kcut kloop2 frzV renV shutK pfzV trnV unrV
/-! laws.szPtS -/
def ib_cm9 : IC :=
 (Rs [Ki 4 0]
 (Rs [Mv 5 1, Mv 6 0, Ln 7 6, Bb 8 .sub 5 7, Mv 1 8]
 (.seq (Rs [Mv 9 1, Bk 10 .lss 9 0]
 (Ct 10 (Rs [Ki 4 (-1)]
 .ret)
 .skip))
 (Rs [Mv 11 1, Mv 4 11]
 .ret))))
def if_cm9 : IFn := ⟨12, [.inl 4], ib_cm9, lcF []⟩
def ks_cm9 : List (List (Option Nat)) := [[none]]
def gf_cm9 (a0 : (List Pt)) (a1 : Int) : Option Int := if (decide ((IntKind.i64.wrap (a1 - (a0.length : Int))) < 0)) = true then (some ((-1))) else (some ((IntKind.i64.wrap (a1 - (a0.length : Int)))))
def c_cm9 : Con := ⟨(List Pt) × Int, Int, 1, fun a => [.ro (List.map ePt a.1), .v (.int .i64 a.2)], fun a => gf_cm9 a.1 a.2, fun a r => ⟨[(false, [.v (.int .i64 r)])], []⟩, fun a => []⟩
/-! laws.szTag -/
def ib_cp9 : IC :=
 (Rs [Io 2 (.box 354 [none, none] (.t 0)), Ki 4 0]
 (Rs [Mv 5 1, Fa 6 0 2, Ld 7 1 6, Io 8 (.len true (.t 7)), Bb 9 .sub 5 8, Mv 1 9]
 (.seq (Rs [Mv 10 1, Bk 11 .lss 10 0]
 (Ct 11 (Rs [Ki 4 (-1)]
 .ret)
 .skip))
 (Rs [Mv 12 1, Fa 13 1 2, Ld 14 1 13, Io 15 (.len true (.t 14)), Bb 16 .sub 12 15, Mv 1 16]
 (.seq (Rs [Mv 17 1, Bk 18 .lss 17 0]
 (Ct 18 (Rs [Ki 4 (-1)]
 .ret)
 .skip))
 (Rs [Mv 19 1, Mv 4 19]
 .ret))))))
def if_cp9 : IFn := ⟨20, [.inl 4], ib_cp9, lcF []⟩
def ks_cp9 : List (List (Option Nat)) := [[none]]
def gf_cp9 (a0 : Tag) (a1 : Int) : Option Int := if (decide ((IntKind.i64.wrap (a1 - (a0.key.size : Int))) < 0)) = true then (some ((-1))) else (if (decide ((IntKind.i64.wrap ((IntKind.i64.wrap (a1 - (a0.key.size : Int))) - (a0.val.size : Int))) < 0)) = true then (some ((-1))) else (some ((IntKind.i64.wrap ((IntKind.i64.wrap (a1 - (a0.key.size : Int))) - (a0.val.size : Int))))))
def c_cp9 : Con := ⟨Tag × Int, Int, 2, fun a => [.agg [.v (.string a.1.key), .v (.string a.1.val)], .v (.int .i64 a.2)], fun a => gf_cp9 a.1 a.2, fun a r => ⟨[(false, [.v (.int .i64 r)])], []⟩, fun a => []⟩
/-! laws.szShape -/
def ib_co9 : IC :=
 (Rs [Io 2 (.box 482 [none, some 338] (.t 0)), Ki 4 0]
 (Rs [Fa 5 1 2, Ld 6 1 5, Mv 7 1, Ca 8 1 [6, 7], Mv 1 8]
 (.seq (Rs [Mv 9 1, Bk 10 .lss 9 0]
 (Ct 10 (Rs [Ki 4 (-1)]
 .ret)
 .skip))
 (Rs [Mv 11 1, Mv 4 11]
 .ret))))
def if_co9 : IFn := ⟨12, [.inl 4], ib_co9, lcF []⟩
def ks_co9 : List (List (Option Nat)) := [[none]]
def gf_co9 (a0 : Shape) (a1 : Int) : Option Int := (gf_cm9 a0.pts a1).bind fun x2 => if (decide (x2 < 0)) = true then (some ((-1))) else (some (x2))
def c_co9 : Con := ⟨Shape × Int, Int, 3, fun a => [.agg [.v (.int .i64 a.1.kind), .ro (List.map ePt a.1.pts)], .v (.int .i64 a.2)], fun a => gf_co9 a.1 a.2, fun a r => ⟨[(false, [.v (.int .i64 r)])], []⟩, fun a => []⟩
/-! laws.szTagS -/
def ib_cq9 : IC :=
 (Rs [Ki 4 0]
 (Rs [Mv 6 1, Mv 7 0, Ln 8 7, Bb 9 .sub 6 8, Mv 1 9]
 (.seq (Rs [Mv 10 1, Bk 11 .lss 10 0]
 (Ct 11 (Rs [Ki 4 (-1)]
 .ret)
 .skip))
 (.seq (Rs [Ki 5 0]
 (blkC 0 (.loop (.seq (Rs [Mv 12 5, Mv 13 0, Ln 14 13, Bb 15 .lss 12 14]
 (Ct 15 .skip
 (.exit 0)))
 (.seq (.block 1 (Rs [Mv 18 0, Mv 19 5, Ia 20 2 18 19, La 21 2 20, Mv 22 1, Ca 23 2 [21, 22], Mv 1 23]
 (Rs [Mv 24 1, Bk 25 .lss 24 0]
 (Ct 25 (Rs [Ki 4 (-1)]
 .ret)
 .skip))))
 (.reg [Mv 16 5, Bk 17 .add 16 1, Mv 5 17]))))))
 (Rs [Mv 26 1, Mv 4 26]
 .ret)))))
def if_cq9 : IFn := ⟨27, [.inl 4], ib_cq9, lcF []⟩
def ks_cq9 : List (List (Option Nat)) := [[none]]
def gl_cq9_1 : List Tag → Nat → Int → Option (Int ⊕ Int)
 | [], k18, v16 => some (.inr v16)
 | x19 :: l20, k18, v16 => (gf_cp9 x19 v16).bind fun x27 => if (decide (x27 < 0)) = true then (some (.inl ((-1)))) else (gl_cq9_1 l20 (k18 + 1) x27)
def gf_cq9 (a0 : (List Tag)) (a1 : Int) : Option Int := if (decide ((IntKind.i64.wrap (a1 - (a0.length : Int))) < 0)) = true then (some ((-1))) else (if fits a0.length = true then ((gl_cq9_1 a0 0 (IntKind.i64.wrap (a1 - (a0.length : Int)))).bind fun q => match q with | .inl r => some r | .inr q15 => some (q15)) else none)
def c_cq9 : Con := ⟨(List Tag) × Int, Int, 4, fun a => [.ro (List.map eTag a.1), .v (.int .i64 a.2)], fun a => gf_cq9 a.1 a.2, fun a r => ⟨[(false, [.v (.int .i64 r)])], []⟩, fun a => []⟩
/-! laws.szFeat -/
def ib_ch9 : IC :=
 (Rs [Io 2 (.box 372 [none, none, some 338, some 354] (.t 0)), Ki 4 0]
 (Rs [Mv 5 1, Fa 6 0 2, Ld 7 1 6, Io 8 (.len true (.t 7)), Bb 9 .sub 5 8, Mv 1 9]
 (.seq (Rs [Mv 10 1, Bk 11 .lss 10 0]
 (Ct 11 (Rs [Ki 4 (-1)]
 .ret)
 .skip))
 (Rs [Fa 12 1 2, La 13 2 12, Mv 14 1, Ca 15 3 [13, 14], Mv 1 15]
 (.seq (Rs [Mv 16 1, Bk 17 .lss 16 0]
 (Ct 17 (Rs [Ki 4 (-1)]
 .ret)
 .skip))
 (Rs [Fa 18 3 2, Ld 19 1 18, Mv 20 1, Ca 21 4 [19, 20], Mv 1 21]
 (.seq (Rs [Mv 22 1, Bk 23 .lss 22 0]
 (Ct 23 (Rs [Ki 4 (-1)]
 .ret)
 .skip))
 (Rs [Mv 24 1, Mv 4 24]
 .ret))))))))
def if_ch9 : IFn := ⟨25, [.inl 4], ib_ch9, lcF []⟩
def ks_ch9 : List (List (Option Nat)) := [[none]]
def gf_ch9 (a0 : Feat) (a1 : Int) : Option Int := if (decide ((IntKind.i64.wrap (a1 - (a0.id.size : Int))) < 0)) = true then (some ((-1))) else ((gf_co9 a0.shape (IntKind.i64.wrap (a1 - (a0.id.size : Int)))).bind fun x2 => if (decide (x2 < 0)) = true then (some ((-1))) else ((gf_cq9 a0.tags x2).bind fun x4 => if (decide (x4 < 0)) = true then (some ((-1))) else (some (x4))))
def c_ch9 : Con := ⟨Feat × Int, Int, 5, fun a => [.agg [.v (.string a.1.id), .v (.int .i64 a.1.shape.kind), .ro (List.map ePt a.1.shape.pts), .ro (List.map eTag a.1.tags)], .v (.int .i64 a.2)], fun a => gf_ch9 a.1 a.2, fun a r => ⟨[(false, [.v (.int .i64 r)])], []⟩, fun a => []⟩
/-! laws.szIntS -/
def ib_cl9 : IC :=
 (Rs [Ki 4 0]
 (Rs [Mv 5 1, Mv 6 0, Ln 7 6, Bb 8 .sub 5 7, Mv 1 8]
 (.seq (Rs [Mv 9 1, Bk 10 .lss 9 0]
 (Ct 10 (Rs [Ki 4 (-1)]
 .ret)
 .skip))
 (Rs [Mv 11 1, Mv 4 11]
 .ret))))
def if_cl9 : IFn := ⟨12, [.inl 4], ib_cl9, lcF []⟩
def ks_cl9 : List (List (Option Nat)) := [[none]]
def gf_cl9 (a0 : (List Int)) (a1 : Int) : Option Int := if (decide ((IntKind.i64.wrap (a1 - (a0.length : Int))) < 0)) = true then (some ((-1))) else (some ((IntKind.i64.wrap (a1 - (a0.length : Int)))))
def c_cl9 : Con := ⟨(List Int) × Int, Int, 6, fun a => [.ro (List.map eInt a.1), .v (.int .i64 a.2)], fun a => gf_cl9 a.1 a.2, fun a r => ⟨[(false, [.v (.int .i64 r)])], []⟩, fun a => []⟩
/-! laws.szFeatS -/
def ib_ci9 : IC :=
 (Rs [Ki 4 0]
 (Rs [Mv 6 1, Mv 7 0, Ln 8 7, Bb 9 .sub 6 8, Mv 1 9]
 (.seq (Rs [Mv 10 1, Bk 11 .lss 10 0]
 (Ct 11 (Rs [Ki 4 (-1)]
 .ret)
 .skip))
 (.seq (Rs [Ki 5 0]
 (blkC 0 (.loop (.seq (Rs [Mv 12 5, Mv 13 0, Ln 14 13, Bb 15 .lss 12 14]
 (Ct 15 .skip
 (.exit 0)))
 (.seq (.block 1 (Rs [Mv 18 0, Mv 19 5, Ia 20 4 18 19, La 21 4 20, Mv 22 1, Ca 23 5 [21, 22], Mv 1 23]
 (Rs [Mv 24 1, Bk 25 .lss 24 0]
 (Ct 25 (Rs [Ki 4 (-1)]
 .ret)
 .skip))))
 (.reg [Mv 16 5, Bk 17 .add 16 1, Mv 5 17]))))))
 (Rs [Mv 26 1, Mv 4 26]
 .ret)))))
def if_ci9 : IFn := ⟨27, [.inl 4], ib_ci9, lcF []⟩
def ks_ci9 : List (List (Option Nat)) := [[none]]
def gl_ci9_1 : List Feat → Nat → Int → Option (Int ⊕ Int)
 | [], k18, v16 => some (.inr v16)
 | x19 :: l20, k18, v16 => (gf_ch9 x19 v16).bind fun x27 => if (decide (x27 < 0)) = true then (some (.inl ((-1)))) else (gl_ci9_1 l20 (k18 + 1) x27)
def gf_ci9 (a0 : (List Feat)) (a1 : Int) : Option Int := if (decide ((IntKind.i64.wrap (a1 - (a0.length : Int))) < 0)) = true then (some ((-1))) else (if fits a0.length = true then ((gl_ci9_1 a0 0 (IntKind.i64.wrap (a1 - (a0.length : Int)))).bind fun q => match q with | .inl r => some r | .inr q15 => some (q15)) else none)
def c_ci9 : Con := ⟨(List Feat) × Int, Int, 7, fun a => [.ro (List.map (eFeat false) a.1), .v (.int .i64 a.2)], fun a => gf_ci9 a.1 a.2, fun a r => ⟨[(false, [.v (.int .i64 r)])], []⟩, fun a => []⟩
/-! laws.szCommit -/
def ib_cf9 : IC :=
 (Rs [Io 2 (.box 387 [some 17, some 372, none] (.t 0)), Ki 4 0]
 (Rs [Fa 5 0 2, Ld 6 1 5, Mv 7 1, Ca 8 6 [6, 7], Mv 1 8]
 (.seq (Rs [Mv 9 1, Bk 10 .lss 9 0]
 (Ct 10 (Rs [Ki 4 (-1)]
 .ret)
 .skip))
 (Rs [Fa 11 1 2, Ld 12 1 11, Mv 13 1, Ca 14 7 [12, 13], Mv 1 14]
 (.seq (Rs [Mv 15 1, Bk 16 .lss 15 0]
 (Ct 16 (Rs [Ki 4 (-1)]
 .ret)
 .skip))
 (Rs [Mv 17 1, Fa 18 2 2, Ld 19 1 18, Io 20 (.len true (.t 19)), Bb 21 .sub 17 20, Mv 1 21]
 (.seq (Rs [Mv 22 1, Bk 23 .lss 22 0]
 (Ct 23 (Rs [Ki 4 (-1)]
 .ret)
 .skip))
 (Rs [Mv 24 1, Mv 4 24]
 .ret))))))))
def if_cf9 : IFn := ⟨25, [.inl 4], ib_cf9, lcF []⟩
def ks_cf9 : List (List (Option Nat)) := [[none]]
def gf_cf9 (a0 : Commit) (a1 : Int) : Option Int := (gf_cl9 a0.up a1).bind fun x2 => if (decide (x2 < 0)) = true then (some ((-1))) else ((gf_ci9 a0.sheet x2).bind fun x4 => if (decide (x4 < 0)) = true then (some ((-1))) else (if (decide ((IntKind.i64.wrap (x4 - (a0.note.size : Int))) < 0)) = true then (some ((-1))) else (some ((IntKind.i64.wrap (x4 - (a0.note.size : Int)))))))
def c_cf9 : Con := ⟨Commit × Int, Int, 8, fun a => [.agg [.ro (List.map eInt a.1.up), .ro (List.map (eFeat false) a.1.sheet), .v (.string a.1.note)], .v (.int .i64 a.2)], fun a => gf_cf9 a.1 a.2, fun a r => ⟨[(false, [.v (.int .i64 r)])], []⟩, fun a => []⟩
/-! laws.szHead -/
def ib_cj9 : IC :=
 (Rs [Io 2 (.box 402 [none, none] (.t 0)), Ki 4 0]
 (Rs [Mv 5 1, Fa 6 0 2, Ld 7 1 6, Io 8 (.len true (.t 7)), Bb 9 .sub 5 8, Mv 1 9]
 (.seq (Rs [Mv 10 1, Bk 11 .lss 10 0]
 (Ct 11 (Rs [Ki 4 (-1)]
 .ret)
 .skip))
 (Rs [Mv 12 1, Mv 4 12]
 .ret))))
def if_cj9 : IFn := ⟨13, [.inl 4], ib_cj9, lcF []⟩
def ks_cj9 : List (List (Option Nat)) := [[none]]
def gf_cj9 (a0 : Head) (a1 : Int) : Option Int := if (decide ((IntKind.i64.wrap (a1 - (a0.name.size : Int))) < 0)) = true then (some ((-1))) else (some ((IntKind.i64.wrap (a1 - (a0.name.size : Int)))))
def c_cj9 : Con := ⟨Head × Int, Int, 9, fun a => [.agg [.v (.string a.1.name), .v (.int .i64 a.1.at_)], .v (.int .i64 a.2)], fun a => gf_cj9 a.1 a.2, fun a r => ⟨[(false, [.v (.int .i64 r)])], []⟩, fun a => []⟩
/-! laws.szCommitS -/
def ib_cg9 : IC :=
 (Rs [Ki 4 0]
 (Rs [Mv 6 1, Mv 7 0, Ln 8 7, Bb 9 .sub 6 8, Mv 1 9]
 (.seq (Rs [Mv 10 1, Bk 11 .lss 10 0]
 (Ct 11 (Rs [Ki 4 (-1)]
 .ret)
 .skip))
 (.seq (Rs [Ki 5 0]
 (blkC 0 (.loop (.seq (Rs [Mv 12 5, Mv 13 0, Ln 14 13, Bb 15 .lss 12 14]
 (Ct 15 .skip
 (.exit 0)))
 (.seq (.block 1 (Rs [Mv 18 0, Mv 19 5, Ia 20 3 18 19, La 21 3 20, Mv 22 1, Ca 23 8 [21, 22], Mv 1 23]
 (Rs [Mv 24 1, Bk 25 .lss 24 0]
 (Ct 25 (Rs [Ki 4 (-1)]
 .ret)
 .skip))))
 (.reg [Mv 16 5, Bk 17 .add 16 1, Mv 5 17]))))))
 (Rs [Mv 26 1, Mv 4 26]
 .ret)))))
def if_cg9 : IFn := ⟨27, [.inl 4], ib_cg9, lcF []⟩
def ks_cg9 : List (List (Option Nat)) := [[none]]
def gl_cg9_1 : List Commit → Nat → Int → Option (Int ⊕ Int)
 | [], k18, v16 => some (.inr v16)
 | x19 :: l20, k18, v16 => (gf_cf9 x19 v16).bind fun x27 => if (decide (x27 < 0)) = true then (some (.inl ((-1)))) else (gl_cg9_1 l20 (k18 + 1) x27)
def gf_cg9 (a0 : (List Commit)) (a1 : Int) : Option Int := if (decide ((IntKind.i64.wrap (a1 - (a0.length : Int))) < 0)) = true then (some ((-1))) else (if fits a0.length = true then ((gl_cg9_1 a0 0 (IntKind.i64.wrap (a1 - (a0.length : Int)))).bind fun q => match q with | .inl r => some r | .inr q15 => some (q15)) else none)
def c_cg9 : Con := ⟨(List Commit) × Int, Int, 10, fun a => [.ro (List.map (eCommit false) a.1), .v (.int .i64 a.2)], fun a => gf_cg9 a.1 a.2, fun a r => ⟨[(false, [.v (.int .i64 r)])], []⟩, fun a => []⟩
/-! laws.szHeadS -/
def ib_ck9 : IC :=
 (Rs [Ki 4 0]
 (Rs [Mv 6 1, Mv 7 0, Ln 8 7, Bb 9 .sub 6 8, Mv 1 9]
 (.seq (Rs [Mv 10 1, Bk 11 .lss 10 0]
 (Ct 11 (Rs [Ki 4 (-1)]
 .ret)
 .skip))
 (.seq (Rs [Ki 5 0]
 (blkC 0 (.loop (.seq (Rs [Mv 12 5, Mv 13 0, Ln 14 13, Bb 15 .lss 12 14]
 (Ct 15 .skip
 (.exit 0)))
 (.seq (.block 1 (Rs [Mv 18 0, Mv 19 5, Ia 20 2 18 19, La 21 2 20, Mv 22 1, Ca 23 9 [21, 22], Mv 1 23]
 (Rs [Mv 24 1, Bk 25 .lss 24 0]
 (Ct 25 (Rs [Ki 4 (-1)]
 .ret)
 .skip))))
 (.reg [Mv 16 5, Bk 17 .add 16 1, Mv 5 17]))))))
 (Rs [Mv 26 1, Mv 4 26]
 .ret)))))
def if_ck9 : IFn := ⟨27, [.inl 4], ib_ck9, lcF []⟩
def ks_ck9 : List (List (Option Nat)) := [[none]]
def gl_ck9_1 : List Head → Nat → Int → Option (Int ⊕ Int)
 | [], k18, v16 => some (.inr v16)
 | x19 :: l20, k18, v16 => (gf_cj9 x19 v16).bind fun x27 => if (decide (x27 < 0)) = true then (some (.inl ((-1)))) else (gl_ck9_1 l20 (k18 + 1) x27)
def gf_ck9 (a0 : (List Head)) (a1 : Int) : Option Int := if (decide ((IntKind.i64.wrap (a1 - (a0.length : Int))) < 0)) = true then (some ((-1))) else (if fits a0.length = true then ((gl_ck9_1 a0 0 (IntKind.i64.wrap (a1 - (a0.length : Int)))).bind fun q => match q with | .inl r => some r | .inr q15 => some (q15)) else none)
def c_ck9 : Con := ⟨(List Head) × Int, Int, 11, fun a => [.ro (List.map eHead a.1), .v (.int .i64 a.2)], fun a => gf_ck9 a.1 a.2, fun a r => ⟨[(false, [.v (.int .i64 r)])], []⟩, fun a => []⟩
/-! spec.l1Num -/
def ib_eg9 : IC :=
 (Rs [Kb 2 false]
 (Rs [Mv 3 0, Bk 4 .geq 3 (-1000), Mv 5 4, Gt 5 (Mv 6 0), Gt 5 (Bk 7 .leq 6 1000), Io 8 (.pick (.t 5) (.t 7) (.c (.bool false))), Mv 2 8]
 .ret))
def if_eg9 : IFn := ⟨9, [.inl 2], ib_eg9, lcF []⟩
def ks_eg9 : List (List (Option Nat)) := [[none]]
def gf_eg9 (a0 : Int) : Option Bool := if (decide (a0 ≥ (-1000))) = true then (some ((decide (a0 ≤ 1000)))) else (some (false))
def c_eg9 : Con := ⟨Int, Bool, 12, fun a => [.v (.int .i64 a)], fun a => gf_eg9 a, fun a r => ⟨[(false, [.v (.bool r)])], []⟩, fun a => []⟩
/-! spec.l1Pts -/
def ib_eh9 : IC :=
 (Rs [Kb 2 false]
 (.seq (Rs [Ki 3 0]
 (blkC 0 (.loop (.seq (Rs [Mv 4 3, Mv 5 0, Ln 6 5, Bb 7 .lss 4 6]
 (Ct 7 .skip
 (.exit 0)))
 (.seq (.block 1 (.seq (.drw [Mv 10 0, Mv 11 3, Ia 12 2 10 11, Fa 13 0 12, Ld 14 1 13, Ca 15 12 [14], Nt 16 15, Mv 17 16, Gf 17 (Mv 18 0), Gf 17 (Mv 19 3), Gf 17 (Ia 20 2 18 19), Gf 17 (Fa 21 1 20), Gf 17 (Ld 22 1 21), Gf 17 (Ca 23 12 [22]), Gf 17 (Nt 24 23), Pk 25 17 24, Mv 26 25, Gf 26 (Mv 27 3), Gf 26 (Bk 28 .gtr 27 0), Gf 26 (Mv 29 28), Gt 29 (Mv 30 0), Gt 29 (Mv 31 3), Gt 29 (Ia 32 2 30 31), Gt 29 (La 33 2 32), Gt 29 (Mv 34 0), Gt 29 (Mv 35 3), Gt 29 (Bk 36 .sub 35 1), Gt 29 (Ia 37 2 34 36), Gt 29 (La 38 2 37), Gt 29 (Io 39 (.eqs false true [0, 0] (.t 33) (.t 38))), Gf 26 (Io 40 (.pick (.t 29) (.t 39) (.c (.bool false)))), Pk 41 26 40] [(23, 28)])
 (Ct 41 (Rs [Kb 2 false]
 .ret)
 .skip)))
 (.reg [Mv 8 3, Bk 9 .add 8 1, Mv 3 9]))))))
 (Rs [Mv 42 0, Ln 43 42, Bk 44 .leq 43 6, Mv 2 44]
 .ret)))
def if_eh9 : IFn := ⟨45, [.inl 2], ib_eh9, lcF []⟩
def ks_eh9 : List (List (Option Nat)) := [[none]]
def gl_eh9_1 (a0 : (List Pt)) : List Pt → Nat → Option (Bool ⊕ Unit)
 | [], k26 => some (.inr ())
 | x27 :: l28, k26 => (gf_eg9 x27.x).bind fun x35 => if (!x35) = true then (some (.inl (false))) else ((gf_eg9 x27.y).bind fun x37 => if (!x37) = true then (some (.inl (false))) else (if (decide ((k26 : Int) > 0)) = true then ((idx a0 (IntKind.i64.wrap ((k26 : Int) - 1))).bind fun x39 => if ((x27.x == x39.x) && ((x27.y == x39.y) && true)) = true then (some (.inl (false))) else (gl_eh9_1 a0 l28 (k26 + 1) )) else (gl_eh9_1 a0 l28 (k26 + 1) )))
def gf_eh9 (a0 : (List Pt)) : Option Bool := if fits a0.length = true then ((gl_eh9_1 a0 a0 0 ).bind fun q => match q with | .inl r => some r | .inr q24 => some ((decide ((a0.length : Int) ≤ 6)))) else none
def c_eh9 : Con := ⟨(List Pt), Bool, 13, fun a => [.ro (List.map ePt a)], fun a => gf_eh9 a, fun a r => ⟨[(false, [.v (.bool r)])], []⟩, fun a => []⟩
/-! spec.WordOk -/
def ib_eb9 : IC :=
 (Rs [Kb 2 false]
 (.seq (Rs [Ki 3 0]
 (blkC 0 (.loop (.seq (Rs [Mv 4 3, Mv 5 0, Io 6 (.len true (.t 5)), Bb 7 .lss 4 6]
 (Ct 7 .skip
 (.exit 0)))
 (.seq (.block 1 (Rs [Mv 10 0, Mv 11 3, Io 12 (.sidx (.t 10) (.t 11)), Io 13 (.bin .lss (.t 12) (.c (.int .u8 97))), Mv 14 13, Gf 14 (Mv 15 0), Gf 14 (Mv 16 3), Gf 14 (Io 17 (.sidx (.t 15) (.t 16))), Gf 14 (Io 18 (.bin .gtr (.t 17) (.c (.int .u8 122)))), Pk 19 14 18]
 (Ct 19 (Rs [Kb 2 false]
 .ret)
 .skip)))
 (.reg [Mv 8 3, Bk 9 .add 8 1, Mv 3 9]))))))
 (Rs [Mv 20 0, Io 21 (.len true (.t 20)), Bk 22 .geq 21 1, Mv 23 22, Gt 23 (Mv 24 0), Gt 23 (Io 25 (.len true (.t 24))), Gt 23 (Bk 26 .leq 25 6), Io 27 (.pick (.t 23) (.t 26) (.c (.bool false))), Mv 2 27]
 .ret)))
def if_eb9 : IFn := ⟨28, [.inl 2], ib_eb9, lcF []⟩
def ks_eb9 : List (List (Option Nat)) := [[none]]
def gl_eb9_1 : List UInt8 → Nat → Option (Bool ⊕ Unit)
 | [], k10 => some (.inr ())
 | x11 :: l12, k10 => if (decide ((x11.toNat : Int) < 97)) = true then (some (.inl (false))) else (if (decide ((x11.toNat : Int) > 122)) = true then (some (.inl (false))) else (gl_eb9_1 l12 (k10 + 1) ))
def gf_eb9 (a0 : Str) : Option Bool := if fits a0.size = true then ((gl_eb9_1 a0.data.toList 0 ).bind fun q => match q with | .inl r => some r | .inr q8 => if (decide ((a0.size : Int) ≥ 1)) = true then (some ((decide ((a0.size : Int) ≤ 6)))) else (some (false))) else none
def c_eb9 : Con := ⟨Str, Bool, 14, fun a => [.v (.string a)], fun a => gf_eb9 a, fun a r => ⟨[(false, [.v (.bool r)])], []⟩, fun a => []⟩
/-! spec.ShapeOk -/
def ib_dw9 : IC :=
 (Rs [Io 1 (.box 226 [none, some 66] (.t 0)), Kb 2 false]
 (Rs [Fa 4 1 1, Ld 5 1 4, Ln 6 5, Mv 3 6]
 (.seq (Rs [Fa 7 1 1, Ld 8 1 7, Ca 9 13 [8], Nt 10 9]
 (Ct 10 (Rs [Kb 2 false]
 .ret)
 .skip))
 (.seq (Rs [Fa 11 0 1, Ld 12 1 11]
 (.block 0 (Rs [Bk 14 .eql 12 1, Mv 13 14]
 (Ct 13 (Rs [Mv 15 3, Bk 16 .eql 15 1, Mv 2 16]
 .ret)
 (Rs [Bk 18 .eql 12 2, Mv 17 18]
 (Ct 17 (Rs [Mv 19 3, Bk 20 .geq 19 2, Mv 2 20]
 .ret)
 (Rs [Bk 22 .eql 12 3, Mv 21 22]
 (Ct 21 (.seq (.drw [Mv 23 3, Bk 24 .geq 23 3, Mv 25 24, Gt 25 (Fa 26 1 1), Gt 25 (Ld 27 1 26), Gt 25 (Io 28 (.iaddr 2 (.t 27) (.c (.int .i64 0)))), Gt 25 (La 29 2 28), Gt 25 (Fa 30 1 1), Gt 25 (Ld 31 1 30), Gt 25 (Mv 32 3), Gt 25 (Bk 33 .sub 32 1), Gt 25 (Ia 34 2 31 33), Gt 25 (La 35 2 34), Gt 25 (Io 36 (.eqs true true [0, 0] (.t 29) (.t 35))), Io 37 (.pick (.t 25) (.t 36) (.c (.bool false))), Mv 2 37] [(4, 8), (6, 8), (4, 12), (6, 12)])
 .ret)
 .skip))))))))
 (Rs [Kb 2 false]
 .ret)))))
def if_dw9 : IFn := ⟨38, [.inl 2], ib_dw9, lcF []⟩
def ks_dw9 : List (List (Option Nat)) := [[none]]
def gf_dw9 (a0 : Shape) : Option Bool := (gf_eh9 a0.pts).bind fun x2 => if (!x2) = true then (some (false)) else (if (a0.kind == 1) = true then (some (((a0.pts.length : Int) == 1))) else (if (a0.kind == 2) = true then (some ((decide ((a0.pts.length : Int) ≥ 2)))) else (if (a0.kind == 3) = true then (if (decide ((a0.pts.length : Int) ≥ 3)) = true then ((idx a0.pts 0).bind fun x4 => (idx a0.pts (IntKind.i64.wrap ((a0.pts.length : Int) - 1))).bind fun x6 => some ((!((x4.x == x6.x) && ((x4.y == x6.y) && true))))) else (some (false))) else (some (false)))))
def c_dw9 : Con := ⟨Shape, Bool, 15, fun a => [.agg [.v (.int .i64 a.kind), .ro (List.map ePt a.pts)]], fun a => gf_dw9 a, fun a r => ⟨[(false, [.v (.bool r)])], []⟩, fun a => []⟩
/-! spec.l2Tags -/
def ib_el9 : IC :=
 (Rs [Kb 2 false]
 (.seq (Rs [Ki 3 0]
 (blkC 0 (.loop (.seq (Rs [Mv 4 3, Mv 5 0, Ln 6 5, Bb 7 .lss 4 6]
 (Ct 7 .skip
 (.exit 0)))
 (.seq (.block 1 (.seq (.drw [Mv 10 0, Mv 11 3, Ia 12 2 10 11, Fa 13 0 12, Ld 14 1 13, Ca 15 14 [14], Nt 16 15, Mv 17 16, Gf 17 (Mv 18 0), Gf 17 (Mv 19 3), Gf 17 (Ia 20 2 18 19), Gf 17 (Fa 21 1 20), Gf 17 (Ld 22 1 21), Gf 17 (Ca 23 14 [22]), Gf 17 (Nt 24 23), Pk 25 17 24, Mv 26 25, Gf 26 (Mv 27 3), Gf 26 (Bk 28 .gtr 27 0), Gf 26 (Mv 29 28), Gt 29 (Mv 30 0), Gt 29 (Mv 31 3), Gt 29 (Ia 32 2 30 31), Gt 29 (Fa 33 0 32), Gt 29 (Ld 34 1 33), Gt 29 (Mv 35 0), Gt 29 (Mv 36 3), Gt 29 (Bk 37 .sub 36 1), Gt 29 (Ia 38 2 35 37), Gt 29 (Fa 39 0 38), Gt 29 (Ld 40 1 39), Gt 29 (Bb 41 .leq 34 40), Gf 26 (Io 42 (.pick (.t 29) (.t 41) (.c (.bool false)))), Pk 43 26 42] [(24, 30)])
 (Ct 43 (Rs [Kb 2 false]
 .ret)
 .skip)))
 (.reg [Mv 8 3, Bk 9 .add 8 1, Mv 3 9]))))))
 (Rs [Mv 44 0, Ln 45 44, Bk 46 .leq 45 4, Mv 2 46]
 .ret)))
def if_el9 : IFn := ⟨47, [.inl 2], ib_el9, lcF []⟩
def ks_el9 : List (List (Option Nat)) := [[none]]
def gl_el9_1 (a0 : (List Tag)) : List Tag → Nat → Option (Bool ⊕ Unit)
 | [], k26 => some (.inr ())
 | x27 :: l28, k26 => (gf_eb9 x27.key).bind fun x35 => if (!x35) = true then (some (.inl (false))) else ((gf_eb9 x27.val).bind fun x37 => if (!x37) = true then (some (.inl (false))) else (if (decide ((k26 : Int) > 0)) = true then ((idx a0 (IntKind.i64.wrap ((k26 : Int) - 1))).bind fun x39 => if (slt x27.key x39.key || seq x27.key x39.key) = true then (some (.inl (false))) else (gl_el9_1 a0 l28 (k26 + 1) )) else (gl_el9_1 a0 l28 (k26 + 1) )))
def gf_el9 (a0 : (List Tag)) : Option Bool := if fits a0.length = true then ((gl_el9_1 a0 a0 0 ).bind fun q => match q with | .inl r => some r | .inr q24 => some ((decide ((a0.length : Int) ≤ 4)))) else none
def c_el9 : Con := ⟨(List Tag), Bool, 16, fun a => [.ro (List.map eTag a)], fun a => gf_el9 a, fun a r => ⟨[(false, [.v (.bool r)])], []⟩, fun a => []⟩
/-! spec.FeatOk -/
def ib_dr9 : IC :=
 (Rs [Io 1 (.box 100 [none, none, some 66, some 82] (.t 0)), Kb 2 false]
 (Rs [Fa 3 0 1, Ld 4 1 3, Ca 5 14 [4], Mv 6 5, Gt 6 (Fa 7 1 1), Gt 6 (La 8 2 7), Gt 6 (Ca 9 15 [8]), Io 10 (.pick (.t 6) (.t 9) (.c (.bool false))), Mv 11 10, Gt 11 (Fa 12 3 1), Gt 11 (Ld 13 1 12), Gt 11 (Ca 14 16 [13]), Io 15 (.pick (.t 11) (.t 14) (.c (.bool false))), Mv 2 15]
 .ret))
def if_dr9 : IFn := ⟨16, [.inl 2], ib_dr9, lcF []⟩
def ks_dr9 : List (List (Option Nat)) := [[none]]
def gf_dr9 (a0 : Feat) : Option Bool := (gf_eb9 a0.id).bind fun x2 => if x2 = true then ((gf_dw9 a0.shape).bind fun x4 => if x4 = true then ((gf_el9 a0.tags).bind fun x6 => some (x6)) else (some (false))) else (some (false))
def c_dr9 : Con := ⟨Feat, Bool, 17, fun a => [.agg [.v (.string a.id), .v (.int .i64 a.shape.kind), .ro (List.map ePt a.shape.pts), .ro (List.map eTag a.tags)]], fun a => gf_dr9 a, fun a r => ⟨[(false, [.v (.bool r)])], []⟩, fun a => []⟩
/-! spec.l1Same -/
def ib_ei9 : IC :=
 (Rs [Kb 4 false]
 (.seq (Rs [Mv 6 0, Ln 7 6, Mv 8 1, Ln 9 8, Bb 10 .neq 7 9]
 (Ct 10 (Rs [Kb 4 false]
 .ret)
 .skip))
 (.seq (Rs [Ki 5 0]
 (blkC 0 (.loop (.seq (Rs [Mv 11 5, Mv 12 0, Ln 13 12, Bb 14 .lss 11 13]
 (Ct 14 .skip
 (.exit 0)))
 (.seq (.block 1 (.seq (.drw [Mv 17 0, Mv 18 5, Ia 19 2 17 18, La 20 2 19, Mv 21 1, Mv 22 5, Ia 23 2 21 22, La 24 2 23, Io 25 (.eqs true true [0, 0] (.t 20) (.t 24))] [(3, 7)])
 (Ct 25 (Rs [Kb 4 false]
 .ret)
 .skip)))
 (.reg [Mv 15 5, Bk 16 .add 15 1, Mv 5 16]))))))
 (Rs [Kb 4 true]
 .ret))))
def if_ei9 : IFn := ⟨26, [.inl 4], ib_ei9, lcF []⟩
def ks_ei9 : List (List (Option Nat)) := [[none]]
def gl_ei9_1 (a1 : (List Pt)) : List Pt → Nat → Option (Bool ⊕ Unit)
 | [], k16 => some (.inr ())
 | x17 :: l18, k16 => (idx a1 (k16 : Int)).bind fun x25 => if (!((x17.x == x25.x) && ((x17.y == x25.y) && true))) = true then (some (.inl (false))) else (gl_ei9_1 a1 l18 (k16 + 1) )
def gf_ei9 (a0 : (List Pt)) (a1 : (List Pt)) : Option Bool := if ((a0.length : Int) != (a1.length : Int)) = true then (some (false)) else (if fits a0.length = true then ((gl_ei9_1 a1 a0 0 ).bind fun q => match q with | .inl r => some r | .inr q14 => some (true)) else none)
def c_ei9 : Con := ⟨(List Pt) × (List Pt), Bool, 18, fun a => [.ro (List.map ePt a.1), .ro (List.map ePt a.2)], fun a => gf_ei9 a.1 a.2, fun a r => ⟨[(false, [.v (.bool r)])], []⟩, fun a => []⟩
/-! spec.ShapeSame -/
def ib_dx9 : IC :=
 (Rs [Io 2 (.box 226 [none, some 66] (.t 0)), Io 3 (.box 226 [none, some 66] (.t 1)), Kb 4 false]
 (Rs [Fa 5 0 2, Ld 6 1 5, Fa 7 0 3, Ld 8 1 7, Bb 9 .eql 6 8, Mv 10 9, Gt 10 (Fa 11 1 2), Gt 10 (Ld 12 1 11), Gt 10 (Fa 13 1 3), Gt 10 (Ld 14 1 13), Gt 10 (Ca 15 18 [12, 14]), Io 16 (.pick (.t 10) (.t 15) (.c (.bool false))), Mv 4 16]
 .ret))
def if_dx9 : IFn := ⟨17, [.inl 4], ib_dx9, lcF []⟩
def ks_dx9 : List (List (Option Nat)) := [[none]]
def gf_dx9 (a0 : Shape) (a1 : Shape) : Option Bool := if (a0.kind == a1.kind) = true then ((gf_ei9 a0.pts a1.pts).bind fun x3 => some (x3)) else (some (false))
def c_dx9 : Con := ⟨Shape × Shape, Bool, 19, fun a => [.agg [.v (.int .i64 a.1.kind), .ro (List.map ePt a.1.pts)], .agg [.v (.int .i64 a.2.kind), .ro (List.map ePt a.2.pts)]], fun a => gf_dx9 a.1 a.2, fun a r => ⟨[(false, [.v (.bool r)])], []⟩, fun a => []⟩
/-! spec.l2Same -/
def ib_ek9 : IC :=
 (Rs [Kb 4 false]
 (.seq (Rs [Mv 6 0, Ln 7 6, Mv 8 1, Ln 9 8, Bb 10 .neq 7 9]
 (Ct 10 (Rs [Kb 4 false]
 .ret)
 .skip))
 (.seq (Rs [Ki 5 0]
 (blkC 0 (.loop (.seq (Rs [Mv 11 5, Mv 12 0, Ln 13 12, Bb 14 .lss 11 13]
 (Ct 14 .skip
 (.exit 0)))
 (.seq (.block 1 (.seq (.drw [Mv 17 0, Mv 18 5, Ia 19 2 17 18, La 20 2 19, Mv 21 1, Mv 22 5, Ia 23 2 21 22, La 24 2 23, Io 25 (.eqs true true [2, 2] (.t 20) (.t 24))] [(3, 7)])
 (Ct 25 (Rs [Kb 4 false]
 .ret)
 .skip)))
 (.reg [Mv 15 5, Bk 16 .add 15 1, Mv 5 16]))))))
 (Rs [Kb 4 true]
 .ret))))
def if_ek9 : IFn := ⟨26, [.inl 4], ib_ek9, lcF []⟩
def ks_ek9 : List (List (Option Nat)) := [[none]]
def gl_ek9_1 (a1 : (List Tag)) : List Tag → Nat → Option (Bool ⊕ Unit)
 | [], k16 => some (.inr ())
 | x17 :: l18, k16 => (idx a1 (k16 : Int)).bind fun x25 => if (!((x17.key == x25.key) && ((x17.val == x25.val) && true))) = true then (some (.inl (false))) else (gl_ek9_1 a1 l18 (k16 + 1) )
def gf_ek9 (a0 : (List Tag)) (a1 : (List Tag)) : Option Bool := if ((a0.length : Int) != (a1.length : Int)) = true then (some (false)) else (if fits a0.length = true then ((gl_ek9_1 a1 a0 0 ).bind fun q => match q with | .inl r => some r | .inr q14 => some (true)) else none)
def c_ek9 : Con := ⟨(List Tag) × (List Tag), Bool, 20, fun a => [.ro (List.map eTag a.1), .ro (List.map eTag a.2)], fun a => gf_ek9 a.1 a.2, fun a r => ⟨[(false, [.v (.bool r)])], []⟩, fun a => []⟩
/-! spec.FeatSame -/
def ib_ds9 : IC :=
 (Rs [Io 2 (.box 100 [none, none, some 66, some 82] (.t 0)), Io 3 (.box 100 [none, none, some 66, some 82] (.t 1)), Kb 4 false]
 (Rs [Fa 5 0 2, Ld 6 1 5, Fa 7 0 3, Ld 8 1 7, Bb 9 .eql 6 8, Mv 10 9, Gt 10 (Fa 11 1 2), Gt 10 (La 12 2 11), Gt 10 (Fa 13 1 3), Gt 10 (La 14 2 13), Gt 10 (Ca 15 19 [12, 14]), Io 16 (.pick (.t 10) (.t 15) (.c (.bool false))), Mv 17 16, Gt 17 (Fa 18 3 2), Gt 17 (Ld 19 1 18), Gt 17 (Fa 20 3 3), Gt 17 (Ld 21 1 20), Gt 17 (Ca 22 20 [19, 21]), Io 23 (.pick (.t 17) (.t 22) (.c (.bool false))), Mv 4 23]
 .ret))
def if_ds9 : IFn := ⟨24, [.inl 4], ib_ds9, lcF []⟩
def ks_ds9 : List (List (Option Nat)) := [[none]]
def gf_ds9 (a0 : Feat) (a1 : Feat) : Option Bool := if (seq a0.id a1.id) = true then ((gf_dx9 a0.shape a1.shape).bind fun x3 => if x3 = true then ((gf_ek9 a0.tags a1.tags).bind fun x5 => some (x5)) else (some (false))) else (some (false))
def c_ds9 : Con := ⟨Feat × Feat, Bool, 21, fun a => [.agg [.v (.string a.1.id), .v (.int .i64 a.1.shape.kind), .ro (List.map ePt a.1.shape.pts), .ro (List.map eTag a.1.tags)], .agg [.v (.string a.2.id), .v (.int .i64 a.2.shape.kind), .ro (List.map ePt a.2.shape.pts), .ro (List.map eTag a.2.tags)]], fun a => gf_ds9 a.1 a.2, fun a r => ⟨[(false, [.v (.bool r)])], []⟩, fun a => []⟩
/-! spec.l7Ints -/
def ib_er9 : IC :=
 (Rs [Kb 4 false]
 (.seq (Rs [Mv 6 0, Ln 7 6, Mv 8 1, Ln 9 8, Bb 10 .neq 7 9]
 (Ct 10 (Rs [Kb 4 false]
 .ret)
 .skip))
 (.seq (Rs [Ki 5 0]
 (blkC 0 (.loop (.seq (Rs [Mv 11 5, Mv 12 0, Ln 13 12, Bb 14 .lss 11 13]
 (Ct 14 .skip
 (.exit 0)))
 (.seq (.block 1 (.seq (.drw [Mv 17 0, Mv 18 5, Ia 19 1 17 18, Ld 20 1 19, Mv 21 1, Mv 22 5, Ia 23 1 21 22, Ld 24 1 23, Bb 25 .neq 20 24] [(3, 7)])
 (Ct 25 (Rs [Kb 4 false]
 .ret)
 .skip)))
 (.reg [Mv 15 5, Bk 16 .add 15 1, Mv 5 16]))))))
 (Rs [Kb 4 true]
 .ret))))
def if_er9 : IFn := ⟨26, [.inl 4], ib_er9, lcF []⟩
def ks_er9 : List (List (Option Nat)) := [[none]]
def gl_er9_1 (a1 : (List Int)) : List Int → Nat → Option (Bool ⊕ Unit)
 | [], k16 => some (.inr ())
 | x17 :: l18, k16 => (idx a1 (k16 : Int)).bind fun x25 => if (x17 != x25) = true then (some (.inl (false))) else (gl_er9_1 a1 l18 (k16 + 1) )
def gf_er9 (a0 : (List Int)) (a1 : (List Int)) : Option Bool := if ((a0.length : Int) != (a1.length : Int)) = true then (some (false)) else (if fits a0.length = true then ((gl_er9_1 a1 a0 0 ).bind fun q => match q with | .inl r => some r | .inr q14 => some (true)) else none)
def c_er9 : Con := ⟨(List Int) × (List Int), Bool, 22, fun a => [.ro (List.map eInt a.1), .ro (List.map eInt a.2)], fun a => gf_er9 a.1 a.2, fun a r => ⟨[(false, [.v (.bool r)])], []⟩, fun a => []⟩
/-! spec.SheetSame -/
def ib_dz9 : IC :=
 (Rs [Kb 4 false]
 (.seq (Rs [Mv 6 0, Ln 7 6, Mv 8 1, Ln 9 8, Bb 10 .neq 7 9]
 (Ct 10 (Rs [Kb 4 false]
 .ret)
 .skip))
 (.seq (Rs [Ki 5 0]
 (blkC 0 (.loop (.seq (Rs [Mv 11 5, Mv 12 0, Ln 13 12, Bb 14 .lss 11 13]
 (Ct 14 .skip
 (.exit 0)))
 (.seq (.block 1 (.seq (.drw [Mv 17 0, Mv 18 5, Ia 19 4 17 18, La 20 4 19, Mv 21 1, Mv 22 5, Ia 23 4 21 22, La 24 4 23, Ca 25 21 [20, 24], Nt 26 25] [(3, 7)])
 (Ct 26 (Rs [Kb 4 false]
 .ret)
 .skip)))
 (.reg [Mv 15 5, Bk 16 .add 15 1, Mv 5 16]))))))
 (Rs [Kb 4 true]
 .ret))))
def if_dz9 : IFn := ⟨27, [.inl 4], ib_dz9, lcF []⟩
def ks_dz9 : List (List (Option Nat)) := [[none]]
def gl_dz9_1 (a1 : (List Feat)) : List Feat → Nat → Option (Bool ⊕ Unit)
 | [], k22 => some (.inr ())
 | x23 :: l24, k22 => (idx a1 (k22 : Int)).bind fun x31 => (gf_ds9 x23 x31).bind fun x33 => if (!x33) = true then (some (.inl (false))) else (gl_dz9_1 a1 l24 (k22 + 1) )
def gf_dz9 (a0 : (List Feat)) (a1 : (List Feat)) : Option Bool := if ((a0.length : Int) != (a1.length : Int)) = true then (some (false)) else (if fits a0.length = true then ((gl_dz9_1 a1 a0 0 ).bind fun q => match q with | .inl r => some r | .inr q20 => some (true)) else none)
def c_dz9 : Con := ⟨(List Feat) × (List Feat), Bool, 23, fun a => [.ro (List.map (eFeat false) a.1), .ro (List.map (eFeat false) a.2)], fun a => gf_dz9 a.1 a.2, fun a r => ⟨[(false, [.v (.bool r)])], []⟩, fun a => []⟩
/-! spec.l7Same -/
def ib_eu9 : IC :=
 (Rs [Io 2 (.box 115 [some 17, some 100, none] (.t 0)), Io 3 (.box 115 [some 17, some 100, none] (.t 1)), Kb 4 false]
 (Rs [Fa 5 0 2, Ld 6 1 5, Fa 7 0 3, Ld 8 1 7, Ca 9 22 [6, 8], Mv 10 9, Gt 10 (Fa 11 1 2), Gt 10 (Ld 12 1 11), Gt 10 (Fa 13 1 3), Gt 10 (Ld 14 1 13), Gt 10 (Ca 15 23 [12, 14]), Io 16 (.pick (.t 10) (.t 15) (.c (.bool false))), Mv 17 16, Gt 17 (Fa 18 2 2), Gt 17 (Ld 19 1 18), Gt 17 (Fa 20 2 3), Gt 17 (Ld 21 1 20), Gt 17 (Bb 22 .eql 19 21), Io 23 (.pick (.t 17) (.t 22) (.c (.bool false))), Mv 4 23]
 .ret))
def if_eu9 : IFn := ⟨24, [.inl 4], ib_eu9, lcF []⟩
def ks_eu9 : List (List (Option Nat)) := [[none]]
def gf_eu9 (a0 : Commit) (a1 : Commit) : Option Bool := (gf_er9 a0.up a1.up).bind fun x3 => if x3 = true then ((gf_dz9 a0.sheet a1.sheet).bind fun x5 => if x5 = true then (some ((seq a0.note a1.note))) else (some (false))) else (some (false))
def c_eu9 : Con := ⟨Commit × Commit, Bool, 24, fun a => [.agg [.ro (List.map eInt a.1.up), .ro (List.map (eFeat false) a.1.sheet), .v (.string a.1.note)], .agg [.ro (List.map eInt a.2.up), .ro (List.map (eFeat false) a.2.sheet), .v (.string a.2.note)]], fun a => gf_eu9 a.1 a.2, fun a r => ⟨[(false, [.v (.bool r)])], []⟩, fun a => []⟩
/-! spec.l7Up -/
def ib_ev9 : IC :=
 (Rs [Kb 4 false]
 (.seq (Rs [Ki 5 0]
 (blkC 0 (.loop (.seq (Rs [Mv 6 5, Mv 7 0, Ln 8 7, Bb 9 .lss 6 8]
 (Ct 9 .skip
 (.exit 0)))
 (.seq (.block 1 (Rs [Mv 12 0, Mv 13 5, Ia 14 1 12 13, Ld 15 1 14, Bk 16 .lss 15 0, Mv 17 16, Gf 17 (Mv 18 0), Gf 17 (Mv 19 5), Gf 17 (Ia 20 1 18 19), Gf 17 (Ld 21 1 20), Gf 17 (Mv 22 1), Gf 17 (Bb 23 .geq 21 22), Pk 24 17 23]
 (Ct 24 (Rs [Kb 4 false]
 .ret)
 .skip)))
 (.reg [Mv 10 5, Bk 11 .add 10 1, Mv 5 11]))))))
 (.seq (.drw [Mv 25 0, Ln 26 25, Bk 27 .leq 26 2, Mv 28 27, Gt 28 (Mv 29 0), Gt 28 (Ln 30 29), Gt 28 (Bk 31 .gtr 30 0), Gt 28 (Mv 32 1), Gt 28 (Bk 33 .gtr 32 0), Gt 28 (Io 34 (.eqs false false [1] (.t 31) (.t 33))), Io 35 (.pick (.t 28) (.t 34) (.c (.bool false))), Mv 36 35, Gt 36 (Mv 37 0), Gt 36 (Ln 38 37), Gt 36 (Bk 39 .lss 38 2), Gt 36 (Mv 40 39), Gf 40 (Mv 41 0), Gf 40 (Io 42 (.iaddr 1 (.t 41) (.c (.int .i64 0)))), Gf 40 (Ld 43 1 42), Gf 40 (Mv 44 0), Gf 40 (Io 45 (.iaddr 1 (.t 44) (.c (.int .i64 1)))), Gf 40 (Ld 46 1 45), Gf 40 (Bb 47 .neq 43 46), Gt 36 (Pk 48 40 47), Io 49 (.pick (.t 36) (.t 48) (.c (.bool false))), Mv 4 49] [(18, 21)])
 .ret)))
def if_ev9 : IFn := ⟨50, [.inl 4], ib_ev9, lcF []⟩
def ks_ev9 : List (List (Option Nat)) := [[none]]
def gl_ev9_1 (a1 : Int) : List Int → Nat → Option (Bool ⊕ Unit)
 | [], k10 => some (.inr ())
 | x11 :: l12, k10 => if (decide (x11 < 0)) = true then (some (.inl (false))) else (if (decide (x11 ≥ a1)) = true then (some (.inl (false))) else (gl_ev9_1 a1 l12 (k10 + 1) ))
def gf_ev9 (a0 : (List Int)) (a1 : Int) : Option Bool := if fits a0.length = true then ((gl_ev9_1 a1 a0 0 ).bind fun q => match q with | .inl r => some r | .inr q8 => if (decide ((a0.length : Int) ≤ 2)) = true then (if ((decide ((a0.length : Int) > 0)) == (decide (a1 > 0))) = true then (if (decide ((a0.length : Int) < 2)) = true then (some (true)) else ((idx a0 0).bind fun x19 => (idx a0 1).bind fun x21 => some ((x19 != x21)))) else (some (false))) else (some (false))) else none
def c_ev9 : Con := ⟨(List Int) × Int, Bool, 25, fun a => [.ro (List.map eInt a.1), .v (.int .i64 a.2)], fun a => gf_ev9 a.1 a.2, fun a r => ⟨[(false, [.v (.bool r)])], []⟩, fun a => []⟩
/-! spec.SheetOk -/
def ib_dy9 : IC :=
 (Rs [Kb 2 false]
 (.seq (Rs [Ki 3 0]
 (blkC 0 (.loop (.seq (Rs [Mv 4 3, Mv 5 0, Ln 6 5, Bb 7 .lss 4 6]
 (Ct 7 .skip
 (.exit 0)))
 (.seq (.block 1 (.seq (.drw [Mv 10 0, Mv 11 3, Ia 12 4 10 11, La 13 4 12, Ca 14 17 [13], Nt 15 14, Mv 16 15, Gf 16 (Mv 17 3), Gf 16 (Bk 18 .gtr 17 0), Gf 16 (Mv 19 18), Gt 19 (Mv 20 0), Gt 19 (Mv 21 3), Gt 19 (Ia 22 4 20 21), Gt 19 (Fa 23 0 22), Gt 19 (Ld 24 1 23), Gt 19 (Mv 25 0), Gt 19 (Mv 26 3), Gt 19 (Bk 27 .sub 26 1), Gt 19 (Ia 28 4 25 27), Gt 19 (Fa 29 0 28), Gt 19 (Ld 30 1 29), Gt 19 (Bb 31 .leq 24 30), Gf 16 (Io 32 (.pick (.t 19) (.t 31) (.c (.bool false)))), Pk 33 16 32] [(14, 20)])
 (Ct 33 (Rs [Kb 2 false]
 .ret)
 .skip)))
 (.reg [Mv 8 3, Bk 9 .add 8 1, Mv 3 9]))))))
 (Rs [Mv 34 0, Ln 35 34, Bk 36 .leq 35 8, Mv 2 36]
 .ret)))
def if_dy9 : IFn := ⟨37, [.inl 2], ib_dy9, lcF []⟩
def ks_dy9 : List (List (Option Nat)) := [[none]]
def gl_dy9_1 (a0 : (List Feat)) : List Feat → Nat → Option (Bool ⊕ Unit)
 | [], k20 => some (.inr ())
 | x21 :: l22, k20 => (gf_dr9 x21).bind fun x29 => if (!x29) = true then (some (.inl (false))) else (if (decide ((k20 : Int) > 0)) = true then ((idx a0 (IntKind.i64.wrap ((k20 : Int) - 1))).bind fun x31 => if (slt x21.id x31.id || seq x21.id x31.id) = true then (some (.inl (false))) else (gl_dy9_1 a0 l22 (k20 + 1) )) else (gl_dy9_1 a0 l22 (k20 + 1) ))
def gf_dy9 (a0 : (List Feat)) : Option Bool := if fits a0.length = true then ((gl_dy9_1 a0 a0 0 ).bind fun q => match q with | .inl r => some r | .inr q18 => some ((decide ((a0.length : Int) ≤ 8)))) else none
def c_dy9 : Con := ⟨(List Feat), Bool, 26, fun a => [.ro (List.map (eFeat false) a)], fun a => gf_dy9 a, fun a r => ⟨[(false, [.v (.bool r)])], []⟩, fun a => []⟩
/-! spec.l7Find -/
def ib_eo9 : IC :=
 (Rs [Io 2 (.box 210 [some 115, some 130] (.t 0)), Io 3 (.box 115 [some 17, some 100, none] (.t 1)), Ki 4 0]
 (.seq (Rs [Ki 5 0]
 (blkC 0 (.loop (.seq (Rs [Mv 6 5, Fa 7 0 2, Ld 8 1 7, Ln 9 8, Bb 10 .lss 6 9]
 (Ct 10 .skip
 (.exit 0)))
 (.seq (.block 1 (.seq (.drw [Fa 13 0 2, Ld 14 1 13, Mv 15 5, Ia 16 3 14 15, La 17 3 16, La 18 3 3, Ca 19 24 [17, 18]] [(1, 5), (4, 5)])
 (Ct 19 (Rs [Mv 20 5, Mv 4 20]
 .ret)
 .skip)))
 (.reg [Mv 11 5, Bk 12 .add 11 1, Mv 5 12]))))))
 (Rs [Ki 4 (-1)]
 .ret)))
def if_eo9 : IFn := ⟨21, [.inl 4], ib_eo9, lcF []⟩
def ks_eo9 : List (List (Option Nat)) := [[none]]
def gl_eo9_1 (a1 : Commit) : List Commit → Nat → Option (Int ⊕ Unit)
 | [], k24 => some (.inr ())
 | x25 :: l26, k24 => (gf_eu9 x25 a1).bind fun x33 => if x33 = true then (some (.inl ((k24 : Int)))) else (gl_eo9_1 a1 l26 (k24 + 1) )
def gf_eo9 (a0 : Repo) (a1 : Commit) : Option Int := if fits a0.commits.length = true then ((gl_eo9_1 a1 a0.commits 0 ).bind fun q => match q with | .inl r => some r | .inr q20 => some ((-1))) else none
def c_eo9 : Con := ⟨Repo × Commit, Int, 27, fun a => [.agg [.ro (List.map (eCommit false) a.1.commits), .ro (List.map eHead a.1.heads)], .agg [.ro (List.map eInt a.2.up), .ro (List.map (eFeat false) a.2.sheet), .v (.string a.2.note)]], fun a => gf_eo9 a.1 a.2, fun a r => ⟨[(false, [.v (.int .i64 r)])], []⟩, fun a => []⟩
/-! spec.l7Head -/
def ib_ep9 : IC :=
 (Rs [Io 2 (.box 210 [some 115, some 130] (.t 0)), Ki 4 0]
 (.seq (Rs [Ki 5 0]
 (blkC 0 (.loop (.seq (Rs [Mv 6 5, Fa 7 1 2, Ld 8 1 7, Ln 9 8, Bb 10 .lss 6 9]
 (Ct 10 .skip
 (.exit 0)))
 (.seq (.block 1 (Rs [Fa 13 1 2, Ld 14 1 13, Mv 15 5, Ia 16 2 14 15, Fa 17 0 16, Ld 18 1 17, Mv 19 1, Bb 20 .eql 18 19]
 (Ct 20 (Rs [Mv 21 5, Mv 4 21]
 .ret)
 .skip)))
 (.reg [Mv 11 5, Bk 12 .add 11 1, Mv 5 12]))))))
 (Rs [Ki 4 (-1)]
 .ret)))
def if_ep9 : IFn := ⟨22, [.inl 4], ib_ep9, lcF []⟩
def ks_ep9 : List (List (Option Nat)) := [[none]]
def gl_ep9_1 (a1 : Str) : List Head → Nat → Option (Int ⊕ Unit)
 | [], k14 => some (.inr ())
 | x15 :: l16, k14 => if (seq x15.name a1) = true then (some (.inl ((k14 : Int)))) else (gl_ep9_1 a1 l16 (k14 + 1) )
def gf_ep9 (a0 : Repo) (a1 : Str) : Option Int := if fits a0.heads.length = true then ((gl_ep9_1 a1 a0.heads 0 ).bind fun q => match q with | .inl r => some r | .inr q11 => some ((-1))) else none
def c_ep9 : Con := ⟨Repo × Str, Int, 28, fun a => [.agg [.ro (List.map (eCommit false) a.1.commits), .ro (List.map eHead a.1.heads)], .v (.string a.2)], fun a => gf_ep9 a.1 a.2, fun a r => ⟨[(false, [.v (.int .i64 r)])], []⟩, fun a => []⟩
/-! spec.l1Copy -/
def ib_ef9 : IC :=
 (Rs [Io 1 (.box 226 [none, some 66] (.t 0)), Io 2 (.alloc 226 [.v (.int .i64 0), .sl true 66 []])]
 (.seq (.drw [Fa 3 0 1, Ld 4 1 3, Io 5 (.lit 66 [none, none] [.v (.int .i64 0), .v (.int .i64 0)] 0 []), Fa 6 1 1, Ld 7 1 6, Io 8 (.app 66 false (.t 5) (.t 7)), Io 9 (.build [.v (.int .i64 0), .nil] [(0, 1, .t 4), (1, 1, .t 8)]), Sv [none, some 66] 2 9] [(1, 2), (1, 4), (2, 4), (1, 5)])
 .ret))
def if_ef9 : IFn := ⟨10, [.inr (2, 2)], ib_ef9, lcF []⟩
def ks_ef9 : List (List (Option Nat)) := [[none, some 66]]
def gf_ef9 (a0 : Shape) : Option Shape := if fits ([] ++ a0.pts).length = true then some ((⟨a0.kind, ([] ++ a0.pts)⟩ : Shape)) else none
def c_ef9 : Con := ⟨Shape, Shape, 29, fun a => [.agg [.v (.int .i64 a.kind), .ro (List.map ePt a.pts)]], fun a => gf_ef9 a, fun a r => ⟨[(true, eShape true r)], []⟩, fun a => []⟩
/-! spec.l2Copy -/
def ib_ej9 : IC :=
 (Rs [Io 1 (.box 100 [none, none, some 66, some 82] (.t 0)), Io 2 (.alloc 100 [.v (.string ⟨#[]⟩), .v (.int .i64 0), .sl true 66 [], .sl true 82 []])]
 (.seq (.drw [Fa 3 0 1, Ld 4 1 3, Fa 5 1 1, La 6 2 5, Ca 7 29 [6], Io 8 (.lit 82 [none, none] [.v (.string ⟨#[]⟩), .v (.string ⟨#[]⟩)] 0 []), Fa 9 3 1, Ld 10 1 9, Io 11 (.app 82 false (.t 8) (.t 10)), Io 12 (.build [.v (.string ⟨#[]⟩), .v (.int .i64 0), .nil, .nil] [(0, 1, .t 4), (1, 2, .t 7), (3, 1, .t 11)]), Sv [none, none, some 66, some 82] 2 12] [(1, 3), (1, 4), (1, 5), (3, 5), (4, 5), (1, 7), (3, 7), (4, 7), (5, 7), (1, 8)])
 .ret))
def if_ej9 : IFn := ⟨13, [.inr (2, 4)], ib_ej9, lcF []⟩
def ks_ej9 : List (List (Option Nat)) := [[none, none, some 66, some 82]]
def gf_ej9 (a0 : Feat) : Option Feat := (gf_ef9 a0.shape).bind fun x3 => if fits ([] ++ a0.tags).length = true then some ((⟨a0.id, x3, ([] ++ a0.tags)⟩ : Feat)) else none
def c_ej9 : Con := ⟨Feat, Feat, 30, fun a => [.agg [.v (.string a.id), .v (.int .i64 a.shape.kind), .ro (List.map ePt a.shape.pts), .ro (List.map eTag a.tags)]], fun a => gf_ej9 a, fun a r => ⟨[(true, eFeat true r)], []⟩, fun a => []⟩
/-! spec.l3Copy -/
def ib_em9 : IC :=
 (Rs [Io 2 (.mv (.c (.slice none 0 0)))]
 (Rs [Io 5 (.lit 100 [none, none, some 66, some 82] [.v (.string ⟨#[]⟩), .v (.int .i64 0), .sl true 66 [], .sl true 82 []] 0 []), Mv 3 5]
 (.seq (Rs [Ki 4 0]
 (blkC 0 (.loop (.seq (Rs [Mv 6 4, Mv 7 0, Ln 8 7, Bb 9 .lss 6 8]
 (Ct 9 .skip
 (.exit 0)))
 (.seq (.block 1 (.reg [Mv 12 3, Mv 13 0, Mv 14 4, Ia 15 4 13 14, La 16 4 15, Ca 17 30 [16], Io 18 (.lit 100 [none, none, some 66, some 82] [.v (.string ⟨#[]⟩), .v (.int .i64 0), .sl true 66 [], .sl true 82 []] 1 [(0, .t 17)]), Io 19 (.app 100 true (.t 12) (.t 18)), Mv 3 19]))
 (.reg [Mv 10 4, Bk 11 .add 10 1, Mv 4 11]))))))
 (Rs [Mv 20 3, Mv 2 20]
 .ret))))
def if_em9 : IFn := ⟨21, [.inl 2], ib_em9, lcF []⟩
def ks_em9 : List (List (Option Nat)) := [[some 100]]
def gl_em9_1 : List Feat → Nat → (List Feat) → Option (List Feat)
 | [], k49, v46 => some v46
 | x50 :: l51, k49, v46 => (gf_ej9 x50).bind fun x58 => if fits (v46 ++ ([x58] : (List Feat))).length = true then gl_em9_1 l51 (k49 + 1) (v46 ++ ([x58] : (List Feat))) else none
def gf_em9 (a0 : (List Feat)) : Option (List Feat) := if fits a0.length = true then ((gl_em9_1 a0 0 []).bind fun q44 => some (q44)) else none
def c_em9 : Con := ⟨(List Feat), (List Feat), 31, fun a => [.ro (List.map (eFeat false) a)], fun a => gf_em9 a, fun a r => ⟨[(false, [sl true 100 (List.map (eFeat true) r)])], []⟩, fun a => []⟩
/-! spec.l7One -/
def ib_et9 : IC :=
 (Rs [Io 1 (.box 115 [some 17, some 100, none] (.t 0)), Io 2 (.alloc 115 [.sl true 17 [], .sl true 100 [], .v (.string ⟨#[]⟩)])]
 (.seq (.drw [Io 3 (.lit 17 [none] [.v (.int .i64 0)] 0 []), Fa 4 0 1, Ld 5 1 4, Io 6 (.app 17 false (.t 3) (.t 5)), Fa 7 1 1, Ld 8 1 7, Ca 9 31 [8], Fa 10 2 1, Ld 11 1 10, Io 12 (.build [.nil, .nil, .v (.string ⟨#[]⟩)] [(0, 1, .t 6), (1, 1, .t 9), (2, 1, .t 11)]), Sv [some 17, some 100, none] 2 12] [(0, 2), (0, 5), (2, 5), (3, 5), (0, 8), (2, 8), (3, 8), (5, 8), (6, 8)])
 .ret))
def if_et9 : IFn := ⟨13, [.inr (2, 3)], ib_et9, lcF []⟩
def ks_et9 : List (List (Option Nat)) := [[some 17, some 100, none]]
def gf_et9 (a0 : Commit) : Option Commit := if fits ([] ++ a0.up).length = true then (gf_em9 a0.sheet).bind fun x7 => some ((⟨([] ++ a0.up), x7, a0.note⟩ : Commit)) else none
def c_et9 : Con := ⟨Commit, Commit, 32, fun a => [.agg [.ro (List.map eInt a.up), .ro (List.map (eFeat false) a.sheet), .v (.string a.note)]], fun a => gf_et9 a, fun a r => ⟨[(true, eCommit true r)], []⟩, fun a => []⟩
/-! spec.RepoOk -/
def ib_dv9 : IC :=
 (Rs [Io 1 (.box 210 [some 115, some 130] (.t 0)), Kb 2 false]
 (.seq (Rs [Fa 7 0 1, Ld 8 1 7, Ln 9 8, Bk 10 .lss 9 1, Mv 11 10, Gf 11 (Fa 12 0 1), Gf 11 (Ld 13 1 12), Gf 11 (Ln 14 13), Gf 11 (Bk 15 .gtr 14 14), Pk 16 11 15, Mv 17 16, Gf 17 (Fa 18 1 1), Gf 17 (Ld 19 1 18), Gf 17 (Ln 20 19), Gf 17 (Bk 21 .lss 20 1), Pk 22 17 21, Mv 23 22, Gf 23 (Fa 24 1 1), Gf 23 (Ld 25 1 24), Gf 23 (Ln 26 25), Gf 23 (Bk 27 .gtr 26 4), Pk 28 23 27]
 (Ct 28 (Rs [Kb 2 false]
 .ret)
 .skip))
 (.seq (Rs [Ki 3 0]
 (blkC 0 (.loop (.seq (Rs [Mv 29 3, Fa 30 0 1, Ld 31 1 30, Ln 32 31, Bb 33 .lss 29 32]
 (Ct 33 .skip
 (.exit 0)))
 (.seq (.block 1 (Rs [Fa 36 0 1, Ld 37 1 36, Mv 38 3, Ia 39 3 37 38, La 40 3 39, Io 4 (.alloc 115 [.sl true 17 [], .sl true 100 [], .v (.string ⟨#[]⟩)]), Sv [some 17, some 100, none] 4 40]
 (Rs [Fa 41 0 4, Ld 42 1 41, Mv 43 3, Ca 44 25 [42, 43], Nt 45 44, Mv 46 45, Gf 46 (Fa 47 1 4), Gf 46 (Ld 48 1 47), Gf 46 (Ca 49 26 [48]), Gf 46 (Nt 50 49), Pk 51 46 50, Mv 52 51, Gf 52 (Fa 53 2 4), Gf 52 (Ld 54 1 53), Gf 52 (Ca 55 14 [54]), Gf 52 (Nt 56 55), Pk 57 52 56, Mv 58 57, Gf 58 (La 59 2 1), Gf 58 (La 60 3 4), Gf 58 (Ca 61 27 [59, 60]), Gf 58 (Mv 62 3), Gf 58 (Bb 63 .neq 61 62), Pk 64 58 63]
 (Ct 64 (Rs [Kb 2 false]
 .ret)
 .skip))))
 (.reg [Mv 34 3, Bk 35 .add 34 1, Mv 3 35]))))))
 (.seq (Rs [Ki 5 0]
 (blkC 2 (.loop (.seq (Rs [Mv 65 5, Fa 66 1 1, Ld 67 1 66, Ln 68 67, Bb 69 .lss 65 68]
 (Ct 69 .skip
 (.exit 2)))
 (.seq (.block 3 (Rs [Fa 72 1 1, Ld 73 1 72, Mv 74 5, Ia 75 2 73 74, La 76 2 75, Io 6 (.alloc 130 [.v (.string ⟨#[]⟩), .v (.int .i64 0)]), Sv [none, none] 6 76]
 (Rs [Fa 77 0 6, Ld 78 1 77, Ca 79 14 [78], Nt 80 79, Mv 81 80, Gf 81 (La 82 2 1), Gf 81 (Fa 83 0 6), Gf 81 (Ld 84 1 83), Gf 81 (Ca 85 28 [82, 84]), Gf 81 (Mv 86 5), Gf 81 (Bb 87 .neq 85 86), Pk 88 81 87, Mv 89 88, Gf 89 (Fa 90 1 6), Gf 89 (Ld 91 1 90), Gf 89 (Bk 92 .lss 91 0), Pk 93 89 92, Mv 94 93, Gf 94 (Fa 95 1 6), Gf 94 (Ld 96 1 95), Gf 94 (Fa 97 0 1), Gf 94 (Ld 98 1 97), Gf 94 (Ln 99 98), Gf 94 (Bb 100 .geq 96 99), Pk 101 94 100]
 (Ct 101 (Rs [Kb 2 false]
 .ret)
 .skip))))
 (.reg [Mv 70 5, Bk 71 .add 70 1, Mv 5 71]))))))
 (Rs [Kb 2 true]
 .ret)))))
def if_dv9 : IFn := ⟨102, [.inl 2], ib_dv9, lcF []⟩
def ks_dv9 : List (List (Option Nat)) := [[none]]
def gl_dv9_1 (a0 : Repo) : List Commit → Nat → Option (Bool ⊕ Unit)
 | [], k41 => some (.inr ())
 | x42 :: l43, k41 => (gf_ev9 x42.up (k41 : Int)).bind fun x51 => if (!x51) = true then (some (.inl (false))) else ((gf_dy9 x42.sheet).bind fun x53 => if (!x53) = true then (some (.inl (false))) else ((gf_eb9 x42.note).bind fun x55 => if (!x55) = true then (some (.inl (false))) else ((gf_eo9 a0 x42).bind fun x57 => if (x57 != (k41 : Int)) = true then (some (.inl (false))) else (gl_dv9_1 a0 l43 (k41 + 1) ))))
def gl_dv9_2 (a0 : Repo) : List Head → Nat → Option (Bool ⊕ Unit)
 | [], k87 => some (.inr ())
 | x88 :: l89, k87 => (gf_eb9 x88.name).bind fun x97 => if (!x97) = true then (some (.inl (false))) else ((gf_ep9 a0 x88.name).bind fun x99 => if (x99 != (k87 : Int)) = true then (some (.inl (false))) else (if (decide (x88.at_ < 0)) = true then (some (.inl (false))) else (if (decide (x88.at_ ≥ (a0.commits.length : Int))) = true then (some (.inl (false))) else (gl_dv9_2 a0 l89 (k87 + 1) ))))
def gf_dv9 (a0 : Repo) : Option Bool := if (decide ((a0.commits.length : Int) < 1)) = true then (some (false)) else (if (decide ((a0.commits.length : Int) > 14)) = true then (some (false)) else (if (decide ((a0.heads.length : Int) < 1)) = true then (some (false)) else (if (decide ((a0.heads.length : Int) > 4)) = true then (some (false)) else (if fits a0.commits.length = true then ((gl_dv9_1 a0 a0.commits 0 ).bind fun q => match q with | .inl r => some r | .inr q38 => if fits a0.heads.length = true then ((gl_dv9_2 a0 a0.heads 0 ).bind fun q => match q with | .inl r => some r | .inr q84 => some (true)) else none) else none))))
def c_dv9 : Con := ⟨Repo, Bool, 33, fun a => [.agg [.ro (List.map (eCommit false) a.commits), .ro (List.map eHead a.heads)]], fun a => gf_dv9 a, fun a r => ⟨[(false, [.v (.bool r)])], []⟩, fun a => []⟩
/-! spec.l7In -/
def ib_eq9 : IC :=
 (Rs [Io 2 (.box 210 [some 115, some 130] (.t 0)), Kb 4 false]
 (Rs [La 5 2 2, Ca 6 33 [5], Mv 7 6, Gt 7 (Mv 8 1), Gt 7 (Bk 9 .geq 8 0), Io 10 (.pick (.t 7) (.t 9) (.c (.bool false))), Mv 11 10, Gt 11 (Mv 12 1), Gt 11 (Fa 13 0 2), Gt 11 (Ld 14 1 13), Gt 11 (Ln 15 14), Gt 11 (Bb 16 .lss 12 15), Io 17 (.pick (.t 11) (.t 16) (.c (.bool false))), Mv 4 17]
 .ret))
def if_eq9 : IFn := ⟨18, [.inl 4], ib_eq9, lcF []⟩
def ks_eq9 : List (List (Option Nat)) := [[none]]
def gf_eq9 (a0 : Repo) (a1 : Int) : Option Bool := (gf_dv9 a0).bind fun x2 => if x2 = true then (if (decide (a1 ≥ 0)) = true then (some ((decide (a1 < (a0.commits.length : Int))))) else (some (false))) else (some (false))
def c_eq9 : Con := ⟨Repo × Int, Bool, 34, fun a => [.agg [.ro (List.map (eCommit false) a.1.commits), .ro (List.map eHead a.1.heads)], .v (.int .i64 a.2)], fun a => gf_eq9 a.1 a.2, fun a r => ⟨[(false, [.v (.bool r)])], []⟩, fun a => []⟩
/-! spec.l7Marks -/
def ib_es9 : IC :=
 (Rs [Io 2 (.box 210 [some 115, some 130] (.t 0)), Io 4 (.mv (.c (.slice none 0 0)))]
 (Rs [Fa 9 0 2, Ld 10 1 9, Ln 11 10, Io 12 (.mks 33 [.v (.bool false)] (.t 11) (.t 11)), Mv 5 12]
 (.seq (Rs [Ki 6 0]
 (blkC 0 (.loop (.seq (Rs [Mv 13 6, Mv 14 1, Ln 15 14, Bb 16 .lss 13 15]
 (Ct 16 .skip
 (.exit 0)))
 (.seq (.block 1 (.reg [Mv 19 5, Mv 20 1, Mv 21 6, Ia 22 1 20 21, Ld 23 1 22, Ia 24 1 19 23, Iz (.store [none] (.t 24) (.c (.bool true)))]))
 (.reg [Mv 17 6, Bk 18 .add 17 1, Mv 6 18]))))))
 (.seq (Rs [Fa 25 0 2, Ld 26 1 25, Ln 27 26, Bk 28 .sub 27 1, Mv 7 28]
 (blkC 2 (.loop (.seq (Rs [Mv 29 7, Bk 30 .geq 29 0]
 (Ct 30 .skip
 (.exit 2)))
 (.seq (.block 3 (Rs [Ki 8 0]
 (blkC 4 (.loop (.seq (Rs [Mv 33 8, Fa 34 0 2, Ld 35 1 34, Mv 36 7, Ia 37 3 35 36, Fa 38 0 37, Ld 39 1 38, Ln 40 39, Bb 41 .lss 33 40, Mv 42 41, Gt 42 (Mv 43 5), Gt 42 (Mv 44 7), Gt 42 (Ia 45 1 43 44), Gt 42 (Ld 46 1 45), Io 47 (.pick (.t 42) (.t 46) (.c (.bool false)))]
 (Ct 47 .skip
 (.exit 4)))
 (.seq (.block 5 (.reg [Mv 50 5, Fa 51 0 2, Ld 52 1 51, Mv 53 7, Ia 54 3 52 53, Fa 55 0 54, Ld 56 1 55, Mv 57 8, Ia 58 1 56 57, Ld 59 1 58, Ia 60 1 50 59, Iz (.store [none] (.t 60) (.c (.bool true)))]))
 (.reg [Mv 48 8, Bk 49 .add 48 1, Mv 8 49])))))))
 (.reg [Mv 31 7, Bk 32 .sub 31 1, Mv 7 32]))))))
 (Rs [Mv 61 5, Mv 4 61]
 .ret)))))
def if_es9 : IFn := ⟨62, [.inl 4], ib_es9, lcF []⟩
def ks_es9 : List (List (Option Nat)) := [[some 33]]
def gl_es9_1 : List Int → Nat → (List Bool) → Option (List Bool)
 | [], k31, v28 => some v28
 | x32 :: l33, k31, v28 => (idx v28 x32).bind fun x40 => gl_es9_1 l33 (k31 + 1) (List.set v28 x32.toNat true)
def gl_es9_6 (a0 : Repo) (v208 : Int) : Nat → Int → (List Bool) → Option (List Bool)
 | 0, _, _ => none
 | n252 + 1, v247, v249 => (idx a0.commits v208).bind fun x253 => if (decide (v247 < (x253.up.length : Int))) = true then ((idx v249 v208).bind fun x255 => if x255 = true then ((idx x253.up v247).bind fun x257 => (idx v249 x257).bind fun x259 => gl_es9_6 a0 v208 n252 (IntKind.i64.wrap (v247 + 1)) (List.set v249 x257.toNat true)) else (some v249)) else (some v249)
def gl_es9_5 (a0 : Repo) : Nat → Int → (List Bool) → Option (List Bool)
 | 0, _, _ => none
 | n213 + 1, v208, v210 => if (decide (v208 ≥ 0)) = true then ((gl_es9_6 a0 v208 rounds 0 v210).bind fun q246 => gl_es9_5 a0 n213 (IntKind.i64.wrap (v208 - 1)) q246) else (some v210)
def gf_es9 (a0 : Repo) (a1 : (List Int)) : Option (List Bool) := if (decide (0 ≤ (a0.commits.length : Int)) && fits ((a0.commits.length : Int)).toNat) = true then if fits a1.length = true then ((gl_es9_1 a1 0 (List.replicate ((a0.commits.length : Int)).toNat false)).bind fun q25 => (gl_es9_5 a0 rounds (IntKind.i64.wrap ((a0.commits.length : Int) - 1)) q25).bind fun q207 => some (q207)) else none else none
def c_es9 : Con := ⟨Repo × (List Int), (List Bool), 35, fun a => [.agg [.ro (List.map (eCommit false) a.1.commits), .ro (List.map eHead a.1.heads)], .ro (List.map eInt a.2)], fun a => gf_es9 a.1 a.2, fun a r => ⟨[(false, [sl true 33 (List.map eBool r)])], []⟩, fun a => []⟩
/-! spec.l7Copy -/
def ib_en9 : IC :=
 (Rs [Io 1 (.box 210 [some 115, some 130] (.t 0)), Io 2 (.alloc 210 [.sl true 115 [], .sl true 130 []])]
 (Rs [Io 5 (.lit 130 [none, none] [.v (.string ⟨#[]⟩), .v (.int .i64 0)] 0 []), Fa 6 1 1, Ld 7 1 6, Io 8 (.app 130 false (.t 5) (.t 7)), Io 9 (.build [.nil, .nil] [(1, 1, .t 8)]), Io 3 (.alloc 210 [.sl true 115 [], .sl true 130 []]), Sv [some 115, some 130] 3 9]
 (.seq (Rs [Ki 4 0]
 (blkC 0 (.loop (.seq (Rs [Mv 10 4, Fa 11 0 1, Ld 12 1 11, Ln 13 12, Bb 14 .lss 10 13]
 (Ct 14 .skip
 (.exit 0)))
 (.seq (.block 1 (.drw [Fa 17 0 3, Ld 18 1 17, Fa 19 0 1, Ld 20 1 19, Mv 21 4, Ia 22 3 20 21, La 23 3 22, Ca 24 32 [23], Io 25 (.lit 115 [some 17, some 100, none] [.sl true 17 [], .sl true 100 [], .v (.string ⟨#[]⟩)] 1 [(0, .t 24)]), Io 26 (.app 115 true (.t 18) (.t 25)), Fa 27 0 3, Sv [some 115] 27 26] [(1, 3), (1, 6), (1, 7), (1, 8)]))
 (.reg [Mv 15 4, Bk 16 .add 15 1, Mv 4 16]))))))
 (Rs [La 28 2 3, Sv [some 115, some 130] 2 28]
 .ret))))
def if_en9 : IFn := ⟨29, [.inr (2, 2)], ib_en9, lcF []⟩
def ks_en9 : List (List (Option Nat)) := [[some 115, some 130]]
def gl_en9_1 : List Commit → Nat → (List Commit) → Option (List Commit)
 | [], k82, v76 => some v76
 | x83 :: l84, k82, v76 => (gf_et9 x83).bind fun x91 => if fits (v76 ++ ([x91] : (List Commit))).length = true then gl_en9_1 l84 (k82 + 1) (v76 ++ ([x91] : (List Commit))) else none
def gf_en9 (a0 : Repo) : Option Repo := if fits ([] ++ a0.heads).length = true then if fits a0.commits.length = true then ((gl_en9_1 a0.commits 0 []).bind fun q68 => some ((⟨q68, ([] ++ a0.heads)⟩ : Repo))) else none else none
def c_en9 : Con := ⟨Repo, Repo, 61, fun a => [.agg [.ro (List.map (eCommit false) a.commits), .ro (List.map eHead a.heads)]], fun a => gf_en9 a, fun a r => ⟨[(true, eRepo true r)], []⟩, fun a => []⟩
/-! spec.RepoAhead -/
def ib_dt9 : IC :=
 (Rs [Io 3 (.box 210 [some 115, some 130] (.t 0)), Kb 6 false]
 (Rs [La 7 2 3, Mv 8 1, Ca 9 34 [7, 8], Mv 10 9, Gt 10 (La 11 2 3), Gt 10 (Mv 12 2), Gt 10 (Ca 13 34 [11, 12]), Io 14 (.pick (.t 10) (.t 13) (.c (.bool false))), Mv 15 14, Gt 15 (La 16 2 3), Gt 15 (Mv 17 2), Gt 15 (Io 18 (.lit 17 [none] [.v (.int .i64 0)] 1 [(0, .t 17)])), Gt 15 (Ca 19 35 [16, 18]), Gt 15 (Mv 20 1), Gt 15 (Ia 21 1 19 20), Gt 15 (Ld 22 1 21), Io 23 (.pick (.t 15) (.t 22) (.c (.bool false))), Mv 6 23]
 .ret))
def if_dt9 : IFn := ⟨24, [.inl 6], ib_dt9, lcF []⟩
def ks_dt9 : List (List (Option Nat)) := [[none]]
def gf_dt9 (a0 : Repo) (a1 : Int) (a2 : Int) : Option Bool := (gf_eq9 a0 a1).bind fun x2 => if x2 = true then ((gf_eq9 a0 a2).bind fun x4 => if x4 = true then ((gf_es9 a0 ([a2] : (List Int))).bind fun x7 => (idx x7 a1).bind fun x11 => some (x11)) else (some (false))) else (some (false))
def c_dt9 : Con := ⟨Repo × Int × Int, Bool, 62, fun a => [.agg [.ro (List.map (eCommit false) a.1.commits), .ro (List.map eHead a.1.heads)], .v (.int .i64 a.2.1), .v (.int .i64 a.2.2)], fun a => gf_dt9 a.1 a.2.1 a.2.2, fun a r => ⟨[(false, [.v (.bool r)])], []⟩, fun a => []⟩
/-! laws.toPt -/
def ib_cy9 : IC :=
 (Rs [Io 1 (.box 338 [none, none] (.t 0)), Io 2 (.alloc 66 [.v (.int .i64 0), .v (.int .i64 0)])]
 (Rs [Io 3 (.alloc 66 [.v (.int .i64 0), .v (.int .i64 0)])]
 (Rs [Fa 4 0 1, Ld 5 1 4, Fa 6 0 3, Sv [none] 6 5]
 (Rs [Fa 7 1 1, Ld 8 1 7, Fa 9 1 3, Sv [none] 9 8]
 (Rs [La 10 2 3, Sv [none, none] 2 10]
 .ret)))))
def if_cy9 : IFn := ⟨11, [.inr (2, 2)], ib_cy9, lcF []⟩
def ks_cy9 : List (List (Option Nat)) := [[none, none]]
def gf_cy9 (a0 : Pt) : Option Pt := some (a0)
def c_cy9 : Con := ⟨Pt, Pt, 64, fun a => [.agg [.v (.int .i64 a.x), .v (.int .i64 a.y)]], fun a => gf_cy9 a, fun a r => ⟨[(true, ePt r)], []⟩, fun a => []⟩
/-! laws.toPtS -/
def ib_cz9 : IC :=
 (Rs [Io 2 (.mv (.c (.slice none 0 0)))]
 (Rs [Mv 5 0, Ln 6 5, Io 7 (.mks 66 [.v (.int .i64 0), .v (.int .i64 0)] (.t 6) (.t 6)), Mv 3 7]
 (.seq (Rs [Ki 4 0]
 (blkC 0 (.loop (.seq (Rs [Mv 8 4, Mv 9 0, Ln 10 9, Bb 11 .lss 8 10]
 (Ct 11 .skip
 (.exit 0)))
 (.seq (.block 1 (.reg [Mv 14 3, Mv 15 4, Mv 16 0, Mv 17 4, Ia 18 2 16 17, La 19 2 18, Ca 20 64 [19], Ia 21 2 14 15, Sv [none, none] 21 20]))
 (.reg [Mv 12 4, Bk 13 .add 12 1, Mv 4 13]))))))
 (Rs [Mv 22 3, Mv 2 22]
 .ret))))
def if_cz9 : IFn := ⟨23, [.inl 2], ib_cz9, lcF []⟩
def ks_cz9 : List (List (Option Nat)) := [[some 66]]
def gl_cz9_1 : List Pt → Nat → (List Pt) → Option (List Pt)
 | [], k33, v30 => some v30
 | x34 :: l35, k33, v30 => (gf_cy9 x34).bind fun x42 => (idx v30 (k33 : Int)).bind fun x44 => gl_cz9_1 l35 (k33 + 1) (List.set v30 (k33 : Int).toNat x42)
def gf_cz9 (a0 : (List Pt)) : Option (List Pt) := if (decide (0 ≤ (a0.length : Int)) && fits ((a0.length : Int)).toNat) = true then if fits a0.length = true then ((gl_cz9_1 a0 0 (List.replicate ((a0.length : Int)).toNat (⟨0, 0⟩ : Pt))).bind fun q28 => some (q28)) else none else none
def c_cz9 : Con := ⟨(List Pt), (List Pt), 65, fun a => [.ro (List.map ePt a)], fun a => gf_cz9 a, fun a r => ⟨[(false, [sl true 66 (List.map ePt r)])], []⟩, fun a => []⟩
/-! laws.toTag -/
def ib_dc9 : IC :=
 (Rs [Io 1 (.box 354 [none, none] (.t 0)), Io 2 (.alloc 82 [.v (.string ⟨#[]⟩), .v (.string ⟨#[]⟩)])]
 (Rs [Io 3 (.alloc 82 [.v (.string ⟨#[]⟩), .v (.string ⟨#[]⟩)])]
 (Rs [Fa 4 0 1, Ld 5 1 4, Fa 6 0 3, Sv [none] 6 5]
 (Rs [Fa 7 1 1, Ld 8 1 7, Fa 9 1 3, Sv [none] 9 8]
 (Rs [La 10 2 3, Sv [none, none] 2 10]
 .ret)))))
def if_dc9 : IFn := ⟨11, [.inr (2, 2)], ib_dc9, lcF []⟩
def ks_dc9 : List (List (Option Nat)) := [[none, none]]
def gf_dc9 (a0 : Tag) : Option Tag := some (a0)
def c_dc9 : Con := ⟨Tag, Tag, 66, fun a => [.agg [.v (.string a.key), .v (.string a.val)]], fun a => gf_dc9 a, fun a r => ⟨[(true, eTag r)], []⟩, fun a => []⟩
/-! laws.toShape -/
def ib_db9 : IC :=
 (Rs [Io 1 (.box 482 [none, some 338] (.t 0)), Io 2 (.alloc 226 [.v (.int .i64 0), .sl true 66 []])]
 (Rs [Io 3 (.alloc 226 [.v (.int .i64 0), .sl true 66 []])]
 (Rs [Fa 4 0 1, Ld 5 1 4, Fa 6 0 3, Sv [none] 6 5]
 (Rs [Fa 7 1 1, Ld 8 1 7, Ca 9 65 [8], Fa 10 1 3, Sv [some 66] 10 9]
 (Rs [La 11 2 3, Sv [none, some 66] 2 11]
 .ret)))))
def if_db9 : IFn := ⟨12, [.inr (2, 2)], ib_db9, lcF []⟩
def ks_db9 : List (List (Option Nat)) := [[none, some 66]]
def gf_db9 (a0 : Shape) : Option Shape := (gf_cz9 a0.pts).bind fun x4 => some ((⟨a0.kind, x4⟩ : Shape))
def c_db9 : Con := ⟨Shape, Shape, 67, fun a => [.agg [.v (.int .i64 a.kind), .ro (List.map ePt a.pts)]], fun a => gf_db9 a, fun a r => ⟨[(true, eShape true r)], []⟩, fun a => []⟩
/-! laws.toTagS -/
def ib_dd9 : IC :=
 (Rs [Io 2 (.mv (.c (.slice none 0 0)))]
 (Rs [Mv 5 0, Ln 6 5, Io 7 (.mks 82 [.v (.string ⟨#[]⟩), .v (.string ⟨#[]⟩)] (.t 6) (.t 6)), Mv 3 7]
 (.seq (Rs [Ki 4 0]
 (blkC 0 (.loop (.seq (Rs [Mv 8 4, Mv 9 0, Ln 10 9, Bb 11 .lss 8 10]
 (Ct 11 .skip
 (.exit 0)))
 (.seq (.block 1 (.reg [Mv 14 3, Mv 15 4, Mv 16 0, Mv 17 4, Ia 18 2 16 17, La 19 2 18, Ca 20 66 [19], Ia 21 2 14 15, Sv [none, none] 21 20]))
 (.reg [Mv 12 4, Bk 13 .add 12 1, Mv 4 13]))))))
 (Rs [Mv 22 3, Mv 2 22]
 .ret))))
def if_dd9 : IFn := ⟨23, [.inl 2], ib_dd9, lcF []⟩
def ks_dd9 : List (List (Option Nat)) := [[some 82]]
def gl_dd9_1 : List Tag → Nat → (List Tag) → Option (List Tag)
 | [], k33, v30 => some v30
 | x34 :: l35, k33, v30 => (gf_dc9 x34).bind fun x42 => (idx v30 (k33 : Int)).bind fun x44 => gl_dd9_1 l35 (k33 + 1) (List.set v30 (k33 : Int).toNat x42)
def gf_dd9 (a0 : (List Tag)) : Option (List Tag) := if (decide (0 ≤ (a0.length : Int)) && fits ((a0.length : Int)).toNat) = true then if fits a0.length = true then ((gl_dd9_1 a0 0 (List.replicate ((a0.length : Int)).toNat (⟨(⟨#[]⟩ : Str), (⟨#[]⟩ : Str)⟩ : Tag))).bind fun q28 => some (q28)) else none else none
def c_dd9 : Con := ⟨(List Tag), (List Tag), 68, fun a => [.ro (List.map eTag a)], fun a => gf_dd9 a, fun a r => ⟨[(false, [sl true 82 (List.map eTag r)])], []⟩, fun a => []⟩
/-! laws.toFeat -/
def ib_ct9 : IC :=
 (Rs [Io 1 (.box 372 [none, none, some 338, some 354] (.t 0)), Io 2 (.alloc 100 [.v (.string ⟨#[]⟩), .v (.int .i64 0), .sl true 66 [], .sl true 82 []])]
 (Rs [Io 3 (.alloc 100 [.v (.string ⟨#[]⟩), .v (.int .i64 0), .sl true 66 [], .sl true 82 []])]
 (Rs [Fa 4 0 1, Ld 5 1 4, Fa 6 0 3, Sv [none] 6 5]
 (seqC (.reg [Fa 7 1 1, La 8 2 7, Ca 9 67 [8], Fa 10 1 3, Sv [none, some 66] 10 9])
 (Rs [Fa 11 3 1, Ld 12 1 11, Ca 13 68 [12], Fa 14 3 3, Sv [some 82] 14 13]
 (Rs [La 15 4 3, Sv [none, none, some 66, some 82] 2 15]
 .ret))))))
def if_ct9 : IFn := ⟨16, [.inr (2, 4)], ib_ct9, lcF []⟩
def ks_ct9 : List (List (Option Nat)) := [[none, none, some 66, some 82]]
def gf_ct9 (a0 : Feat) : Option Feat := (((gf_db9 a0.shape).bind fun x5 => some (x5.pts, x5.kind) : Option ((List Pt) × Int))).bind fun q4 => (gf_dd9 a0.tags).bind fun x22 => some ((⟨a0.id, ⟨q4.2, q4.1⟩, x22⟩ : Feat))
def c_ct9 : Con := ⟨Feat, Feat, 69, fun a => [.agg [.v (.string a.id), .v (.int .i64 a.shape.kind), .ro (List.map ePt a.shape.pts), .ro (List.map eTag a.tags)]], fun a => gf_ct9 a, fun a r => ⟨[(true, eFeat true r)], []⟩, fun a => []⟩
/-! laws.toIntS -/
def ib_cx9 : IC :=
 (Rs [Io 2 (.mv (.c (.slice none 0 0)))]
 (Rs [Mv 5 0, Ln 6 5, Io 7 (.mks 17 [.v (.int .i64 0)] (.t 6) (.t 6)), Mv 3 7]
 (.seq (Rs [Ki 4 0]
 (blkC 0 (.loop (.seq (Rs [Mv 8 4, Mv 9 0, Ln 10 9, Bb 11 .lss 8 10]
 (Ct 11 .skip
 (.exit 0)))
 (.seq (.block 1 (.reg [Mv 14 3, Mv 15 4, Mv 16 0, Mv 17 4, Ia 18 1 16 17, Ld 19 1 18, Ia 20 1 14 15, Sv [none] 20 19]))
 (.reg [Mv 12 4, Bk 13 .add 12 1, Mv 4 13]))))))
 (Rs [Mv 21 3, Mv 2 21]
 .ret))))
def if_cx9 : IFn := ⟨22, [.inl 2], ib_cx9, lcF []⟩
def ks_cx9 : List (List (Option Nat)) := [[some 17]]
def gl_cx9_1 : List Int → Nat → (List Int) → Option (List Int)
 | [], k27, v24 => some v24
 | x28 :: l29, k27, v24 => (idx v24 (k27 : Int)).bind fun x36 => gl_cx9_1 l29 (k27 + 1) (List.set v24 (k27 : Int).toNat x28)
def gf_cx9 (a0 : (List Int)) : Option (List Int) := if (decide (0 ≤ (a0.length : Int)) && fits ((a0.length : Int)).toNat) = true then if fits a0.length = true then ((gl_cx9_1 a0 0 (List.replicate ((a0.length : Int)).toNat 0)).bind fun q22 => some (q22)) else none else none
def c_cx9 : Con := ⟨(List Int), (List Int), 70, fun a => [.ro (List.map eInt a)], fun a => gf_cx9 a, fun a r => ⟨[(false, [sl true 17 (List.map eInt r)])], []⟩, fun a => []⟩
/-! laws.toFeatS -/
def ib_cu9 : IC :=
 (Rs [Io 2 (.mv (.c (.slice none 0 0)))]
 (Rs [Mv 5 0, Ln 6 5, Io 7 (.mks 100 [.v (.string ⟨#[]⟩), .v (.int .i64 0), .sl true 66 [], .sl true 82 []] (.t 6) (.t 6)), Mv 3 7]
 (.seq (Rs [Ki 4 0]
 (blkC 0 (.loop (.seq (Rs [Mv 8 4, Mv 9 0, Ln 10 9, Bb 11 .lss 8 10]
 (Ct 11 .skip
 (.exit 0)))
 (.seq (.block 1 (.reg [Mv 14 3, Mv 15 4, Mv 16 0, Mv 17 4, Ia 18 4 16 17, La 19 4 18, Ca 20 69 [19], Ia 21 4 14 15, Sv [none, none, some 66, some 82] 21 20]))
 (.reg [Mv 12 4, Bk 13 .add 12 1, Mv 4 13]))))))
 (Rs [Mv 22 3, Mv 2 22]
 .ret))))
def if_cu9 : IFn := ⟨23, [.inl 2], ib_cu9, lcF []⟩
def ks_cu9 : List (List (Option Nat)) := [[some 100]]
def gl_cu9_1 : List Feat → Nat → (List Feat) → Option (List Feat)
 | [], k45, v42 => some v42
 | x46 :: l47, k45, v42 => (gf_ct9 x46).bind fun x54 => (idx v42 (k45 : Int)).bind fun x60 => gl_cu9_1 l47 (k45 + 1) (List.set v42 (k45 : Int).toNat x54)
def gf_cu9 (a0 : (List Feat)) : Option (List Feat) := if (decide (0 ≤ (a0.length : Int)) && fits ((a0.length : Int)).toNat) = true then if fits a0.length = true then ((gl_cu9_1 a0 0 (List.replicate ((a0.length : Int)).toNat (⟨(⟨#[]⟩ : Str), ⟨0, []⟩, []⟩ : Feat))).bind fun q40 => some (q40)) else none else none
def c_cu9 : Con := ⟨(List Feat), (List Feat), 71, fun a => [.ro (List.map (eFeat false) a)], fun a => gf_cu9 a, fun a r => ⟨[(false, [sl true 100 (List.map (eFeat true) r)])], []⟩, fun a => []⟩
/-! laws.toCommit -/
def ib_cr9 : IC :=
 (Rs [Io 1 (.box 387 [some 17, some 372, none] (.t 0)), Io 2 (.alloc 115 [.sl true 17 [], .sl true 100 [], .v (.string ⟨#[]⟩)])]
 (Rs [Io 3 (.alloc 115 [.sl true 17 [], .sl true 100 [], .v (.string ⟨#[]⟩)])]
 (seqC (.reg [Fa 4 0 1, Ld 5 1 4, Ca 6 70 [5], Fa 7 0 3, Sv [some 17] 7 6])
 (Rs [Fa 8 1 1, Ld 9 1 8, Ca 10 71 [9], Fa 11 1 3, Sv [some 100] 11 10]
 (Rs [Fa 12 2 1, Ld 13 1 12, Fa 14 2 3, Sv [none] 14 13]
 (Rs [La 15 3 3, Sv [some 17, some 100, none] 2 15]
 .ret))))))
def if_cr9 : IFn := ⟨16, [.inr (2, 3)], ib_cr9, lcF []⟩
def ks_cr9 : List (List (Option Nat)) := [[some 17, some 100, none]]
def gf_cr9 (a0 : Commit) : Option Commit := (((gf_cx9 a0.up).bind fun x5 => some x5 : Option (List Int))).bind fun q4 => (gf_cu9 a0.sheet).bind fun x21 => some ((⟨q4, x21, a0.note⟩ : Commit))
def c_cr9 : Con := ⟨Commit, Commit, 72, fun a => [.agg [.ro (List.map eInt a.up), .ro (List.map (eFeat false) a.sheet), .v (.string a.note)]], fun a => gf_cr9 a, fun a r => ⟨[(true, eCommit true r)], []⟩, fun a => []⟩
/-! laws.toHead -/
def ib_cv9 : IC :=
 (Rs [Io 1 (.box 402 [none, none] (.t 0)), Io 2 (.alloc 130 [.v (.string ⟨#[]⟩), .v (.int .i64 0)])]
 (Rs [Io 3 (.alloc 130 [.v (.string ⟨#[]⟩), .v (.int .i64 0)])]
 (Rs [Fa 4 0 1, Ld 5 1 4, Fa 6 0 3, Sv [none] 6 5]
 (Rs [Fa 7 1 1, Ld 8 1 7, Fa 9 1 3, Sv [none] 9 8]
 (Rs [La 10 2 3, Sv [none, none] 2 10]
 .ret)))))
def if_cv9 : IFn := ⟨11, [.inr (2, 2)], ib_cv9, lcF []⟩
def ks_cv9 : List (List (Option Nat)) := [[none, none]]
def gf_cv9 (a0 : Head) : Option Head := some (a0)
def c_cv9 : Con := ⟨Head, Head, 73, fun a => [.agg [.v (.string a.name), .v (.int .i64 a.at_)]], fun a => gf_cv9 a, fun a r => ⟨[(true, eHead r)], []⟩, fun a => []⟩
/-! laws.toCommitS -/
def ib_cs9 : IC :=
 (Rs [Io 2 (.mv (.c (.slice none 0 0)))]
 (Rs [Mv 5 0, Ln 6 5, Io 7 (.mks 115 [.sl true 17 [], .sl true 100 [], .v (.string ⟨#[]⟩)] (.t 6) (.t 6)), Mv 3 7]
 (.seq (Rs [Ki 4 0]
 (blkC 0 (.loop (.seq (Rs [Mv 8 4, Mv 9 0, Ln 10 9, Bb 11 .lss 8 10]
 (Ct 11 .skip
 (.exit 0)))
 (.seq (.block 1 (.reg [Mv 14 3, Mv 15 4, Mv 16 0, Mv 17 4, Ia 18 3 16 17, La 19 3 18, Ca 20 72 [19], Ia 21 3 14 15, Sv [some 17, some 100, none] 21 20]))
 (.reg [Mv 12 4, Bk 13 .add 12 1, Mv 4 13]))))))
 (Rs [Mv 22 3, Mv 2 22]
 .ret))))
def if_cs9 : IFn := ⟨23, [.inl 2], ib_cs9, lcF []⟩
def ks_cs9 : List (List (Option Nat)) := [[some 115]]
def gl_cs9_1 : List Commit → Nat → (List Commit) → Option (List Commit)
 | [], k45, v42 => some v42
 | x46 :: l47, k45, v42 => (gf_cr9 x46).bind fun x54 => (idx v42 (k45 : Int)).bind fun x60 => gl_cs9_1 l47 (k45 + 1) (List.set v42 (k45 : Int).toNat x54)
def gf_cs9 (a0 : (List Commit)) : Option (List Commit) := if (decide (0 ≤ (a0.length : Int)) && fits ((a0.length : Int)).toNat) = true then if fits a0.length = true then ((gl_cs9_1 a0 0 (List.replicate ((a0.length : Int)).toNat (⟨[], [], (⟨#[]⟩ : Str)⟩ : Commit))).bind fun q40 => some (q40)) else none else none
def c_cs9 : Con := ⟨(List Commit), (List Commit), 74, fun a => [.ro (List.map (eCommit false) a)], fun a => gf_cs9 a, fun a r => ⟨[(false, [sl true 115 (List.map (eCommit true) r)])], []⟩, fun a => []⟩
/-! laws.toHeadS -/
def ib_cw9 : IC :=
 (Rs [Io 2 (.mv (.c (.slice none 0 0)))]
 (Rs [Mv 5 0, Ln 6 5, Io 7 (.mks 130 [.v (.string ⟨#[]⟩), .v (.int .i64 0)] (.t 6) (.t 6)), Mv 3 7]
 (.seq (Rs [Ki 4 0]
 (blkC 0 (.loop (.seq (Rs [Mv 8 4, Mv 9 0, Ln 10 9, Bb 11 .lss 8 10]
 (Ct 11 .skip
 (.exit 0)))
 (.seq (.block 1 (.reg [Mv 14 3, Mv 15 4, Mv 16 0, Mv 17 4, Ia 18 2 16 17, La 19 2 18, Ca 20 73 [19], Ia 21 2 14 15, Sv [none, none] 21 20]))
 (.reg [Mv 12 4, Bk 13 .add 12 1, Mv 4 13]))))))
 (Rs [Mv 22 3, Mv 2 22]
 .ret))))
def if_cw9 : IFn := ⟨23, [.inl 2], ib_cw9, lcF []⟩
def ks_cw9 : List (List (Option Nat)) := [[some 130]]
def gl_cw9_1 : List Head → Nat → (List Head) → Option (List Head)
 | [], k33, v30 => some v30
 | x34 :: l35, k33, v30 => (gf_cv9 x34).bind fun x42 => (idx v30 (k33 : Int)).bind fun x44 => gl_cw9_1 l35 (k33 + 1) (List.set v30 (k33 : Int).toNat x42)
def gf_cw9 (a0 : (List Head)) : Option (List Head) := if (decide (0 ≤ (a0.length : Int)) && fits ((a0.length : Int)).toNat) = true then if fits a0.length = true then ((gl_cw9_1 a0 0 (List.replicate ((a0.length : Int)).toNat (⟨(⟨#[]⟩ : Str), 0⟩ : Head))).bind fun q28 => some (q28)) else none else none
def c_cw9 : Con := ⟨(List Head), (List Head), 75, fun a => [.ro (List.map eHead a)], fun a => gf_cw9 a, fun a r => ⟨[(false, [sl true 130 (List.map eHead r)])], []⟩, fun a => []⟩
/-! impl.within -/
def ib_bb9 : IC :=
 (Rs [Kb 6 false]
 (Rs [Mv 7 0, Mv 8 1, Bb 9 .geq 7 8, Mv 10 9, Gt 10 (Mv 11 0), Gt 10 (Mv 12 2), Gt 10 (Bb 13 .leq 11 12), Io 14 (.pick (.t 10) (.t 13) (.c (.bool false))), Mv 6 14]
 .ret))
def if_bb9 : IFn := ⟨15, [.inl 6], ib_bb9, lcF []⟩
def ks_bb9 : List (List (Option Nat)) := [[none]]
def gf_bb9 (a0 : Int) (a1 : Int) (a2 : Int) : Option Bool := if (decide (a0 ≥ a1)) = true then (some ((decide (a0 ≤ a2)))) else (some (false))
def c_bb9 : Con := ⟨Int × Int × Int, Bool, 76, fun a => [.v (.int .i64 a.1), .v (.int .i64 a.2.1), .v (.int .i64 a.2.2)], fun a => gf_bb9 a.1 a.2.1 a.2.2, fun a r => ⟨[(false, [.v (.bool r)])], []⟩, fun a => []⟩
/-! impl.ptOk -/
def ib_az9 : IC :=
 (Rs [Io 1 (.box 66 [none, none] (.t 0)), Kb 2 false]
 (Rs [Fa 3 0 1, Ld 4 1 3, Io 5 (.call 76 [(false, .t 4), (false, .c (.int .i64 (-1000))), (false, .c (.int .i64 1000))]), Mv 6 5, Gt 6 (Fa 7 1 1), Gt 6 (Ld 8 1 7), Gt 6 (Io 9 (.call 76 [(false, .t 8), (false, .c (.int .i64 (-1000))), (false, .c (.int .i64 1000))])), Io 10 (.pick (.t 6) (.t 9) (.c (.bool false))), Mv 2 10]
 .ret))
def if_az9 : IFn := ⟨11, [.inl 2], ib_az9, lcF []⟩
def ks_az9 : List (List (Option Nat)) := [[none]]
def gf_az9 (a0 : Pt) : Option Bool := (gf_bb9 a0.x (-1000) 1000).bind fun x2 => if x2 = true then ((gf_bb9 a0.y (-1000) 1000).bind fun x4 => some (x4)) else (some (false))
def c_az9 : Con := ⟨Pt, Bool, 79, fun a => [.agg [.v (.int .i64 a.x), .v (.int .i64 a.y)]], fun a => gf_az9 a, fun a r => ⟨[(false, [.v (.bool r)])], []⟩, fun a => []⟩
/-! impl.WordOk -/
def ib_as9 : IC :=
 (Rs [Kb 2 false]
 (.seq (Rs [Mv 4 0, Io 5 (.len true (.t 4)), Ki 6 0]
 (blkC 0 (.loop (Rs [Bb 7 .lss 6 5]
 (.seq (Ct 7 .skip
 (.exit 0))
 (.seq (.block 1 (Rs [Mv 8 6, Mv 3 8]
 (Rs [Mv 9 0, Mv 10 3, Io 11 (.sidx (.t 9) (.t 10)), Io 12 (.bin .lss (.t 11) (.c (.int .u8 97))), Mv 13 12, Gf 13 (Mv 14 0), Gf 13 (Mv 15 3), Gf 13 (Io 16 (.sidx (.t 14) (.t 15))), Gf 13 (Io 17 (.bin .gtr (.t 16) (.c (.int .u8 122)))), Pk 18 13 17]
 (Ct 18 (Rs [Kb 2 false]
 .ret)
 .skip))))
 (.reg [Bk 19 .add 6 1, Mv 6 19])))))))
 (Rs [Mv 20 0, Io 21 (.len true (.t 20)), Io 22 (.call 76 [(false, .t 21), (false, .c (.int .i64 1)), (false, .c (.int .i64 6))]), Mv 2 22]
 .ret)))
def if_as9 : IFn := ⟨23, [.inl 2], ib_as9, lcF []⟩
def ks_as9 : List (List (Option Nat)) := [[none]]
def gl_as9_1 : List UInt8 → Nat → Option (Bool ⊕ Unit)
 | [], k10 => some (.inr ())
 | x11 :: l12, k10 => if (decide ((x11.toNat : Int) < 97)) = true then (some (.inl (false))) else (if (decide ((x11.toNat : Int) > 122)) = true then (some (.inl (false))) else (gl_as9_1 l12 (k10 + 1) ))
def gf_as9 (a0 : Str) : Option Bool := if fits a0.size = true then ((gl_as9_1 a0.data.toList 0 ).bind fun q => match q with | .inl r => some r | .inr q8 => (gf_bb9 (a0.size : Int) 1 6).bind fun x19 => some (x19)) else none
def c_as9 : Con := ⟨Str, Bool, 80, fun a => [.v (.string a)], fun a => gf_as9 a, fun a r => ⟨[(false, [.v (.bool r)])], []⟩, fun a => []⟩
/-! impl.ShapeOk -/
def ib_aj9 : IC :=
 (Rs [Io 1 (.box 226 [none, some 66] (.t 0)), Kb 2 false]
 (.seq (Rs [Fa 6 1 1, Ld 7 1 6, Ln 8 7, Ki 9 0]
 (blkC 0 (.loop (Rs [Bb 10 .lss 9 8]
 (.seq (Ct 10 .skip
 (.exit 0))
 (.seq (.block 1 (Rs [Mv 11 9, Ia 12 2 7 9, La 13 2 12, Io 4 (.alloc 66 [.v (.int .i64 0), .v (.int .i64 0)]), Mv 3 11, Sv [none, none] 4 13]
 (.seq (.drw [La 14 2 4, Ca 15 79 [14], Nt 16 15, Mv 17 16, Gf 17 (Mv 18 3), Gf 17 (Bk 19 .gtr 18 0), Gf 17 (Mv 20 19), Gt 20 (Fa 21 1 1), Gt 20 (Ld 22 1 21), Gt 20 (Mv 23 3), Gt 20 (Bk 24 .sub 23 1), Gt 20 (Ia 25 2 22 24), Gt 20 (La 26 2 25), Gt 20 (La 27 2 4), Gt 20 (Io 28 (.eqs false true [0, 0] (.t 26) (.t 27))), Gf 17 (Io 29 (.pick (.t 20) (.t 28) (.c (.bool false)))), Pk 30 17 29] [(8, 13), (12, 13)])
 (Ct 30 (Rs [Kb 2 false]
 .ret)
 .skip))))
 (.reg [Bk 31 .add 9 1, Mv 9 31])))))))
 (Rs [Fa 32 1 1, Ld 33 1 32, Ln 34 33, Mv 5 34]
 (.seq (Rs [Fa 35 0 1, Ld 36 1 35]
 (.block 2 (Rs [Bk 38 .eql 36 1, Mv 37 38]
 (Ct 37 (Rs [Mv 39 5, Bk 40 .eql 39 1, Mv 2 40]
 .ret)
 (Rs [Bk 42 .eql 36 2, Mv 41 42]
 (Ct 41 (Rs [Mv 43 5, Io 44 (.call 76 [(false, .t 43), (false, .c (.int .i64 2)), (false, .c (.int .i64 6))]), Mv 2 44]
 .ret)
 (Rs [Bk 46 .eql 36 3, Mv 45 46]
 (Ct 45 (.seq (.drw [Mv 47 5, Io 48 (.call 76 [(false, .t 47), (false, .c (.int .i64 3)), (false, .c (.int .i64 6))]), Mv 49 48, Gt 49 (Fa 50 1 1), Gt 49 (Ld 51 1 50), Gt 49 (Io 52 (.iaddr 2 (.t 51) (.c (.int .i64 0)))), Gt 49 (La 53 2 52), Gt 49 (Fa 54 1 1), Gt 49 (Ld 55 1 54), Gt 49 (Mv 56 5), Gt 49 (Bk 57 .sub 56 1), Gt 49 (Ia 58 2 55 57), Gt 49 (La 59 2 58), Gt 49 (Io 60 (.eqs true true [0, 0] (.t 53) (.t 59))), Io 61 (.pick (.t 49) (.t 60) (.c (.bool false))), Mv 2 61] [(4, 8), (6, 8), (4, 12), (6, 12)])
 .ret)
 .skip))))))))
 (Rs [Kb 2 false]
 .ret)))))
def if_aj9 : IFn := ⟨62, [.inl 2], ib_aj9, lcF []⟩
def ks_aj9 : List (List (Option Nat)) := [[none]]
def gl_aj9_1 (a0 : Shape) : List Pt → Nat → Option (Bool ⊕ Unit)
 | [], k27 => some (.inr ())
 | x28 :: l29, k27 => (gf_az9 x28).bind fun x37 => if (!x37) = true then (some (.inl (false))) else (if (decide ((k27 : Int) > 0)) = true then ((idx a0.pts (IntKind.i64.wrap ((k27 : Int) - 1))).bind fun x39 => if ((x39.x == x28.x) && ((x39.y == x28.y) && true)) = true then (some (.inl (false))) else (gl_aj9_1 a0 l29 (k27 + 1) )) else (gl_aj9_1 a0 l29 (k27 + 1) ))
def gf_aj9 (a0 : Shape) : Option Bool := if fits a0.pts.length = true then ((gl_aj9_1 a0 a0.pts 0 ).bind fun q => match q with | .inl r => some r | .inr q24 => if (a0.kind == 1) = true then (some (((a0.pts.length : Int) == 1))) else (if (a0.kind == 2) = true then ((gf_bb9 (a0.pts.length : Int) 2 6).bind fun x42 => some (x42)) else (if (a0.kind == 3) = true then ((gf_bb9 (a0.pts.length : Int) 3 6).bind fun x44 => if x44 = true then ((idx a0.pts 0).bind fun x46 => (idx a0.pts (IntKind.i64.wrap ((a0.pts.length : Int) - 1))).bind fun x48 => some ((!((x46.x == x48.x) && ((x46.y == x48.y) && true))))) else (some (false))) else (some (false))))) else none
def c_aj9 : Con := ⟨Shape, Bool, 81, fun a => [.agg [.v (.int .i64 a.kind), .ro (List.map ePt a.pts)]], fun a => gf_aj9 a, fun a r => ⟨[(false, [.v (.bool r)])], []⟩, fun a => []⟩
/-! impl.FeatOk -/
def ib_aa9 : IC :=
 (Rs [Io 1 (.box 100 [none, none, some 66, some 82] (.t 0)), Kb 2 false]
 (.seq (Rs [Fa 5 3 1, Ld 6 1 5, Ln 7 6, Ki 8 0]
 (blkC 0 (.loop (Rs [Bb 9 .lss 8 7]
 (.seq (Ct 9 .skip
 (.exit 0))
 (.seq (.block 1 (Rs [Mv 10 8, Ia 11 2 6 8, La 12 2 11, Io 4 (.alloc 82 [.v (.string ⟨#[]⟩), .v (.string ⟨#[]⟩)]), Mv 3 10, Sv [none, none] 4 12]
 (.seq (.drw [Fa 13 0 4, Ld 14 1 13, Ca 15 80 [14], Nt 16 15, Mv 17 16, Gf 17 (Fa 18 1 4), Gf 17 (Ld 19 1 18), Gf 17 (Ca 20 80 [19]), Gf 17 (Nt 21 20), Pk 22 17 21, Mv 23 22, Gf 23 (Mv 24 3), Gf 23 (Bk 25 .gtr 24 0), Gf 23 (Mv 26 25), Gt 26 (Fa 27 3 1), Gt 26 (Ld 28 1 27), Gt 26 (Mv 29 3), Gt 26 (Bk 30 .sub 29 1), Gt 26 (Ia 31 2 28 30), Gt 26 (Fa 32 0 31), Gt 26 (Ld 33 1 32), Gt 26 (Fa 34 0 4), Gt 26 (Ld 35 1 34), Gt 26 (Bb 36 .geq 33 35), Gf 23 (Io 37 (.pick (.t 26) (.t 36) (.c (.bool false)))), Pk 38 23 37] [(15, 22), (20, 22)])
 (Ct 38 (Rs [Kb 2 false]
 .ret)
 .skip))))
 (.reg [Bk 39 .add 8 1, Mv 8 39])))))))
 (Rs [Fa 40 0 1, Ld 41 1 40, Ca 42 80 [41], Mv 43 42, Gt 43 (Fa 44 1 1), Gt 43 (La 45 2 44), Gt 43 (Ca 46 81 [45]), Io 47 (.pick (.t 43) (.t 46) (.c (.bool false))), Mv 48 47, Gt 48 (Fa 49 3 1), Gt 48 (Ld 50 1 49), Gt 48 (Ln 51 50), Gt 48 (Bk 52 .leq 51 4), Io 53 (.pick (.t 48) (.t 52) (.c (.bool false))), Mv 2 53]
 .ret)))
def if_aa9 : IFn := ⟨54, [.inl 2], ib_aa9, lcF []⟩
def ks_aa9 : List (List (Option Nat)) := [[none]]
def gl_aa9_1 (a0 : Feat) : List Tag → Nat → Option (Bool ⊕ Unit)
 | [], k33 => some (.inr ())
 | x34 :: l35, k33 => (gf_as9 x34.key).bind fun x43 => if (!x43) = true then (some (.inl (false))) else ((gf_as9 x34.val).bind fun x45 => if (!x45) = true then (some (.inl (false))) else (if (decide ((k33 : Int) > 0)) = true then ((idx a0.tags (IntKind.i64.wrap ((k33 : Int) - 1))).bind fun x47 => if (!slt x47.key x34.key) = true then (some (.inl (false))) else (gl_aa9_1 a0 l35 (k33 + 1) )) else (gl_aa9_1 a0 l35 (k33 + 1) )))
def gf_aa9 (a0 : Feat) : Option Bool := if fits a0.tags.length = true then ((gl_aa9_1 a0 a0.tags 0 ).bind fun q => match q with | .inl r => some r | .inr q30 => (gf_as9 a0.id).bind fun x50 => if x50 = true then ((gf_aj9 a0.shape).bind fun x52 => if x52 = true then (some ((decide ((a0.tags.length : Int) ≤ 4)))) else (some (false))) else (some (false))) else none
def c_aa9 : Con := ⟨Feat, Bool, 82, fun a => [.agg [.v (.string a.id), .v (.int .i64 a.shape.kind), .ro (List.map ePt a.shape.pts), .ro (List.map eTag a.tags)]], fun a => gf_aa9 a, fun a r => ⟨[(false, [.v (.bool r)])], []⟩, fun a => []⟩
/-! slices.Equal[[]impl.Pt,impl.Pt] -/
def ib_dh9 : IC :=
 (Rs [Kb 4 false]
 (.seq (Rs [Mv 6 0, Ln 7 6, Mv 8 1, Ln 9 8, Bb 10 .neq 7 9]
 (Ct 10 (Rs [Kb 4 false]
 .ret)
 .skip))
 (.seq (Rs [Mv 11 0, Ln 12 11, Ki 13 0]
 (blkC 0 (.loop (Rs [Bb 14 .lss 13 12]
 (.seq (Ct 14 .skip
 (.exit 0))
 (.seq (.block 1 (Rs [Mv 15 13, Mv 5 15]
 (.seq (.drw [Mv 16 0, Mv 17 5, Ia 18 2 16 17, La 19 2 18, Mv 20 1, Mv 21 5, Ia 22 2 20 21, La 23 2 22, Io 24 (.eqs true true [0, 0] (.t 19) (.t 23))] [(3, 7)])
 (Ct 24 (Rs [Kb 4 false]
 .ret)
 .skip))))
 (.reg [Bk 25 .add 13 1, Mv 13 25])))))))
 (Rs [Kb 4 true]
 .ret))))
def if_dh9 : IFn := ⟨26, [.inl 4], ib_dh9, lcF []⟩
def ks_dh9 : List (List (Option Nat)) := [[none]]
def gl_dh9_1 (a1 : (List Pt)) : List Pt → Nat → Option (Bool ⊕ Unit)
 | [], k16 => some (.inr ())
 | x17 :: l18, k16 => (idx a1 (k16 : Int)).bind fun x25 => if (!((x17.x == x25.x) && ((x17.y == x25.y) && true))) = true then (some (.inl (false))) else (gl_dh9_1 a1 l18 (k16 + 1) )
def gf_dh9 (a0 : (List Pt)) (a1 : (List Pt)) : Option Bool := if ((a0.length : Int) != (a1.length : Int)) = true then (some (false)) else (if fits a0.length = true then ((gl_dh9_1 a1 a0 0 ).bind fun q => match q with | .inl r => some r | .inr q14 => some (true)) else none)
def c_dh9 : Con := ⟨(List Pt) × (List Pt), Bool, 127, fun a => [.ro (List.map ePt a.1), .ro (List.map ePt a.2)], fun a => gf_dh9 a.1 a.2, fun a r => ⟨[(false, [.v (.bool r)])], []⟩, fun a => []⟩
/-! impl.ShapeSame -/
def ib_ak9 : IC :=
 (Rs [Io 2 (.box 226 [none, some 66] (.t 0)), Io 3 (.box 226 [none, some 66] (.t 1)), Kb 4 false]
 (Rs [Fa 5 0 2, Ld 6 1 5, Fa 7 0 3, Ld 8 1 7, Bb 9 .eql 6 8, Mv 10 9, Gt 10 (Fa 11 1 2), Gt 10 (Ld 12 1 11), Gt 10 (Fa 13 1 3), Gt 10 (Ld 14 1 13), Gt 10 (Ca 15 127 [12, 14]), Io 16 (.pick (.t 10) (.t 15) (.c (.bool false))), Mv 4 16]
 .ret))
def if_ak9 : IFn := ⟨17, [.inl 4], ib_ak9, lcF []⟩
def ks_ak9 : List (List (Option Nat)) := [[none]]
def gf_ak9 (a0 : Shape) (a1 : Shape) : Option Bool := if (a0.kind == a1.kind) = true then ((gf_dh9 a0.pts a1.pts).bind fun x3 => some (x3)) else (some (false))
def c_ak9 : Con := ⟨Shape × Shape, Bool, 128, fun a => [.agg [.v (.int .i64 a.1.kind), .ro (List.map ePt a.1.pts)], .agg [.v (.int .i64 a.2.kind), .ro (List.map ePt a.2.pts)]], fun a => gf_ak9 a.1 a.2, fun a r => ⟨[(false, [.v (.bool r)])], []⟩, fun a => []⟩
/-! slices.Equal[[]impl.Tag,impl.Tag] -/
def ib_di9 : IC :=
 (Rs [Kb 4 false]
 (.seq (Rs [Mv 6 0, Ln 7 6, Mv 8 1, Ln 9 8, Bb 10 .neq 7 9]
 (Ct 10 (Rs [Kb 4 false]
 .ret)
 .skip))
 (.seq (Rs [Mv 11 0, Ln 12 11, Ki 13 0]
 (blkC 0 (.loop (Rs [Bb 14 .lss 13 12]
 (.seq (Ct 14 .skip
 (.exit 0))
 (.seq (.block 1 (Rs [Mv 15 13, Mv 5 15]
 (.seq (.drw [Mv 16 0, Mv 17 5, Ia 18 2 16 17, La 19 2 18, Mv 20 1, Mv 21 5, Ia 22 2 20 21, La 23 2 22, Io 24 (.eqs true true [2, 2] (.t 19) (.t 23))] [(3, 7)])
 (Ct 24 (Rs [Kb 4 false]
 .ret)
 .skip))))
 (.reg [Bk 25 .add 13 1, Mv 13 25])))))))
 (Rs [Kb 4 true]
 .ret))))
def if_di9 : IFn := ⟨26, [.inl 4], ib_di9, lcF []⟩
def ks_di9 : List (List (Option Nat)) := [[none]]
def gl_di9_1 (a1 : (List Tag)) : List Tag → Nat → Option (Bool ⊕ Unit)
 | [], k16 => some (.inr ())
 | x17 :: l18, k16 => (idx a1 (k16 : Int)).bind fun x25 => if (!((x17.key == x25.key) && ((x17.val == x25.val) && true))) = true then (some (.inl (false))) else (gl_di9_1 a1 l18 (k16 + 1) )
def gf_di9 (a0 : (List Tag)) (a1 : (List Tag)) : Option Bool := if ((a0.length : Int) != (a1.length : Int)) = true then (some (false)) else (if fits a0.length = true then ((gl_di9_1 a1 a0 0 ).bind fun q => match q with | .inl r => some r | .inr q14 => some (true)) else none)
def c_di9 : Con := ⟨(List Tag) × (List Tag), Bool, 129, fun a => [.ro (List.map eTag a.1), .ro (List.map eTag a.2)], fun a => gf_di9 a.1 a.2, fun a r => ⟨[(false, [.v (.bool r)])], []⟩, fun a => []⟩
/-! impl.FeatSame -/
def ib_ab9 : IC :=
 (Rs [Io 2 (.box 100 [none, none, some 66, some 82] (.t 0)), Io 3 (.box 100 [none, none, some 66, some 82] (.t 1)), Kb 4 false]
 (Rs [Fa 5 0 2, Ld 6 1 5, Fa 7 0 3, Ld 8 1 7, Bb 9 .eql 6 8, Mv 10 9, Gt 10 (Fa 11 1 2), Gt 10 (La 12 2 11), Gt 10 (Fa 13 1 3), Gt 10 (La 14 2 13), Gt 10 (Ca 15 128 [12, 14]), Io 16 (.pick (.t 10) (.t 15) (.c (.bool false))), Mv 17 16, Gt 17 (Fa 18 3 2), Gt 17 (Ld 19 1 18), Gt 17 (Fa 20 3 3), Gt 17 (Ld 21 1 20), Gt 17 (Ca 22 129 [19, 21]), Io 23 (.pick (.t 17) (.t 22) (.c (.bool false))), Mv 4 23]
 .ret))
def if_ab9 : IFn := ⟨24, [.inl 4], ib_ab9, lcF []⟩
def ks_ab9 : List (List (Option Nat)) := [[none]]
def gf_ab9 (a0 : Feat) (a1 : Feat) : Option Bool := if (seq a0.id a1.id) = true then ((gf_ak9 a0.shape a1.shape).bind fun x3 => if x3 = true then ((gf_di9 a0.tags a1.tags).bind fun x5 => some (x5)) else (some (false))) else (some (false))
def c_ab9 : Con := ⟨Feat × Feat, Bool, 130, fun a => [.agg [.v (.string a.1.id), .v (.int .i64 a.1.shape.kind), .ro (List.map ePt a.1.shape.pts), .ro (List.map eTag a.1.tags)], .agg [.v (.string a.2.id), .v (.int .i64 a.2.shape.kind), .ro (List.map ePt a.2.shape.pts), .ro (List.map eTag a.2.tags)]], fun a => gf_ab9 a.1 a.2, fun a r => ⟨[(false, [.v (.bool r)])], []⟩, fun a => []⟩
/-! slices.EqualFunc[[]impl.Feat,[]impl.Feat,impl.Feat,impl.Feat] -/
def ib_df9 : IC :=
 (Rs [Kb 6 false]
 (.seq (Rs [Mv 10 0, Ln 11 10, Mv 12 1, Ln 13 12, Bb 14 .neq 11 13]
 (Ct 14 (Rs [Kb 6 false]
 .ret)
 .skip))
 (.seq (Rs [Mv 15 0, Ln 16 15, Ki 17 0]
 (blkC 0 (.loop (Rs [Bb 18 .lss 17 16]
 (.seq (Ct 18 .skip
 (.exit 0))
 (.seq (.block 1 (Rs [Mv 19 17, Ia 20 4 15 17, La 21 4 20, Io 8 (.alloc 100 [.v (.string ⟨#[]⟩), .v (.int .i64 0), .sl true 66 [], .sl true 82 []]), Mv 7 19, Sv [none, none, some 66, some 82] 8 21]
 (Rs [Mv 22 1, Mv 23 7, Ia 24 4 22 23, La 25 4 24, Io 9 (.alloc 100 [.v (.string ⟨#[]⟩), .v (.int .i64 0), .sl true 66 [], .sl true 82 []]), Sv [none, none, some 66, some 82] 9 25]
 (Rs [Mv 26 2, La 27 4 8, La 28 4 9, Io 29 (.calld (.t 26) [(false, .t 27), (false, .t 28)]), Nt 30 29]
 (Ct 30 (Rs [Kb 6 false]
 .ret)
 .skip)))))
 (.reg [Bk 31 .add 17 1, Mv 17 31])))))))
 (Rs [Kb 6 true]
 .ret))))
def if_df9 : IFn := ⟨32, [.inl 6], ib_df9, lcF []⟩
def ks_df9 : List (List (Option Nat)) := [[none]]
def gl_dg9_1 (a1 : (List Feat)) : List Feat → Nat → Option (Bool ⊕ Unit)
 | [], k28 => some (.inr ())
 | x29 :: l30, k28 => (idx a1 (k28 : Int)).bind fun x38 => (gf_ab9 x29 x38).bind fun x41 => if (!x41) = true then (some (.inl (false))) else (gl_dg9_1 a1 l30 (k28 + 1) )
def gf_dg9 (a0 : (List Feat)) (a1 : (List Feat)) : Option Bool := if ((a0.length : Int) != (a1.length : Int)) = true then (some (false)) else (if fits a0.length = true then ((gl_dg9_1 a1 a0 0 ).bind fun q => match q with | .inl r => some r | .inr q26 => some (true)) else none)
def c_dg9 : Con := ⟨(List Feat) × (List Feat), Bool, 325, fun a => [.ro (List.map (eFeat false) a.1), .ro (List.map (eFeat false) a.2), .fn 130 []], fun a => gf_dg9 a.1 a.2, fun a r => ⟨[(false, [.v (.bool r)])], []⟩, fun a => []⟩
/-! impl.SheetSame -/
def ib_am9 : IC :=
 (Rs [Kb 4 false]
 (Rs [Mv 5 0, Mv 6 1, Io 7 (.call 325 [(false, .t 5), (false, .t 6), (false, .f 130)]), Mv 4 7]
 .ret))
def if_am9 : IFn := ⟨8, [.inl 4], ib_am9, lcF []⟩
def ks_am9 : List (List (Option Nat)) := [[none]]
def gf_am9 (a0 : (List Feat)) (a1 : (List Feat)) : Option Bool := (gf_dg9 a0 a1).bind fun x1 => some (x1)
def c_am9 : Con := ⟨(List Feat) × (List Feat), Bool, 220, fun a => [.ro (List.map (eFeat false) a.1), .ro (List.map (eFeat false) a.2)], fun a => gf_am9 a.1 a.2, fun a r => ⟨[(false, [.v (.bool r)])], []⟩, fun a => []⟩
/-! slices.Equal[[]int,int] -/
def ib_dj9 : IC :=
 (Rs [Kb 4 false]
 (.seq (Rs [Mv 6 0, Ln 7 6, Mv 8 1, Ln 9 8, Bb 10 .neq 7 9]
 (Ct 10 (Rs [Kb 4 false]
 .ret)
 .skip))
 (.seq (Rs [Mv 11 0, Ln 12 11, Ki 13 0]
 (blkC 0 (.loop (Rs [Bb 14 .lss 13 12]
 (.seq (Ct 14 .skip
 (.exit 0))
 (.seq (.block 1 (Rs [Mv 15 13, Mv 5 15]
 (.seq (.drw [Mv 16 0, Mv 17 5, Ia 18 1 16 17, Ld 19 1 18, Mv 20 1, Mv 21 5, Ia 22 1 20 21, Ld 23 1 22, Bb 24 .neq 19 23] [(3, 7)])
 (Ct 24 (Rs [Kb 4 false]
 .ret)
 .skip))))
 (.reg [Bk 25 .add 13 1, Mv 13 25])))))))
 (Rs [Kb 4 true]
 .ret))))
def if_dj9 : IFn := ⟨26, [.inl 4], ib_dj9, lcF []⟩
def ks_dj9 : List (List (Option Nat)) := [[none]]
def gl_dj9_1 (a1 : (List Int)) : List Int → Nat → Option (Bool ⊕ Unit)
 | [], k16 => some (.inr ())
 | x17 :: l18, k16 => (idx a1 (k16 : Int)).bind fun x25 => if (x17 != x25) = true then (some (.inl (false))) else (gl_dj9_1 a1 l18 (k16 + 1) )
def gf_dj9 (a0 : (List Int)) (a1 : (List Int)) : Option Bool := if ((a0.length : Int) != (a1.length : Int)) = true then (some (false)) else (if fits a0.length = true then ((gl_dj9_1 a1 a0 0 ).bind fun q => match q with | .inl r => some r | .inr q14 => some (true)) else none)
def c_dj9 : Con := ⟨(List Int) × (List Int), Bool, 358, fun a => [.ro (List.map eInt a.1), .ro (List.map eInt a.2)], fun a => gf_dj9 a.1 a.2, fun a r => ⟨[(false, [.v (.bool r)])], []⟩, fun a => []⟩
/-! impl.sameCommit -/
def ib_ba9 : IC :=
 (Rs [Io 2 (.box 115 [some 17, some 100, none] (.t 0)), Io 3 (.box 115 [some 17, some 100, none] (.t 1)), Kb 4 false]
 (Rs [Fa 5 0 2, Ld 6 1 5, Fa 7 0 3, Ld 8 1 7, Ca 9 358 [6, 8], Mv 10 9, Gt 10 (Fa 11 1 2), Gt 10 (Ld 12 1 11), Gt 10 (Fa 13 1 3), Gt 10 (Ld 14 1 13), Gt 10 (Ca 15 220 [12, 14]), Io 16 (.pick (.t 10) (.t 15) (.c (.bool false))), Mv 17 16, Gt 17 (Fa 18 2 2), Gt 17 (Ld 19 1 18), Gt 17 (Fa 20 2 3), Gt 17 (Ld 21 1 20), Gt 17 (Bb 22 .eql 19 21), Io 23 (.pick (.t 17) (.t 22) (.c (.bool false))), Mv 4 23]
 .ret))
def if_ba9 : IFn := ⟨24, [.inl 4], ib_ba9, lcF []⟩
def ks_ba9 : List (List (Option Nat)) := [[none]]
def gf_ba9 (a0 : Commit) (a1 : Commit) : Option Bool := (gf_dj9 a0.up a1.up).bind fun x3 => if x3 = true then ((gf_am9 a0.sheet a1.sheet).bind fun x5 => if x5 = true then (some ((seq a0.note a1.note))) else (some (false))) else (some (false))
def c_ba9 : Con := ⟨Commit × Commit, Bool, 330, fun a => [.agg [.ro (List.map eInt a.1.up), .ro (List.map (eFeat false) a.1.sheet), .v (.string a.1.note)], .agg [.ro (List.map eInt a.2.up), .ro (List.map (eFeat false) a.2.sheet), .v (.string a.2.note)]], fun a => gf_ba9 a.1 a.2, fun a r => ⟨[(false, [.v (.bool r)])], []⟩, fun a => []⟩
/-! slices.Index[[]int,int] -/
def ib_dq9 : IC :=
 (Rs [Ki 4 0]
 (.seq (Rs [Mv 6 0, Ln 7 6, Ki 8 0]
 (blkC 0 (.loop (Rs [Bb 9 .lss 8 7]
 (.seq (Ct 9 .skip
 (.exit 0))
 (.seq (.block 1 (Rs [Mv 10 8, Mv 5 10]
 (Rs [Mv 11 1, Mv 12 0, Mv 13 5, Ia 14 1 12 13, Ld 15 1 14, Bb 16 .eql 11 15]
 (Ct 16 (Rs [Mv 17 5, Mv 4 17]
 .ret)
 .skip))))
 (.reg [Bk 18 .add 8 1, Mv 8 18])))))))
 (Rs [Ki 4 (-1)]
 .ret)))
def if_dq9 : IFn := ⟨19, [.inl 4], ib_dq9, lcF []⟩
def ks_dq9 : List (List (Option Nat)) := [[none]]
def gl_dq9_1 (a1 : Int) : List Int → Nat → Option (Int ⊕ Unit)
 | [], k10 => some (.inr ())
 | x11 :: l12, k10 => if (a1 == x11) = true then (some (.inl ((k10 : Int)))) else (gl_dq9_1 a1 l12 (k10 + 1) )
def gf_dq9 (a0 : (List Int)) (a1 : Int) : Option Int := if fits a0.length = true then ((gl_dq9_1 a1 a0 0 ).bind fun q => match q with | .inl r => some r | .inr q8 => some ((-1))) else none
def c_dq9 : Con := ⟨(List Int) × Int, Int, 85, fun a => [.ro (List.map eInt a.1), .v (.int .i64 a.2)], fun a => gf_dq9 a.1 a.2, fun a r => ⟨[(false, [.v (.int .i64 r)])], []⟩, fun a => []⟩
/-! impl.SheetOk -/
def ib_al9 : IC :=
 (Rs [Kb 2 false]
 (.seq (Rs [Mv 5 0, Ln 6 5, Ki 7 0]
 (blkC 0 (.loop (Rs [Bb 8 .lss 7 6]
 (.seq (Ct 8 .skip
 (.exit 0))
 (.seq (.block 1 (Rs [Mv 9 7, Ia 10 4 5 7, La 11 4 10, Io 4 (.alloc 100 [.v (.string ⟨#[]⟩), .v (.int .i64 0), .sl true 66 [], .sl true 82 []]), Mv 3 9, Sv [none, none, some 66, some 82] 4 11]
 (.seq (.drw [La 12 4 4, Ca 13 82 [12], Nt 14 13, Mv 15 14, Gf 15 (Mv 16 3), Gf 15 (Bk 17 .gtr 16 0), Gf 15 (Mv 18 17), Gt 18 (Mv 19 0), Gt 18 (Mv 20 3), Gt 18 (Bk 21 .sub 20 1), Gt 18 (Ia 22 4 19 21), Gt 18 (Fa 23 0 22), Gt 18 (Ld 24 1 23), Gt 18 (Fa 25 0 4), Gt 18 (Ld 26 1 25), Gt 18 (Bb 27 .geq 24 26), Gf 15 (Io 28 (.pick (.t 18) (.t 27) (.c (.bool false)))), Pk 29 15 28] [(12, 14)])
 (Ct 29 (Rs [Kb 2 false]
 .ret)
 .skip))))
 (.reg [Bk 30 .add 7 1, Mv 7 30])))))))
 (Rs [Mv 31 0, Ln 32 31, Bk 33 .leq 32 8, Mv 2 33]
 .ret)))
def if_al9 : IFn := ⟨34, [.inl 2], ib_al9, lcF []⟩
def ks_al9 : List (List (Option Nat)) := [[none]]
def gl_al9_1 (a0 : (List Feat)) : List Feat → Nat → Option (Bool ⊕ Unit)
 | [], k23 => some (.inr ())
 | x24 :: l25, k23 => (gf_aa9 x24).bind fun x33 => if (!x33) = true then (some (.inl (false))) else (if (decide ((k23 : Int) > 0)) = true then ((idx a0 (IntKind.i64.wrap ((k23 : Int) - 1))).bind fun x35 => if (!slt x35.id x24.id) = true then (some (.inl (false))) else (gl_al9_1 a0 l25 (k23 + 1) )) else (gl_al9_1 a0 l25 (k23 + 1) ))
def gf_al9 (a0 : (List Feat)) : Option Bool := if fits a0.length = true then ((gl_al9_1 a0 a0 0 ).bind fun q => match q with | .inl r => some r | .inr q21 => some ((decide ((a0.length : Int) ≤ 8)))) else none
def c_al9 : Con := ⟨(List Feat), Bool, 86, fun a => [.ro (List.map (eFeat false) a)], fun a => gf_al9 a, fun a r => ⟨[(false, [.v (.bool r)])], []⟩, fun a => []⟩
/-! (impl.Repo).commit$1 -/
def ib_ae9 : IC :=
 (Rs [Io 2 (.box 115 [some 17, some 100, none] (.t 0)), Kb 3 false]
 (Rs [La 4 3 2, La 5 3 1, Ca 6 330 [4, 5], Mv 3 6]
 .ret))
def if_ae9 : IFn := ⟨7, [.inl 3], ib_ae9, lcF []⟩
def ks_ae9 : List (List (Option Nat)) := [[none]]
def gf_ae9 (a0 : Commit) (a1 : Commit) : Option Bool := (gf_ba9 a0 a1).bind fun x2 => some (x2)
def c_ae9 : Con := ⟨Commit × Commit, Bool, 83, fun a => [.agg [.ro (List.map eInt a.1.up), .ro (List.map (eFeat false) a.1.sheet), .v (.string a.1.note)], .rptr [.sl false 1 (List.map eInt a.2.up), .sl false 4 (List.map (eFeat false) a.2.sheet), .v (.string a.2.note)]], fun a => gf_ae9 a.1 a.2, fun a r => ⟨[(false, [.v (.bool r)])], []⟩, fun a => []⟩
/-! slices.IndexFunc[[]impl.Commit,impl.Commit] -/
def ib_dm9 : IC :=
 (Rs [Ki 4 0]
 (.seq (Rs [Mv 6 0, Ln 7 6, Ki 8 0]
 (blkC 0 (.loop (Rs [Bb 9 .lss 8 7]
 (.seq (Ct 9 .skip
 (.exit 0))
 (.seq (.block 1 (Rs [Mv 10 8, Mv 5 10]
 (Rs [Mv 11 1, Mv 12 0, Mv 13 5, Ia 14 3 12 13, La 15 3 14, Io 16 (.calld (.t 11) [(false, .t 15)])]
 (Ct 16 (Rs [Mv 17 5, Mv 4 17]
 .ret)
 .skip))))
 (.reg [Bk 18 .add 8 1, Mv 8 18])))))))
 (Rs [Ki 4 (-1)]
 .ret)))
def if_dm9 : IFn := ⟨19, [.inl 4], ib_dm9, lcF []⟩
def ks_dm9 : List (List (Option Nat)) := [[none]]
def gl_dn9_1 (a1 : Commit) : List Commit → Nat → Option (Int ⊕ Unit)
 | [], k16 => some (.inr ())
 | x17 :: l18, k16 => (gf_ae9 x17 a1).bind fun x25 => if x25 = true then (some (.inl ((k16 : Int)))) else (gl_dn9_1 a1 l18 (k16 + 1) )
def gf_dn9 (a0 : (List Commit)) (a1 : Commit) : Option Int := if fits a0.length = true then ((gl_dn9_1 a1 a0 0 ).bind fun q => match q with | .inl r => some r | .inr q14 => some ((-1))) else none
def c_dn9 : Con := ⟨(List Commit) × Commit, Int, 84, fun a => [.ro (List.map (eCommit false) a.1), .fn 83 [.rptr [.sl false 1 (List.map eInt a.2.up), .sl false 4 (List.map (eFeat false) a.2.sheet), .v (.string a.2.note)]]], fun a => gf_dn9 a.1 a.2, fun a r => ⟨[(false, [.v (.int .i64 r)])], []⟩, fun a => []⟩
/-! (impl.Repo).commit -/
def ib_ad9 : IC :=
 (Rs [Io 2 (.box 210 [some 115, some 130] (.t 0)), Io 3 (.box 115 [some 17, some 100, none] (.t 1)), Ki 4 0]
 (Rs [Fa 5 0 2, Ld 6 1 5, Io 7 (.mkf 83 [.t 3]), Ca 8 84 [6, 7], Mv 4 8]
 .ret))
def if_ad9 : IFn := ⟨9, [.inl 4], ib_ad9, lcF []⟩
def ks_ad9 : List (List (Option Nat)) := [[none]]
def gf_ad9 (a0 : Repo) (a1 : Commit) : Option Int := (gf_dn9 a0.commits a1).bind fun x3 => some (x3)
def c_ad9 : Con := ⟨Repo × Commit, Int, 87, fun a => [.agg [.ro (List.map (eCommit false) a.1.commits), .ro (List.map eHead a.1.heads)], .agg [.ro (List.map eInt a.2.up), .ro (List.map (eFeat false) a.2.sheet), .v (.string a.2.note)]], fun a => gf_ad9 a.1 a.2, fun a r => ⟨[(false, [.v (.int .i64 r)])], []⟩, fun a => []⟩
/-! slices.Contains[[]int,int] -/
def ib_de9 : IC :=
 (Rs [Kb 4 false]
 (Rs [Mv 5 0, Mv 6 1, Ca 7 85 [5, 6], Bk 8 .geq 7 0, Mv 4 8]
 .ret))
def if_de9 : IFn := ⟨9, [.inl 4], ib_de9, lcF []⟩
def ks_de9 : List (List (Option Nat)) := [[none]]
def gf_de9 (a0 : (List Int)) (a1 : Int) : Option Bool := (gf_dq9 a0 a1).bind fun x1 => some ((decide (x1 ≥ 0)))
def c_de9 : Con := ⟨(List Int) × Int, Bool, 88, fun a => [.ro (List.map eInt a.1), .v (.int .i64 a.2)], fun a => gf_de9 a.1 a.2, fun a r => ⟨[(false, [.v (.bool r)])], []⟩, fun a => []⟩
/-! (impl.Repo).head$1 -/
def ib_ag9 : IC :=
 (Rs [Io 2 (.box 130 [none, none] (.t 0)), Kb 3 false]
 (Rs [Fa 4 0 2, Ld 5 1 4, Ld 6 1 1, Bb 7 .eql 5 6, Mv 3 7]
 .ret))
def if_ag9 : IFn := ⟨8, [.inl 3], ib_ag9, lcF []⟩
def ks_ag9 : List (List (Option Nat)) := [[none]]
def gf_ag9 (a0 : Head) (a1 : Str) : Option Bool := some ((seq a0.name a1))
def c_ag9 : Con := ⟨Head × Str, Bool, 77, fun a => [.agg [.v (.string a.1.name), .v (.int .i64 a.1.at_)], .rptr [.v (.string a.2)]], fun a => gf_ag9 a.1 a.2, fun a r => ⟨[(false, [.v (.bool r)])], []⟩, fun a => []⟩
/-! slices.IndexFunc[[]impl.Head,impl.Head] -/
def ib_do9 : IC :=
 (Rs [Ki 4 0]
 (.seq (Rs [Mv 6 0, Ln 7 6, Ki 8 0]
 (blkC 0 (.loop (Rs [Bb 9 .lss 8 7]
 (.seq (Ct 9 .skip
 (.exit 0))
 (.seq (.block 1 (Rs [Mv 10 8, Mv 5 10]
 (Rs [Mv 11 1, Mv 12 0, Mv 13 5, Ia 14 2 12 13, La 15 2 14, Io 16 (.calld (.t 11) [(false, .t 15)])]
 (Ct 16 (Rs [Mv 17 5, Mv 4 17]
 .ret)
 .skip))))
 (.reg [Bk 18 .add 8 1, Mv 8 18])))))))
 (Rs [Ki 4 (-1)]
 .ret)))
def if_do9 : IFn := ⟨19, [.inl 4], ib_do9, lcF []⟩
def ks_do9 : List (List (Option Nat)) := [[none]]
def gl_dp9_1 (a1 : Str) : List Head → Nat → Option (Int ⊕ Unit)
 | [], k16 => some (.inr ())
 | x17 :: l18, k16 => (gf_ag9 x17 a1).bind fun x25 => if x25 = true then (some (.inl ((k16 : Int)))) else (gl_dp9_1 a1 l18 (k16 + 1) )
def gf_dp9 (a0 : (List Head)) (a1 : Str) : Option Int := if fits a0.length = true then ((gl_dp9_1 a1 a0 0 ).bind fun q => match q with | .inl r => some r | .inr q14 => some ((-1))) else none
def c_dp9 : Con := ⟨(List Head) × Str, Int, 78, fun a => [.ro (List.map eHead a.1), .fn 77 [.rptr [.v (.string a.2)]]], fun a => gf_dp9 a.1 a.2, fun a r => ⟨[(false, [.v (.int .i64 r)])], []⟩, fun a => []⟩
/-! (impl.Repo).head -/
def ib_af9 : IC :=
 (Rs [Io 2 (.box 210 [some 115, some 130] (.t 0)), Io 3 (.box 49 [none] (.t 1)), Ki 4 0]
 (Rs [Fa 5 1 2, Ld 6 1 5, Io 7 (.mkf 77 [.t 3]), Ca 8 78 [6, 7], Mv 4 8]
 .ret))
def if_af9 : IFn := ⟨9, [.inl 4], ib_af9, lcF []⟩
def ks_af9 : List (List (Option Nat)) := [[none]]
def gf_af9 (a0 : Repo) (a1 : Str) : Option Int := (gf_dp9 a0.heads a1).bind fun x3 => some (x3)
def c_af9 : Con := ⟨Repo × Str, Int, 89, fun a => [.agg [.ro (List.map (eCommit false) a.1.commits), .ro (List.map eHead a.1.heads)], .v (.string a.2)], fun a => gf_af9 a.1 a.2, fun a r => ⟨[(false, [.v (.int .i64 r)])], []⟩, fun a => []⟩
/-! (impl.Repo).version -/
def ib_ai9 : IC :=
 (Rs [Io 2 (.box 210 [some 115, some 130] (.t 0)), Kb 4 false]
 (Rs [Mv 5 1, Fa 6 0 2, Ld 7 1 6, Ln 8 7, Bk 9 .sub 8 1, Io 10 (.call 76 [(false, .t 5), (false, .c (.int .i64 0)), (false, .t 9)]), Mv 4 10]
 .ret))
def if_ai9 : IFn := ⟨11, [.inl 4], ib_ai9, lcF []⟩
def ks_ai9 : List (List (Option Nat)) := [[none]]
def gf_ai9 (a0 : Repo) (a1 : Int) : Option Bool := (gf_bb9 a1 0 (IntKind.i64.wrap ((a0.commits.length : Int) - 1))).bind fun x2 => some (x2)
def c_ai9 : Con := ⟨Repo × Int, Bool, 90, fun a => [.agg [.ro (List.map (eCommit false) a.1.commits), .ro (List.map eHead a.1.heads)], .v (.int .i64 a.2)], fun a => gf_ai9 a.1 a.2, fun a r => ⟨[(false, [.v (.bool r)])], []⟩, fun a => []⟩
/-! impl.cloneShape -/
def ib_ax9 : IC :=
 (Rs [Io 1 (.box 226 [none, some 66] (.t 0)), Io 2 (.alloc 226 [.v (.int .i64 0), .sl true 66 []])]
 (.seq (.drw [Fa 3 0 1, Ld 4 1 3, Io 5 (.lit 66 [none, none] [.v (.int .i64 0), .v (.int .i64 0)] 0 []), Fa 6 1 1, Ld 7 1 6, Io 8 (.app 66 false (.t 5) (.t 7)), Io 9 (.build [.v (.int .i64 0), .nil] [(0, 1, .t 4), (1, 1, .t 8)]), Sv [none, some 66] 2 9] [(1, 2), (1, 4), (2, 4), (1, 5)])
 .ret))
def if_ax9 : IFn := ⟨10, [.inr (2, 2)], ib_ax9, lcF []⟩
def ks_ax9 : List (List (Option Nat)) := [[none, some 66]]
def gf_ax9 (a0 : Shape) : Option Shape := if fits ([] ++ a0.pts).length = true then some ((⟨a0.kind, ([] ++ a0.pts)⟩ : Shape)) else none
def c_ax9 : Con := ⟨Shape, Shape, 91, fun a => [.agg [.v (.int .i64 a.kind), .ro (List.map ePt a.pts)]], fun a => gf_ax9 a, fun a r => ⟨[(true, eShape true r)], []⟩, fun a => []⟩
/-! impl.cloneFeat -/
def ib_av9 : IC :=
 (Rs [Io 1 (.box 100 [none, none, some 66, some 82] (.t 0)), Io 2 (.alloc 100 [.v (.string ⟨#[]⟩), .v (.int .i64 0), .sl true 66 [], .sl true 82 []])]
 (.seq (.drw [Fa 3 0 1, Ld 4 1 3, Fa 5 1 1, La 6 2 5, Ca 7 91 [6], Io 8 (.lit 82 [none, none] [.v (.string ⟨#[]⟩), .v (.string ⟨#[]⟩)] 0 []), Fa 9 3 1, Ld 10 1 9, Io 11 (.app 82 false (.t 8) (.t 10)), Io 12 (.build [.v (.string ⟨#[]⟩), .v (.int .i64 0), .nil, .nil] [(0, 1, .t 4), (1, 2, .t 7), (3, 1, .t 11)]), Sv [none, none, some 66, some 82] 2 12] [(1, 3), (1, 4), (1, 5), (3, 5), (4, 5), (1, 7), (3, 7), (4, 7), (5, 7), (1, 8)])
 .ret))
def if_av9 : IFn := ⟨13, [.inr (2, 4)], ib_av9, lcF []⟩
def ks_av9 : List (List (Option Nat)) := [[none, none, some 66, some 82]]
def gf_av9 (a0 : Feat) : Option Feat := (gf_ax9 a0.shape).bind fun x3 => if fits ([] ++ a0.tags).length = true then some ((⟨a0.id, x3, ([] ++ a0.tags)⟩ : Feat)) else none
def c_av9 : Con := ⟨Feat, Feat, 92, fun a => [.agg [.v (.string a.id), .v (.int .i64 a.shape.kind), .ro (List.map ePt a.shape.pts), .ro (List.map eTag a.tags)]], fun a => gf_av9 a, fun a r => ⟨[(true, eFeat true r)], []⟩, fun a => []⟩
/-! impl.cloneSheet -/
def ib_ay9 : IC :=
 (Rs [Io 2 (.mv (.c (.slice none 0 0)))]
 (Rs [Io 6 (.lit 100 [none, none, some 66, some 82] [.v (.string ⟨#[]⟩), .v (.int .i64 0), .sl true 66 [], .sl true 82 []] 0 []), Mv 3 6]
 (.seq (Rs [Mv 7 0, Ln 8 7, Ki 9 0]
 (blkC 0 (.loop (Rs [Bb 10 .lss 9 8]
 (.seq (Ct 10 .skip
 (.exit 0))
 (.seq (.block 1 (Rs [Ia 11 4 7 9, La 12 4 11, Io 5 (.alloc 100 [.v (.string ⟨#[]⟩), .v (.int .i64 0), .sl true 66 [], .sl true 82 []]), Sv [none, none, some 66, some 82] 5 12]
 (.reg [Mv 13 3, La 14 4 5, Ca 15 92 [14], Io 16 (.lit 100 [none, none, some 66, some 82] [.v (.string ⟨#[]⟩), .v (.int .i64 0), .sl true 66 [], .sl true 82 []] 1 [(0, .t 15)]), Io 17 (.app 100 true (.t 13) (.t 16)), Mv 3 17])))
 (.reg [Bk 18 .add 9 1, Mv 9 18])))))))
 (Rs [Mv 19 3, Mv 2 19]
 .ret))))
def if_ay9 : IFn := ⟨20, [.inl 2], ib_ay9, lcF []⟩
def ks_ay9 : List (List (Option Nat)) := [[some 100]]
def gl_ay9_1 : List Feat → Nat → (List Feat) → Option (List Feat)
 | [], k52, v49 => some v49
 | x53 :: l54, k52, v49 => (gf_av9 x53).bind fun x62 => if fits (v49 ++ ([x62] : (List Feat))).length = true then gl_ay9_1 l54 (k52 + 1) (v49 ++ ([x62] : (List Feat))) else none
def gf_ay9 (a0 : (List Feat)) : Option (List Feat) := if fits a0.length = true then ((gl_ay9_1 a0 0 []).bind fun q47 => some (q47)) else none
def c_ay9 : Con := ⟨(List Feat), (List Feat), 93, fun a => [.ro (List.map (eFeat false) a)], fun a => gf_ay9 a, fun a r => ⟨[(false, [sl true 100 (List.map (eFeat true) r)])], []⟩, fun a => []⟩
/-! impl.cloneCommit -/
def ib_au9 : IC :=
 (Rs [Io 1 (.box 115 [some 17, some 100, none] (.t 0)), Io 2 (.alloc 115 [.sl true 17 [], .sl true 100 [], .v (.string ⟨#[]⟩)])]
 (.seq (.drw [Io 3 (.lit 17 [none] [.v (.int .i64 0)] 0 []), Fa 4 0 1, Ld 5 1 4, Io 6 (.app 17 false (.t 3) (.t 5)), Fa 7 1 1, Ld 8 1 7, Ca 9 93 [8], Fa 10 2 1, Ld 11 1 10, Io 12 (.build [.nil, .nil, .v (.string ⟨#[]⟩)] [(0, 1, .t 6), (1, 1, .t 9), (2, 1, .t 11)]), Sv [some 17, some 100, none] 2 12] [(0, 2), (0, 5), (2, 5), (3, 5), (0, 8), (2, 8), (3, 8), (5, 8), (6, 8)])
 .ret))
def if_au9 : IFn := ⟨13, [.inr (2, 3)], ib_au9, lcF []⟩
def ks_au9 : List (List (Option Nat)) := [[some 17, some 100, none]]
def gf_au9 (a0 : Commit) : Option Commit := if fits ([] ++ a0.up).length = true then (gf_ay9 a0.sheet).bind fun x7 => some ((⟨([] ++ a0.up), x7, a0.note⟩ : Commit)) else none
def c_au9 : Con := ⟨Commit, Commit, 94, fun a => [.agg [.ro (List.map eInt a.up), .ro (List.map (eFeat false) a.sheet), .v (.string a.note)]], fun a => gf_au9 a, fun a r => ⟨[(true, eCommit true r)], []⟩, fun a => []⟩
/-! impl.RepoOk -/
def ib_ac9 : IC :=
 (Rs [Io 1 (.box 210 [some 115, some 130] (.t 0)), Kb 2 false]
 (.seq (Rs [Fa 9 0 1, Ld 10 1 9, Ln 11 10, Io 12 (.call 76 [(false, .t 11), (false, .c (.int .i64 1)), (false, .c (.int .i64 14))]), Nt 13 12, Mv 14 13, Gf 14 (Fa 15 1 1), Gf 14 (Ld 16 1 15), Gf 14 (Ln 17 16), Gf 14 (Io 18 (.call 76 [(false, .t 17), (false, .c (.int .i64 1)), (false, .c (.int .i64 4))])), Gf 14 (Nt 19 18), Pk 20 14 19]
 (Ct 20 (Rs [Kb 2 false]
 .ret)
 .skip))
 (.seq (Rs [Fa 21 0 1, Ld 22 1 21, Ln 23 22, Ki 24 0]
 (blkC 0 (.loop (Rs [Bb 25 .lss 24 23]
 (.seq (Ct 25 .skip
 (.exit 0))
 (.seq (.block 1 (Rs [Mv 26 24, Ia 27 3 22 24, La 28 3 27, Io 4 (.alloc 115 [.sl true 17 [], .sl true 100 [], .v (.string ⟨#[]⟩)]), Mv 3 26, Sv [some 17, some 100, none] 4 28]
 (.seq (Rs [Fa 29 1 4, Ld 30 1 29, Ca 31 86 [30], Nt 32 31, Mv 33 32, Gf 33 (Fa 34 2 4), Gf 33 (Ld 35 1 34), Gf 33 (Ca 36 80 [35]), Gf 33 (Nt 37 36), Pk 38 33 37, Mv 39 38, Gf 39 (La 40 2 1), Gf 39 (La 41 3 4), Gf 39 (Ca 42 87 [40, 41]), Gf 39 (Mv 43 3), Gf 39 (Bb 44 .neq 42 43), Pk 45 39 44, Mv 46 45, Gf 46 (Mv 47 3), Gf 46 (Bk 48 .eql 47 0), Gf 46 (Fa 49 0 4), Gf 46 (Ld 50 1 49), Gf 46 (Ln 51 50), Gf 46 (Bk 52 .eql 51 0), Gf 46 (Io 53 (.eqs true false [1] (.t 48) (.t 52))), Pk 54 46 53, Mv 55 54, Gf 55 (Fa 56 0 4), Gf 55 (Ld 57 1 56), Gf 55 (Ln 58 57), Gf 55 (Bk 59 .gtr 58 2), Pk 60 55 59]
 (Ct 60 (Rs [Kb 2 false]
 .ret)
 .skip))
 (Rs [Fa 61 0 4, Ld 62 1 61, Ln 63 62, Ki 64 0]
 (blkC 2 (.loop (Rs [Bb 65 .lss 64 63]
 (.seq (Ct 65 .skip
 (.exit 2))
 (.seq (.block 3 (Rs [Mv 66 64, Ia 67 1 62 64, Ld 68 1 67, Mv 5 66, Mv 6 68]
 (Rs [Mv 69 6, Mv 70 3, Bk 71 .sub 70 1, Io 72 (.call 76 [(false, .t 69), (false, .c (.int .i64 0)), (false, .t 71)]), Nt 73 72, Mv 74 73, Gf 74 (Fa 75 0 4), Gf 74 (Ld 76 1 75), Gf 74 (Mv 77 5), Gf 74 (Io 78 (.sls 1 (.t 76) none (some (.t 77)))), Gf 74 (Mv 79 6), Gf 74 (Ca 80 88 [78, 79]), Pk 81 74 80]
 (Ct 81 (Rs [Kb 2 false]
 .ret)
 .skip))))
 (.reg [Bk 82 .add 64 1, Mv 64 82]))))))))))
 (.reg [Bk 83 .add 24 1, Mv 24 83])))))))
 (.seq (Rs [Fa 84 1 1, Ld 85 1 84, Ln 86 85, Ki 87 0]
 (blkC 4 (.loop (Rs [Bb 88 .lss 87 86]
 (.seq (Ct 88 .skip
 (.exit 4))
 (.seq (.block 5 (Rs [Mv 89 87, Ia 90 2 85 87, La 91 2 90, Io 8 (.alloc 130 [.v (.string ⟨#[]⟩), .v (.int .i64 0)]), Mv 7 89, Sv [none, none] 8 91]
 (Rs [Fa 92 0 8, Ld 93 1 92, Ca 94 80 [93], Nt 95 94, Mv 96 95, Gf 96 (La 97 2 1), Gf 96 (Fa 98 0 8), Gf 96 (Ld 99 1 98), Gf 96 (Ca 100 89 [97, 99]), Gf 96 (Mv 101 7), Gf 96 (Bb 102 .neq 100 101), Pk 103 96 102, Mv 104 103, Gf 104 (La 105 2 1), Gf 104 (Fa 106 1 8), Gf 104 (Ld 107 1 106), Gf 104 (Ca 108 90 [105, 107]), Gf 104 (Nt 109 108), Pk 110 104 109]
 (Ct 110 (Rs [Kb 2 false]
 .ret)
 .skip))))
 (.reg [Bk 111 .add 87 1, Mv 87 111])))))))
 (Rs [Kb 2 true]
 .ret)))))
def if_ac9 : IFn := ⟨112, [.inl 2], ib_ac9, lcF []⟩
def ks_ac9 : List (List (Option Nat)) := [[none]]
def gl_ac9_5 (k189 : Nat) (x190 : Commit) : List Int → Nat → Option (Bool ⊕ Unit)
 | [], k238 => some (.inr ())
 | x239 :: l240, k238 => (gf_bb9 x239 0 (IntKind.i64.wrap ((k189 : Int) - 1))).bind fun x247 => if (!x247) = true then (some (.inl (false))) else ((slc x190.up 0 (k238 : Int)).bind fun x249 => (gf_de9 x249 x239).bind fun x251 => if x251 = true then (some (.inl (false))) else (gl_ac9_5 k189 x190 l240 (k238 + 1) ))
def gl_ac9_4 (a0 : Repo) : List Commit → Nat → Option (Bool ⊕ Unit)
 | [], k189 => some (.inr ())
 | x190 :: l191, k189 => (gf_al9 x190.sheet).bind fun x199 => if (!x199) = true then (some (.inl (false))) else ((gf_as9 x190.note).bind fun x201 => if (!x201) = true then (some (.inl (false))) else ((gf_ad9 a0 x190).bind fun x203 => if (x203 != (k189 : Int)) = true then (some (.inl (false))) else (if (!(((k189 : Int) == 0) == ((x190.up.length : Int) == 0))) = true then (some (.inl (false))) else (if (decide ((x190.up.length : Int) > 2)) = true then (some (.inl (false))) else (if fits x190.up.length = true then ((gl_ac9_5 k189 x190 x190.up 0 ).bind fun q => match q with | .inl r => some (.inl r) | .inr q234 => gl_ac9_4 a0 l191 (k189 + 1) ) else none)))))
def gl_ac9_6 (a0 : Repo) : List Head → Nat → Option (Bool ⊕ Unit)
 | [], k289 => some (.inr ())
 | x290 :: l291, k289 => (gf_as9 x290.name).bind fun x299 => if (!x299) = true then (some (.inl (false))) else ((gf_af9 a0 x290.name).bind fun x301 => if (x301 != (k289 : Int)) = true then (some (.inl (false))) else ((gf_ai9 a0 x290.at_).bind fun x303 => if (!x303) = true then (some (.inl (false))) else (gl_ac9_6 a0 l291 (k289 + 1) )))
def gf_ac9 (a0 : Repo) : Option Bool := (gf_bb9 (a0.commits.length : Int) 1 14).bind fun x2 => if (!x2) = true then (some (false)) else ((gf_bb9 (a0.heads.length : Int) 1 4).bind fun x4 => if (!x4) = true then (some (false)) else (if fits a0.commits.length = true then ((gl_ac9_4 a0 a0.commits 0 ).bind fun q => match q with | .inl r => some r | .inr q186 => if fits a0.heads.length = true then ((gl_ac9_6 a0 a0.heads 0 ).bind fun q => match q with | .inl r => some r | .inr q286 => some (true)) else none) else none))
def c_ac9 : Con := ⟨Repo, Bool, 96, fun a => [.agg [.ro (List.map (eCommit false) a.commits), .ro (List.map eHead a.heads)]], fun a => gf_ac9 a, fun a r => ⟨[(false, [.v (.bool r)])], []⟩, fun a => []⟩
/-! (impl.Repo).past -/
def ib_ah9 : IC :=
 (Rs [Io 2 (.box 210 [some 115, some 130] (.t 0)), Io 4 (.mv (.c (.slice none 0 0)))]
 (Rs [Fa 9 0 2, Ld 10 1 9, Ln 11 10, Io 12 (.mks 33 [.v (.bool false)] (.t 11) (.t 11)), Mv 5 12]
 (Rs [Mv 13 5, Mv 14 1, Ia 15 1 13 14, Iz (.store [none] (.t 15) (.c (.bool true)))]
 (.seq (Rs [Mv 16 1, Mv 6 16]
 (blkC 0 (.loop (.seq (Rs [Mv 17 6, Bk 18 .geq 17 0]
 (Ct 18 .skip
 (.exit 0)))
 (.seq (.block 1 (Rs [Mv 21 5, Mv 22 6, Ia 23 1 21 22, Ld 24 1 23]
 (Ct 24 (Rs [Fa 25 0 2, Ld 26 1 25, Mv 27 6, Ia 28 3 26 27, Fa 29 0 28, Ld 30 1 29, Ln 31 30, Ki 32 0]
 (blkC 2 (.loop (Rs [Bb 33 .lss 32 31]
 (.seq (Ct 33 .skip
 (.exit 2))
 (.seq (.block 3 (Rs [Ia 34 1 30 32, Ld 35 1 34, Mv 8 35]
 (.reg [Mv 36 5, Mv 37 8, Ia 38 1 36 37, Iz (.store [none] (.t 38) (.c (.bool true)))])))
 (.reg [Bk 39 .add 32 1, Mv 32 39])))))))
 .skip)))
 (.reg [Mv 19 6, Bk 20 .sub 19 1, Mv 6 20]))))))
 (Rs [Mv 40 5, Mv 4 40]
 .ret)))))
def if_ah9 : IFn := ⟨41, [.inl 4], ib_ah9, lcF []⟩
def ks_ah9 : List (List (Option Nat)) := [[some 33]]
def gl_ah9_5 : List Int → Nat → (List Bool) → Option (List Bool)
 | [], k187, v184 => some v184
 | x188 :: l189, k187, v184 => (idx v184 x188).bind fun x196 => gl_ah9_5 l189 (k187 + 1) (List.set v184 x188.toNat true)
def gl_ah9_4 (a0 : Repo) : Nat → Int → (List Bool) → Option (List Bool)
 | 0, _, _ => none
 | n156 + 1, v151, v153 => if (decide (v151 ≥ 0)) = true then ((idx v153 v151).bind fun x157 => if x157 = true then ((idx a0.commits v151).bind fun x159 => if fits x159.up.length = true then ((gl_ah9_5 x159.up 0 v153).bind fun q181 => gl_ah9_4 a0 n156 (IntKind.i64.wrap (v151 - 1)) q181) else none) else (gl_ah9_4 a0 n156 (IntKind.i64.wrap (v151 - 1)) v153)) else (some v153)
def gf_ah9 (a0 : Repo) (a1 : Int) : Option (List Bool) := if (decide (0 ≤ (a0.commits.length : Int)) && fits ((a0.commits.length : Int)).toNat) = true then (idx (List.replicate ((a0.commits.length : Int)).toNat false) a1).bind fun x5 => (gl_ah9_4 a0 rounds a1 (List.set (List.replicate ((a0.commits.length : Int)).toNat false) a1.toNat true)).bind fun q150 => some (q150) else none
def c_ah9 : Con := ⟨Repo × Int, (List Bool), 97, fun a => [.agg [.ro (List.map (eCommit false) a.1.commits), .ro (List.map eHead a.1.heads)], .v (.int .i64 a.2)], fun a => gf_ah9 a.1 a.2, fun a r => ⟨[(false, [sl true 33 (List.map eBool r)])], []⟩, fun a => []⟩
/-! impl.cloneRepo -/
def ib_aw9 : IC :=
 (Rs [Io 1 (.box 210 [some 115, some 130] (.t 0)), Io 2 (.alloc 210 [.sl true 115 [], .sl true 130 []])]
 (Rs [Io 6 (.lit 115 [some 17, some 100, none] [.sl true 17 [], .sl true 100 [], .v (.string ⟨#[]⟩)] 0 []), Io 7 (.lit 130 [none, none] [.v (.string ⟨#[]⟩), .v (.int .i64 0)] 0 []), Fa 8 1 1, Ld 9 1 8, Io 10 (.app 130 false (.t 7) (.t 9)), Io 11 (.build [.nil, .nil] [(0, 1, .t 6), (1, 1, .t 10)]), Io 3 (.alloc 210 [.sl true 115 [], .sl true 130 []]), Sv [some 115, some 130] 3 11]
 (.seq (Rs [Fa 12 0 1, Ld 13 1 12, Ln 14 13, Ki 15 0]
 (blkC 0 (.loop (Rs [Bb 16 .lss 15 14]
 (.seq (Ct 16 .skip
 (.exit 0))
 (.seq (.block 1 (Rs [Ia 17 3 13 15, La 18 3 17, Io 5 (.alloc 115 [.sl true 17 [], .sl true 100 [], .v (.string ⟨#[]⟩)]), Sv [some 17, some 100, none] 5 18]
 (.drw [Fa 19 0 3, Ld 20 1 19, La 21 3 5, Ca 22 94 [21], Io 23 (.lit 115 [some 17, some 100, none] [.sl true 17 [], .sl true 100 [], .v (.string ⟨#[]⟩)] 1 [(0, .t 22)]), Io 24 (.app 115 true (.t 20) (.t 23)), Fa 25 0 3, Sv [some 115] 25 24] [(1, 2), (1, 3), (1, 4)])))
 (.reg [Bk 26 .add 15 1, Mv 15 26])))))))
 (Rs [La 27 2 3, Sv [some 115, some 130] 2 27]
 .ret))))
def if_aw9 : IFn := ⟨28, [.inr (2, 2)], ib_aw9, lcF []⟩
def ks_aw9 : List (List (Option Nat)) := [[some 115, some 130]]
def gl_aw9_1 : List Commit → Nat → (List Commit) → Option (List Commit)
 | [], k83, v77 => some v77
 | x84 :: l85, k83, v77 => (gf_au9 x84).bind fun x93 => if fits (v77 ++ ([x93] : (List Commit))).length = true then gl_aw9_1 l85 (k83 + 1) (v77 ++ ([x93] : (List Commit))) else none
def gf_aw9 (a0 : Repo) : Option Repo := if fits ([] ++ a0.heads).length = true then if fits a0.commits.length = true then ((gl_aw9_1 a0.commits 0 []).bind fun q70 => some ((⟨q70, ([] ++ a0.heads)⟩ : Repo))) else none else none
def c_aw9 : Con := ⟨Repo, Repo, 150, fun a => [.agg [.ro (List.map (eCommit false) a.commits), .ro (List.map eHead a.heads)]], fun a => gf_aw9 a, fun a r => ⟨[(true, eRepo true r)], []⟩, fun a => []⟩
/-! laws.eqPt -/
def ib_bk9 : IC :=
 (Rs [Io 2 (.box 66 [none, none] (.t 0)), Io 3 (.box 66 [none, none] (.t 1)), Kb 4 false]
 (.seq (Rs [Fa 5 0 2, Ld 6 1 5, Fa 7 0 3, Ld 8 1 7, Bb 9 .neq 6 8]
 (Ct 9 (Rs [Kb 4 false]
 .ret)
 .skip))
 (.seq (Rs [Fa 10 1 2, Ld 11 1 10, Fa 12 1 3, Ld 13 1 12, Bb 14 .neq 11 13]
 (Ct 14 (Rs [Kb 4 false]
 .ret)
 .skip))
 (Rs [Kb 4 true]
 .ret))))
def if_bk9 : IFn := ⟨15, [.inl 4], ib_bk9, lcF []⟩
def ks_bk9 : List (List (Option Nat)) := [[none]]
def gf_bk9 (a0 : Pt) (a1 : Pt) : Option Bool := if (a0.x != a1.x) = true then (some (false)) else (if (a0.y != a1.y) = true then (some (false)) else (some (true)))
def c_bk9 : Con := ⟨Pt × Pt, Bool, 153, fun a => [.agg [.v (.int .i64 a.1.x), .v (.int .i64 a.1.y)], .agg [.v (.int .i64 a.2.x), .v (.int .i64 a.2.y)]], fun a => gf_bk9 a.1 a.2, fun a r => ⟨[(false, [.v (.bool r)])], []⟩, fun a => []⟩
/-! laws.eqPtS -/
def ib_bl9 : IC :=
 (Rs [Kb 4 false]
 (.seq (Rs [Mv 6 0, Ln 7 6, Mv 8 1, Ln 9 8, Bb 10 .neq 7 9]
 (Ct 10 (Rs [Kb 4 false]
 .ret)
 .skip))
 (.seq (Rs [Ki 5 0]
 (blkC 0 (.loop (.seq (Rs [Mv 11 5, Mv 12 0, Ln 13 12, Bb 14 .lss 11 13]
 (Ct 14 .skip
 (.exit 0)))
 (.seq (.block 1 (.seq (.drw [Mv 17 0, Mv 18 5, Ia 19 2 17 18, La 20 2 19, Mv 21 1, Mv 22 5, Ia 23 2 21 22, La 24 2 23, Ca 25 153 [20, 24], Nt 26 25] [(3, 7)])
 (Ct 26 (Rs [Kb 4 false]
 .ret)
 .skip)))
 (.reg [Mv 15 5, Bk 16 .add 15 1, Mv 5 16]))))))
 (Rs [Kb 4 true]
 .ret))))
def if_bl9 : IFn := ⟨27, [.inl 4], ib_bl9, lcF []⟩
def ks_bl9 : List (List (Option Nat)) := [[none]]
def gl_bl9_1 (a1 : (List Pt)) : List Pt → Nat → Option (Bool ⊕ Unit)
 | [], k22 => some (.inr ())
 | x23 :: l24, k22 => (idx a1 (k22 : Int)).bind fun x31 => (gf_bk9 x23 x31).bind fun x33 => if (!x33) = true then (some (.inl (false))) else (gl_bl9_1 a1 l24 (k22 + 1) )
def gf_bl9 (a0 : (List Pt)) (a1 : (List Pt)) : Option Bool := if ((a0.length : Int) != (a1.length : Int)) = true then (some (false)) else (if fits a0.length = true then ((gl_bl9_1 a1 a0 0 ).bind fun q => match q with | .inl r => some r | .inr q20 => some (true)) else none)
def c_bl9 : Con := ⟨(List Pt) × (List Pt), Bool, 154, fun a => [.ro (List.map ePt a.1), .ro (List.map ePt a.2)], fun a => gf_bl9 a.1 a.2, fun a r => ⟨[(false, [.v (.bool r)])], []⟩, fun a => []⟩
/-! laws.eqTag -/
def ib_bo9 : IC :=
 (Rs [Io 2 (.box 82 [none, none] (.t 0)), Io 3 (.box 82 [none, none] (.t 1)), Kb 4 false]
 (.seq (Rs [Fa 5 0 2, Ld 6 1 5, Fa 7 0 3, Ld 8 1 7, Bb 9 .neq 6 8]
 (Ct 9 (Rs [Kb 4 false]
 .ret)
 .skip))
 (.seq (Rs [Fa 10 1 2, Ld 11 1 10, Fa 12 1 3, Ld 13 1 12, Bb 14 .neq 11 13]
 (Ct 14 (Rs [Kb 4 false]
 .ret)
 .skip))
 (Rs [Kb 4 true]
 .ret))))
def if_bo9 : IFn := ⟨15, [.inl 4], ib_bo9, lcF []⟩
def ks_bo9 : List (List (Option Nat)) := [[none]]
def gf_bo9 (a0 : Tag) (a1 : Tag) : Option Bool := if (!seq a0.key a1.key) = true then (some (false)) else (if (!seq a0.val a1.val) = true then (some (false)) else (some (true)))
def c_bo9 : Con := ⟨Tag × Tag, Bool, 155, fun a => [.agg [.v (.string a.1.key), .v (.string a.1.val)], .agg [.v (.string a.2.key), .v (.string a.2.val)]], fun a => gf_bo9 a.1 a.2, fun a r => ⟨[(false, [.v (.bool r)])], []⟩, fun a => []⟩
/-! laws.eqShape -/
def ib_bn9 : IC :=
 (Rs [Io 2 (.box 226 [none, some 66] (.t 0)), Io 3 (.box 226 [none, some 66] (.t 1)), Kb 4 false]
 (.seq (Rs [Fa 5 0 2, Ld 6 1 5, Fa 7 0 3, Ld 8 1 7, Bb 9 .neq 6 8]
 (Ct 9 (Rs [Kb 4 false]
 .ret)
 .skip))
 (.seq (Rs [Fa 10 1 2, Ld 11 1 10, Fa 12 1 3, Ld 13 1 12, Ca 14 154 [11, 13], Nt 15 14]
 (Ct 15 (Rs [Kb 4 false]
 .ret)
 .skip))
 (Rs [Kb 4 true]
 .ret))))
def if_bn9 : IFn := ⟨16, [.inl 4], ib_bn9, lcF []⟩
def ks_bn9 : List (List (Option Nat)) := [[none]]
def gf_bn9 (a0 : Shape) (a1 : Shape) : Option Bool := if (a0.kind != a1.kind) = true then (some (false)) else ((gf_bl9 a0.pts a1.pts).bind fun x3 => if (!x3) = true then (some (false)) else (some (true)))
def c_bn9 : Con := ⟨Shape × Shape, Bool, 156, fun a => [.agg [.v (.int .i64 a.1.kind), .ro (List.map ePt a.1.pts)], .agg [.v (.int .i64 a.2.kind), .ro (List.map ePt a.2.pts)]], fun a => gf_bn9 a.1 a.2, fun a r => ⟨[(false, [.v (.bool r)])], []⟩, fun a => []⟩
/-! laws.eqTagS -/
def ib_bp9 : IC :=
 (Rs [Kb 4 false]
 (.seq (Rs [Mv 6 0, Ln 7 6, Mv 8 1, Ln 9 8, Bb 10 .neq 7 9]
 (Ct 10 (Rs [Kb 4 false]
 .ret)
 .skip))
 (.seq (Rs [Ki 5 0]
 (blkC 0 (.loop (.seq (Rs [Mv 11 5, Mv 12 0, Ln 13 12, Bb 14 .lss 11 13]
 (Ct 14 .skip
 (.exit 0)))
 (.seq (.block 1 (.seq (.drw [Mv 17 0, Mv 18 5, Ia 19 2 17 18, La 20 2 19, Mv 21 1, Mv 22 5, Ia 23 2 21 22, La 24 2 23, Ca 25 155 [20, 24], Nt 26 25] [(3, 7)])
 (Ct 26 (Rs [Kb 4 false]
 .ret)
 .skip)))
 (.reg [Mv 15 5, Bk 16 .add 15 1, Mv 5 16]))))))
 (Rs [Kb 4 true]
 .ret))))
def if_bp9 : IFn := ⟨27, [.inl 4], ib_bp9, lcF []⟩
def ks_bp9 : List (List (Option Nat)) := [[none]]
def gl_bp9_1 (a1 : (List Tag)) : List Tag → Nat → Option (Bool ⊕ Unit)
 | [], k22 => some (.inr ())
 | x23 :: l24, k22 => (idx a1 (k22 : Int)).bind fun x31 => (gf_bo9 x23 x31).bind fun x33 => if (!x33) = true then (some (.inl (false))) else (gl_bp9_1 a1 l24 (k22 + 1) )
def gf_bp9 (a0 : (List Tag)) (a1 : (List Tag)) : Option Bool := if ((a0.length : Int) != (a1.length : Int)) = true then (some (false)) else (if fits a0.length = true then ((gl_bp9_1 a1 a0 0 ).bind fun q => match q with | .inl r => some r | .inr q20 => some (true)) else none)
def c_bp9 : Con := ⟨(List Tag) × (List Tag), Bool, 157, fun a => [.ro (List.map eTag a.1), .ro (List.map eTag a.2)], fun a => gf_bp9 a.1 a.2, fun a r => ⟨[(false, [.v (.bool r)])], []⟩, fun a => []⟩
/-! laws.eqFeat -/
def ib_bf9 : IC :=
 (Rs [Io 2 (.box 100 [none, none, some 66, some 82] (.t 0)), Io 3 (.box 100 [none, none, some 66, some 82] (.t 1)), Kb 4 false]
 (.seq (Rs [Fa 5 0 2, Ld 6 1 5, Fa 7 0 3, Ld 8 1 7, Bb 9 .neq 6 8]
 (Ct 9 (Rs [Kb 4 false]
 .ret)
 .skip))
 (.seq (Rs [Fa 10 1 2, La 11 2 10, Fa 12 1 3, La 13 2 12, Ca 14 156 [11, 13], Nt 15 14]
 (Ct 15 (Rs [Kb 4 false]
 .ret)
 .skip))
 (.seq (Rs [Fa 16 3 2, Ld 17 1 16, Fa 18 3 3, Ld 19 1 18, Ca 20 157 [17, 19], Nt 21 20]
 (Ct 21 (Rs [Kb 4 false]
 .ret)
 .skip))
 (Rs [Kb 4 true]
 .ret)))))
def if_bf9 : IFn := ⟨22, [.inl 4], ib_bf9, lcF []⟩
def ks_bf9 : List (List (Option Nat)) := [[none]]
def gf_bf9 (a0 : Feat) (a1 : Feat) : Option Bool := if (!seq a0.id a1.id) = true then (some (false)) else ((gf_bn9 a0.shape a1.shape).bind fun x3 => if (!x3) = true then (some (false)) else ((gf_bp9 a0.tags a1.tags).bind fun x5 => if (!x5) = true then (some (false)) else (some (true))))
def c_bf9 : Con := ⟨Feat × Feat, Bool, 158, fun a => [.agg [.v (.string a.1.id), .v (.int .i64 a.1.shape.kind), .ro (List.map ePt a.1.shape.pts), .ro (List.map eTag a.1.tags)], .agg [.v (.string a.2.id), .v (.int .i64 a.2.shape.kind), .ro (List.map ePt a.2.shape.pts), .ro (List.map eTag a.2.tags)]], fun a => gf_bf9 a.1 a.2, fun a r => ⟨[(false, [.v (.bool r)])], []⟩, fun a => []⟩
/-! laws.eqIntS -/
def ib_bj9 : IC :=
 (Rs [Kb 4 false]
 (.seq (Rs [Mv 6 0, Ln 7 6, Mv 8 1, Ln 9 8, Bb 10 .neq 7 9]
 (Ct 10 (Rs [Kb 4 false]
 .ret)
 .skip))
 (.seq (Rs [Ki 5 0]
 (blkC 0 (.loop (.seq (Rs [Mv 11 5, Mv 12 0, Ln 13 12, Bb 14 .lss 11 13]
 (Ct 14 .skip
 (.exit 0)))
 (.seq (.block 1 (.seq (.drw [Mv 17 0, Mv 18 5, Ia 19 1 17 18, Ld 20 1 19, Mv 21 1, Mv 22 5, Ia 23 1 21 22, Ld 24 1 23, Bb 25 .neq 20 24] [(3, 7)])
 (Ct 25 (Rs [Kb 4 false]
 .ret)
 .skip)))
 (.reg [Mv 15 5, Bk 16 .add 15 1, Mv 5 16]))))))
 (Rs [Kb 4 true]
 .ret))))
def if_bj9 : IFn := ⟨26, [.inl 4], ib_bj9, lcF []⟩
def ks_bj9 : List (List (Option Nat)) := [[none]]
def gl_bj9_1 (a1 : (List Int)) : List Int → Nat → Option (Bool ⊕ Unit)
 | [], k16 => some (.inr ())
 | x17 :: l18, k16 => (idx a1 (k16 : Int)).bind fun x25 => if (x17 != x25) = true then (some (.inl (false))) else (gl_bj9_1 a1 l18 (k16 + 1) )
def gf_bj9 (a0 : (List Int)) (a1 : (List Int)) : Option Bool := if ((a0.length : Int) != (a1.length : Int)) = true then (some (false)) else (if fits a0.length = true then ((gl_bj9_1 a1 a0 0 ).bind fun q => match q with | .inl r => some r | .inr q14 => some (true)) else none)
def c_bj9 : Con := ⟨(List Int) × (List Int), Bool, 159, fun a => [.ro (List.map eInt a.1), .ro (List.map eInt a.2)], fun a => gf_bj9 a.1 a.2, fun a r => ⟨[(false, [.v (.bool r)])], []⟩, fun a => []⟩
/-! laws.eqFeatS -/
def ib_bg9 : IC :=
 (Rs [Kb 4 false]
 (.seq (Rs [Mv 6 0, Ln 7 6, Mv 8 1, Ln 9 8, Bb 10 .neq 7 9]
 (Ct 10 (Rs [Kb 4 false]
 .ret)
 .skip))
 (.seq (Rs [Ki 5 0]
 (blkC 0 (.loop (.seq (Rs [Mv 11 5, Mv 12 0, Ln 13 12, Bb 14 .lss 11 13]
 (Ct 14 .skip
 (.exit 0)))
 (.seq (.block 1 (.seq (.drw [Mv 17 0, Mv 18 5, Ia 19 4 17 18, La 20 4 19, Mv 21 1, Mv 22 5, Ia 23 4 21 22, La 24 4 23, Ca 25 158 [20, 24], Nt 26 25] [(3, 7)])
 (Ct 26 (Rs [Kb 4 false]
 .ret)
 .skip)))
 (.reg [Mv 15 5, Bk 16 .add 15 1, Mv 5 16]))))))
 (Rs [Kb 4 true]
 .ret))))
def if_bg9 : IFn := ⟨27, [.inl 4], ib_bg9, lcF []⟩
def ks_bg9 : List (List (Option Nat)) := [[none]]
def gl_bg9_1 (a1 : (List Feat)) : List Feat → Nat → Option (Bool ⊕ Unit)
 | [], k22 => some (.inr ())
 | x23 :: l24, k22 => (idx a1 (k22 : Int)).bind fun x31 => (gf_bf9 x23 x31).bind fun x33 => if (!x33) = true then (some (.inl (false))) else (gl_bg9_1 a1 l24 (k22 + 1) )
def gf_bg9 (a0 : (List Feat)) (a1 : (List Feat)) : Option Bool := if ((a0.length : Int) != (a1.length : Int)) = true then (some (false)) else (if fits a0.length = true then ((gl_bg9_1 a1 a0 0 ).bind fun q => match q with | .inl r => some r | .inr q20 => some (true)) else none)
def c_bg9 : Con := ⟨(List Feat) × (List Feat), Bool, 160, fun a => [.ro (List.map (eFeat false) a.1), .ro (List.map (eFeat false) a.2)], fun a => gf_bg9 a.1 a.2, fun a r => ⟨[(false, [.v (.bool r)])], []⟩, fun a => []⟩
/-! laws.eqCommit -/
def ib_bd9 : IC :=
 (Rs [Io 2 (.box 115 [some 17, some 100, none] (.t 0)), Io 3 (.box 115 [some 17, some 100, none] (.t 1)), Kb 4 false]
 (.seq (Rs [Fa 5 0 2, Ld 6 1 5, Fa 7 0 3, Ld 8 1 7, Ca 9 159 [6, 8], Nt 10 9]
 (Ct 10 (Rs [Kb 4 false]
 .ret)
 .skip))
 (.seq (Rs [Fa 11 1 2, Ld 12 1 11, Fa 13 1 3, Ld 14 1 13, Ca 15 160 [12, 14], Nt 16 15]
 (Ct 16 (Rs [Kb 4 false]
 .ret)
 .skip))
 (.seq (Rs [Fa 17 2 2, Ld 18 1 17, Fa 19 2 3, Ld 20 1 19, Bb 21 .neq 18 20]
 (Ct 21 (Rs [Kb 4 false]
 .ret)
 .skip))
 (Rs [Kb 4 true]
 .ret)))))
def if_bd9 : IFn := ⟨22, [.inl 4], ib_bd9, lcF []⟩
def ks_bd9 : List (List (Option Nat)) := [[none]]
def gf_bd9 (a0 : Commit) (a1 : Commit) : Option Bool := (gf_bj9 a0.up a1.up).bind fun x3 => if (!x3) = true then (some (false)) else ((gf_bg9 a0.sheet a1.sheet).bind fun x5 => if (!x5) = true then (some (false)) else (if (!seq a0.note a1.note) = true then (some (false)) else (some (true))))
def c_bd9 : Con := ⟨Commit × Commit, Bool, 161, fun a => [.agg [.ro (List.map eInt a.1.up), .ro (List.map (eFeat false) a.1.sheet), .v (.string a.1.note)], .agg [.ro (List.map eInt a.2.up), .ro (List.map (eFeat false) a.2.sheet), .v (.string a.2.note)]], fun a => gf_bd9 a.1 a.2, fun a r => ⟨[(false, [.v (.bool r)])], []⟩, fun a => []⟩
/-! laws.eqHead -/
def ib_bh9 : IC :=
 (Rs [Io 2 (.box 130 [none, none] (.t 0)), Io 3 (.box 130 [none, none] (.t 1)), Kb 4 false]
 (.seq (Rs [Fa 5 0 2, Ld 6 1 5, Fa 7 0 3, Ld 8 1 7, Bb 9 .neq 6 8]
 (Ct 9 (Rs [Kb 4 false]
 .ret)
 .skip))
 (.seq (Rs [Fa 10 1 2, Ld 11 1 10, Fa 12 1 3, Ld 13 1 12, Bb 14 .neq 11 13]
 (Ct 14 (Rs [Kb 4 false]
 .ret)
 .skip))
 (Rs [Kb 4 true]
 .ret))))
def if_bh9 : IFn := ⟨15, [.inl 4], ib_bh9, lcF []⟩
def ks_bh9 : List (List (Option Nat)) := [[none]]
def gf_bh9 (a0 : Head) (a1 : Head) : Option Bool := if (!seq a0.name a1.name) = true then (some (false)) else (if (a0.at_ != a1.at_) = true then (some (false)) else (some (true)))
def c_bh9 : Con := ⟨Head × Head, Bool, 162, fun a => [.agg [.v (.string a.1.name), .v (.int .i64 a.1.at_)], .agg [.v (.string a.2.name), .v (.int .i64 a.2.at_)]], fun a => gf_bh9 a.1 a.2, fun a r => ⟨[(false, [.v (.bool r)])], []⟩, fun a => []⟩
/-! laws.eqCommitS -/
def ib_be9 : IC :=
 (Rs [Kb 4 false]
 (.seq (Rs [Mv 6 0, Ln 7 6, Mv 8 1, Ln 9 8, Bb 10 .neq 7 9]
 (Ct 10 (Rs [Kb 4 false]
 .ret)
 .skip))
 (.seq (Rs [Ki 5 0]
 (blkC 0 (.loop (.seq (Rs [Mv 11 5, Mv 12 0, Ln 13 12, Bb 14 .lss 11 13]
 (Ct 14 .skip
 (.exit 0)))
 (.seq (.block 1 (.seq (.drw [Mv 17 0, Mv 18 5, Ia 19 3 17 18, La 20 3 19, Mv 21 1, Mv 22 5, Ia 23 3 21 22, La 24 3 23, Ca 25 161 [20, 24], Nt 26 25] [(3, 7)])
 (Ct 26 (Rs [Kb 4 false]
 .ret)
 .skip)))
 (.reg [Mv 15 5, Bk 16 .add 15 1, Mv 5 16]))))))
 (Rs [Kb 4 true]
 .ret))))
def if_be9 : IFn := ⟨27, [.inl 4], ib_be9, lcF []⟩
def ks_be9 : List (List (Option Nat)) := [[none]]
def gl_be9_1 (a1 : (List Commit)) : List Commit → Nat → Option (Bool ⊕ Unit)
 | [], k22 => some (.inr ())
 | x23 :: l24, k22 => (idx a1 (k22 : Int)).bind fun x31 => (gf_bd9 x23 x31).bind fun x33 => if (!x33) = true then (some (.inl (false))) else (gl_be9_1 a1 l24 (k22 + 1) )
def gf_be9 (a0 : (List Commit)) (a1 : (List Commit)) : Option Bool := if ((a0.length : Int) != (a1.length : Int)) = true then (some (false)) else (if fits a0.length = true then ((gl_be9_1 a1 a0 0 ).bind fun q => match q with | .inl r => some r | .inr q20 => some (true)) else none)
def c_be9 : Con := ⟨(List Commit) × (List Commit), Bool, 163, fun a => [.ro (List.map (eCommit false) a.1), .ro (List.map (eCommit false) a.2)], fun a => gf_be9 a.1 a.2, fun a r => ⟨[(false, [.v (.bool r)])], []⟩, fun a => []⟩
/-! laws.eqHeadS -/
def ib_bi9 : IC :=
 (Rs [Kb 4 false]
 (.seq (Rs [Mv 6 0, Ln 7 6, Mv 8 1, Ln 9 8, Bb 10 .neq 7 9]
 (Ct 10 (Rs [Kb 4 false]
 .ret)
 .skip))
 (.seq (Rs [Ki 5 0]
 (blkC 0 (.loop (.seq (Rs [Mv 11 5, Mv 12 0, Ln 13 12, Bb 14 .lss 11 13]
 (Ct 14 .skip
 (.exit 0)))
 (.seq (.block 1 (.seq (.drw [Mv 17 0, Mv 18 5, Ia 19 2 17 18, La 20 2 19, Mv 21 1, Mv 22 5, Ia 23 2 21 22, La 24 2 23, Ca 25 162 [20, 24], Nt 26 25] [(3, 7)])
 (Ct 26 (Rs [Kb 4 false]
 .ret)
 .skip)))
 (.reg [Mv 15 5, Bk 16 .add 15 1, Mv 5 16]))))))
 (Rs [Kb 4 true]
 .ret))))
def if_bi9 : IFn := ⟨27, [.inl 4], ib_bi9, lcF []⟩
def ks_bi9 : List (List (Option Nat)) := [[none]]
def gl_bi9_1 (a1 : (List Head)) : List Head → Nat → Option (Bool ⊕ Unit)
 | [], k22 => some (.inr ())
 | x23 :: l24, k22 => (idx a1 (k22 : Int)).bind fun x31 => (gf_bh9 x23 x31).bind fun x33 => if (!x33) = true then (some (.inl (false))) else (gl_bi9_1 a1 l24 (k22 + 1) )
def gf_bi9 (a0 : (List Head)) (a1 : (List Head)) : Option Bool := if ((a0.length : Int) != (a1.length : Int)) = true then (some (false)) else (if fits a0.length = true then ((gl_bi9_1 a1 a0 0 ).bind fun q => match q with | .inl r => some r | .inr q20 => some (true)) else none)
def c_bi9 : Con := ⟨(List Head) × (List Head), Bool, 164, fun a => [.ro (List.map eHead a.1), .ro (List.map eHead a.2)], fun a => gf_bi9 a.1 a.2, fun a r => ⟨[(false, [.v (.bool r)])], []⟩, fun a => []⟩
/-! laws.markText -/
def ib_ce9 : IC :=
 (Rs [Io 2 (.mv (.c (.string ⟨#[]⟩)))]
 (.seq (Rs [Mv 4 0, Bk 5 .leq 4 0]
 (Ct 5 (Rs [Io 2 (.mv (.c (.string ⟨#[109, 48]⟩)))]
 .ret)
 .skip))
 (Rs [Io 3 (.mv (.c (.string ⟨#[]⟩)))]
 (seqC (.block 0 (.loop (.seq (Rs [Mv 6 0, Bk 7 .gtr 6 0]
 (Ct 7 .skip
 (.exit 0)))
 (.block 1 (Rs [Mv 8 0, Bk 9 .rem 8 10, Io 10 (.bin .add (.c (.int .i64 48)) (.t 9)), Io 11 (.conv .u8 (.t 10)), Io 12 (.lit 257 [none] [.v (.int .u8 0)] 1 [(0, .t 11)]), Io 13 (.bytes (.t 12)), Mv 14 3, Bb 15 .add 13 14, Mv 3 15]
 (.reg [Mv 16 0, Bk 17 .quo 16 10, Mv 0 17]))))))
 (Rs [Mv 18 3, Io 19 (.bin .add (.c (.string ⟨#[109]⟩)) (.t 18)), Mv 2 19]
 .ret)))))
def if_ce9 : IFn := ⟨20, [.inl 2], ib_ce9, lcF []⟩
def ks_ce9 : List (List (Option Nat)) := [[none]]
def gl_ce9_1 : Nat → Int → Str → Option Str
 | 0, _, _ => none
 | n12 + 1, v10, v11 => if (decide (v10 > 0)) = true then ((cat (bstr ([(IntKind.u8.wrap (IntKind.i64.wrap (48 + (Int.tmod v10 10))))] : (List Int))) v11).bind fun x14 => gl_ce9_1 n12 (IntKind.i64.wrap (Int.tdiv v10 10)) x14) else (some v11)
def gf_ce9 (a0 : Int) : Option Str := if (decide (a0 ≤ 0)) = true then (some ((⟨#[109, 48]⟩ : Str))) else ((gl_ce9_1 rounds a0 (⟨#[]⟩ : Str)).bind fun q9 => (cat (⟨#[109]⟩ : Str) q9).bind fun x17 => some (x17))
def c_ce9 : Con := ⟨Int, Str, 166, fun a => [.v (.int .i64 a)], fun a => gf_ce9 a, fun a r => ⟨[(false, [.v (.string r)])], []⟩, fun a => []⟩
/-! laws.markPtS -/
def ib_cb9 : IC :=
 (Rs [Ki 4 0]
 (.seq (Rs [Ki 5 0]
 (blkC 0 (.loop (.seq (Rs [Mv 6 5, Mv 7 0, Ln 8 7, Bb 9 .lss 6 8]
 (Ct 9 .skip
 (.exit 0)))
 (.seq (.block 1 (Rs [Mv 12 0, Mv 13 5, Mv 14 1, Ia 15 2 12 13, Fa 16 0 15, Sv [none] 16 14]
 (Rs [Mv 17 1, Bk 18 .add 17 1, Mv 1 18]
 (Rs [Mv 19 0, Mv 20 5, Mv 21 1, Ia 22 2 19 20, Fa 23 1 22, Sv [none] 23 21]
 (.reg [Mv 24 1, Bk 25 .add 24 1, Mv 1 25])))))
 (.reg [Mv 10 5, Bk 11 .add 10 1, Mv 5 11]))))))
 (Rs [Mv 26 1, Mv 4 26]
 .ret)))
def if_cb9 : IFn := ⟨27, [.inl 4], ib_cb9, lcF []⟩
def ks_cb9 : List (List (Option Nat)) := [[none]]
def gl_cb9_1 : Nat → Int → Int → (List Pt) → Option (Int × (List Pt))
 | 0, _, _, _ => none
 | n20 + 1, v17, v18, v19 => if (decide (v18 < (v19.length : Int))) = true then ((idx v19 v18).bind fun x21 => (idx (List.set v19 v18.toNat (⟨v17, x21.y⟩ : Pt)) v18).bind fun x23 => gl_cb9_1 n20 (IntKind.i64.wrap ((IntKind.i64.wrap (v17 + 1)) + 1)) (IntKind.i64.wrap (v18 + 1)) (List.set (List.set v19 v18.toNat (⟨v17, x21.y⟩ : Pt)) v18.toNat (⟨x23.x, (IntKind.i64.wrap (v17 + 1))⟩ : Pt))) else (some (v17, v19))
def gf_cb9 (a0 : (List Pt)) (a1 : Int) : Option (Int × (List Pt)) := (gl_cb9_1 rounds a1 0 a0).bind fun q16 => some (q16.1, q16.2)
def c_cb9 : Con := ⟨(List Pt) × Int, (Int × (List Pt)), 167, fun a => [.io 0 a.1.length 66, .v (.int .i64 a.2)], fun a => gf_cb9 a.1 a.2, fun a r => ⟨[(false, [.v (.int .i64 r.1)])], [some (List.map ePt r.2)]⟩, fun a => [(false, 66, List.map ePt a.1)]⟩
theorem l_cb9 {a0 : (List Pt)} {a1 : Int} {r : (Int × (List Pt))} (h : gf_cb9 a0 a1 = some r) : (r.2).length = (a0).length := by
 unfold gf_cb9 at h
 obtain ⟨q, h1, h2⟩ := bnd h
 have key := fuelLen (gl := gl_cb9_1) (fun _ _ _ => rfl) (fun n k i a q h => by
  simp only [gl_cb9_1] at h
  split at h
  ·simp only [Option.bind_eq_some_iff] at h
   obtain ⟨_, _, _, _, h⟩ := h
   exact .inl ⟨_, _, _, by simp, h⟩
  ·cases h
   exact .inr rfl) _ _ _ _ _ h1
 cases h2
 exact key

/-! laws.markTagS -/
def ib_cd9 : IC :=
 (Rs [Ki 4 0]
 (.seq (Rs [Ki 5 0]
 (blkC 0 (.loop (.seq (Rs [Mv 6 5, Mv 7 0, Ln 8 7, Bb 9 .lss 6 8]
 (Ct 9 .skip
 (.exit 0)))
 (.seq (.block 1 (Rs [Mv 12 0, Mv 13 5, Mv 14 1, Ca 15 166 [14], Ia 16 2 12 13, Fa 17 0 16, Sv [none] 17 15]
 (Rs [Mv 18 1, Bk 19 .add 18 1, Mv 1 19]
 (Rs [Mv 20 0, Mv 21 5, Mv 22 1, Ca 23 166 [22], Ia 24 2 20 21, Fa 25 1 24, Sv [none] 25 23]
 (.reg [Mv 26 1, Bk 27 .add 26 1, Mv 1 27])))))
 (.reg [Mv 10 5, Bk 11 .add 10 1, Mv 5 11]))))))
 (Rs [Mv 28 1, Mv 4 28]
 .ret)))
def if_cd9 : IFn := ⟨29, [.inl 4], ib_cd9, lcF []⟩
def ks_cd9 : List (List (Option Nat)) := [[none]]
def gl_cd9_1 : Nat → Int → Int → (List Tag) → Option (Int × (List Tag))
 | 0, _, _, _ => none
 | n32 + 1, v29, v30, v31 => if (decide (v30 < (v31.length : Int))) = true then ((gf_ce9 v29).bind fun x33 => (idx v31 v30).bind fun x35 => (gf_ce9 (IntKind.i64.wrap (v29 + 1))).bind fun x37 => (idx (List.set v31 v30.toNat (⟨x33, x35.val⟩ : Tag)) v30).bind fun x39 => gl_cd9_1 n32 (IntKind.i64.wrap ((IntKind.i64.wrap (v29 + 1)) + 1)) (IntKind.i64.wrap (v30 + 1)) (List.set (List.set v31 v30.toNat (⟨x33, x35.val⟩ : Tag)) v30.toNat (⟨x39.key, x37⟩ : Tag))) else (some (v29, v31))
def gf_cd9 (a0 : (List Tag)) (a1 : Int) : Option (Int × (List Tag)) := (gl_cd9_1 rounds a1 0 a0).bind fun q28 => some (q28.1, q28.2)
def c_cd9 : Con := ⟨(List Tag) × Int, (Int × (List Tag)), 168, fun a => [.io 0 a.1.length 82, .v (.int .i64 a.2)], fun a => gf_cd9 a.1 a.2, fun a r => ⟨[(false, [.v (.int .i64 r.1)])], [some (List.map eTag r.2)]⟩, fun a => [(false, 82, List.map eTag a.1)]⟩
theorem l_cd9 {a0 : (List Tag)} {a1 : Int} {r : (Int × (List Tag))} (h : gf_cd9 a0 a1 = some r) : (r.2).length = (a0).length := by
 unfold gf_cd9 at h
 obtain ⟨q, h1, h2⟩ := bnd h
 have key := fuelLen (gl := gl_cd9_1) (fun _ _ _ => rfl) (fun n k i a q h => by
  simp only [gl_cd9_1] at h
  split at h
  ·simp only [Option.bind_eq_some_iff] at h
   obtain ⟨_, _, _, _, _, _, _, _, h⟩ := h
   exact .inl ⟨_, _, _, by simp, h⟩
  ·cases h
   exact .inr rfl) _ _ _ _ _ h1
 cases h2
 exact key

/-! laws.markIntS -/
def ib_ca9 : IC :=
 (Rs [Ki 4 0]
 (.seq (Rs [Ki 5 0]
 (blkC 0 (.loop (.seq (Rs [Mv 6 5, Mv 7 0, Ln 8 7, Bb 9 .lss 6 8]
 (Ct 9 .skip
 (.exit 0)))
 (.seq (.block 1 (Rs [Mv 12 0, Mv 13 5, Mv 14 1, Ia 15 1 12 13, Sv [none] 15 14]
 (.reg [Mv 16 1, Bk 17 .add 16 1, Mv 1 17])))
 (.reg [Mv 10 5, Bk 11 .add 10 1, Mv 5 11]))))))
 (Rs [Mv 18 1, Mv 4 18]
 .ret)))
def if_ca9 : IFn := ⟨19, [.inl 4], ib_ca9, lcF []⟩
def ks_ca9 : List (List (Option Nat)) := [[none]]
def gl_ca9_1 : Nat → Int → Int → (List Int) → Option (Int × (List Int))
 | 0, _, _, _ => none
 | n16 + 1, v13, v14, v15 => if (decide (v14 < (v15.length : Int))) = true then ((idx v15 v14).bind fun x17 => gl_ca9_1 n16 (IntKind.i64.wrap (v13 + 1)) (IntKind.i64.wrap (v14 + 1)) (List.set v15 v14.toNat v13)) else (some (v13, v15))
def gf_ca9 (a0 : (List Int)) (a1 : Int) : Option (Int × (List Int)) := (gl_ca9_1 rounds a1 0 a0).bind fun q12 => some (q12.1, q12.2)
def c_ca9 : Con := ⟨(List Int) × Int, (Int × (List Int)), 169, fun a => [.io 0 a.1.length 17, .v (.int .i64 a.2)], fun a => gf_ca9 a.1 a.2, fun a r => ⟨[(false, [.v (.int .i64 r.1)])], [some (List.map eInt r.2)]⟩, fun a => [(false, 17, List.map eInt a.1)]⟩
theorem l_ca9 {a0 : (List Int)} {a1 : Int} {r : (Int × (List Int))} (h : gf_ca9 a0 a1 = some r) : (r.2).length = (a0).length := by
 unfold gf_ca9 at h
 obtain ⟨q, h1, h2⟩ := bnd h
 have key := fuelLen (gl := gl_ca9_1) (fun _ _ _ => rfl) (fun n k i a q h => by
  simp only [gl_ca9_1] at h
  split at h
  ·simp only [Option.bind_eq_some_iff] at h
   obtain ⟨_, _, h⟩ := h
   exact .inl ⟨_, _, _, by simp, h⟩
  ·cases h
   exact .inr rfl) _ _ _ _ _ h1
 cases h2
 exact key

/-! laws.markFeatS -/
def ib_by9 : IC :=
 (Rs [Ki 4 0]
 (.seq (Rs [Ki 5 0]
 (blkC 0 (.loop (.seq (Rs [Mv 6 5, Mv 7 0, Ln 8 7, Bb 9 .lss 6 8]
 (Ct 9 .skip
 (.exit 0)))
 (.seq (.block 1 (Rs [Mv 12 0, Mv 13 5, Mv 14 1, Ca 15 166 [14], Ia 16 4 12 13, Fa 17 0 16, Sv [none] 17 15]
 (Rs [Mv 18 1, Bk 19 .add 18 1, Mv 1 19]
 (Rs [Mv 20 0, Mv 21 5, Mv 22 1, Ia 23 4 20 21, Fa 24 1 23, Fa 25 0 24, Sv [none] 25 22]
 (Rs [Mv 26 1, Bk 27 .add 26 1, Mv 1 27]
 (Rs [Mv 28 0, Mv 29 5, Ia 30 4 28 29, Fa 31 1 30, Fa 32 1 31, Ld 33 1 32, Mv 34 1, Io 35 (.shut (.t 32) (.call 167 [(true, .t 33), (false, .t 34)])), Mv 1 35]
 (.reg [Mv 36 0, Mv 37 5, Ia 38 4 36 37, Fa 39 3 38, Ld 40 1 39, Mv 41 1, Io 42 (.shut (.t 39) (.call 168 [(true, .t 40), (false, .t 41)])), Mv 1 42])))))))
 (.reg [Mv 10 5, Bk 11 .add 10 1, Mv 5 11]))))))
 (Rs [Mv 43 1, Mv 4 43]
 .ret)))
def if_by9 : IFn := ⟨44, [.inl 4], ib_by9, lcF []⟩
def ks_by9 : List (List (Option Nat)) := [[none]]
def gl_by9_1 : Nat → Int → Int → (List Feat) → Option (Int × (List Feat))
 | 0, _, _, _ => none
 | n62 + 1, v59, v60, v61 => if (decide (v60 < (v61.length : Int))) = true then ((gf_ce9 v59).bind fun x63 => (idx v61 v60).bind fun x65 => (idx (List.set v61 v60.toNat (⟨x63, x65.shape, x65.tags⟩ : Feat)) v60).bind fun x67 => (idx (List.set (List.set v61 v60.toNat (⟨x63, x65.shape, x65.tags⟩ : Feat)) v60.toNat (⟨x67.id, ⟨(IntKind.i64.wrap (v59 + 1)), x67.shape.pts⟩, x67.tags⟩ : Feat)) v60).bind fun x69 => (gf_cb9 x69.shape.pts (IntKind.i64.wrap ((IntKind.i64.wrap (v59 + 1)) + 1))).bind fun x73 => (idx (List.set (List.set (List.set v61 v60.toNat (⟨x63, x65.shape, x65.tags⟩ : Feat)) v60.toNat (⟨x67.id, ⟨(IntKind.i64.wrap (v59 + 1)), x67.shape.pts⟩, x67.tags⟩ : Feat)) v60.toNat (⟨x69.id, ⟨x69.shape.kind, x73.2⟩, x69.tags⟩ : Feat)) v60).bind fun x75 => (gf_cd9 x75.tags x73.1).bind fun x79 => gl_by9_1 n62 x79.1 (IntKind.i64.wrap (v60 + 1)) (List.set (List.set (List.set (List.set v61 v60.toNat (⟨x63, x65.shape, x65.tags⟩ : Feat)) v60.toNat (⟨x67.id, ⟨(IntKind.i64.wrap (v59 + 1)), x67.shape.pts⟩, x67.tags⟩ : Feat)) v60.toNat (⟨x69.id, ⟨x69.shape.kind, x73.2⟩, x69.tags⟩ : Feat)) v60.toNat (⟨x75.id, x75.shape, x79.2⟩ : Feat))) else (some (v59, v61))
def gf_by9 (a0 : (List Feat)) (a1 : Int) : Option (Int × (List Feat)) := (gl_by9_1 rounds a1 0 a0).bind fun q58 => some (q58.1, q58.2)
def c_by9 : Con := ⟨(List Feat) × Int, (Int × (List Feat)), 170, fun a => [.io 0 a.1.length 100, .v (.int .i64 a.2)], fun a => gf_by9 a.1 a.2, fun a r => ⟨[(false, [.v (.int .i64 r.1)])], [some (List.map (eFeat true) r.2)]⟩, fun a => [(false, 100, List.map (eFeat true) a.1)]⟩
theorem l_by9 {a0 : (List Feat)} {a1 : Int} {r : (Int × (List Feat))} (h : gf_by9 a0 a1 = some r) : (r.2).length = (a0).length := by
 unfold gf_by9 at h
 obtain ⟨q, h1, h2⟩ := bnd h
 have key := fuelLen (gl := gl_by9_1) (fun _ _ _ => rfl) (fun n k i a q h => by
  simp only [gl_by9_1] at h
  split at h
  ·simp only [Option.bind_eq_some_iff] at h
   obtain ⟨_, _, _, _, _, _, _, _, _, _, _, _, _, _, h⟩ := h
   exact .inl ⟨_, _, _, by simp, h⟩
  ·cases h
   exact .inr rfl) _ _ _ _ _ h1
 cases h2
 exact key

/-! laws.markCommitS -/
def ib_bx9 : IC :=
 (Rs [Ki 4 0]
 (.seq (Rs [Ki 5 0]
 (blkC 0 (.loop (.seq (Rs [Mv 6 5, Mv 7 0, Ln 8 7, Bb 9 .lss 6 8]
 (Ct 9 .skip
 (.exit 0)))
 (.seq (.block 1 (Rs [Mv 12 0, Mv 13 5, Ia 14 3 12 13, Fa 15 0 14, Ld 16 1 15, Mv 17 1, Io 18 (.shut (.t 15) (.call 169 [(true, .t 16), (false, .t 17)])), Mv 1 18]
 (Rs [Mv 19 0, Mv 20 5, Ia 21 3 19 20, Fa 22 1 21, Ld 23 1 22, Mv 24 1, Io 25 (.shut (.t 22) (.call 170 [(true, .t 23), (false, .t 24)])), Mv 1 25]
 (Rs [Mv 26 0, Mv 27 5, Mv 28 1, Ca 29 166 [28], Ia 30 3 26 27, Fa 31 2 30, Sv [none] 31 29]
 (.reg [Mv 32 1, Bk 33 .add 32 1, Mv 1 33])))))
 (.reg [Mv 10 5, Bk 11 .add 10 1, Mv 5 11]))))))
 (Rs [Mv 34 1, Mv 4 34]
 .ret)))
def if_bx9 : IFn := ⟨35, [.inl 4], ib_bx9, lcF []⟩
def ks_bx9 : List (List (Option Nat)) := [[none]]
def gl_bx9_1 : Nat → Int → Int → (List Commit) → Option (Int × (List Commit))
 | 0, _, _, _ => none
 | n56 + 1, v53, v54, v55 => if (decide (v54 < (v55.length : Int))) = true then ((idx v55 v54).bind fun x57 => (gf_ca9 x57.up v53).bind fun x61 => (idx (List.set v55 v54.toNat (⟨x61.2, x57.sheet, x57.note⟩ : Commit)) v54).bind fun x63 => (gf_by9 x63.sheet x61.1).bind fun x67 => (gf_ce9 x67.1).bind fun x69 => (idx (List.set (List.set v55 v54.toNat (⟨x61.2, x57.sheet, x57.note⟩ : Commit)) v54.toNat (⟨x63.up, x67.2, x63.note⟩ : Commit)) v54).bind fun x71 => gl_bx9_1 n56 (IntKind.i64.wrap (x67.1 + 1)) (IntKind.i64.wrap (v54 + 1)) (List.set (List.set (List.set v55 v54.toNat (⟨x61.2, x57.sheet, x57.note⟩ : Commit)) v54.toNat (⟨x63.up, x67.2, x63.note⟩ : Commit)) v54.toNat (⟨x71.up, x71.sheet, x69⟩ : Commit))) else (some (v53, v55))
def gf_bx9 (a0 : (List Commit)) (a1 : Int) : Option (Int × (List Commit)) := (gl_bx9_1 rounds a1 0 a0).bind fun q52 => some (q52.1, q52.2)
def c_bx9 : Con := ⟨(List Commit) × Int, (Int × (List Commit)), 171, fun a => [.io 0 a.1.length 115, .v (.int .i64 a.2)], fun a => gf_bx9 a.1 a.2, fun a r => ⟨[(false, [.v (.int .i64 r.1)])], [some (List.map (eCommit true) r.2)]⟩, fun a => [(false, 115, List.map (eCommit true) a.1)]⟩
theorem l_bx9 {a0 : (List Commit)} {a1 : Int} {r : (Int × (List Commit))} (h : gf_bx9 a0 a1 = some r) : (r.2).length = (a0).length := by
 unfold gf_bx9 at h
 obtain ⟨q, h1, h2⟩ := bnd h
 have key := fuelLen (gl := gl_bx9_1) (fun _ _ _ => rfl) (fun n k i a q h => by
  simp only [gl_bx9_1] at h
  split at h
  ·simp only [Option.bind_eq_some_iff] at h
   obtain ⟨_, _, _, _, _, _, _, _, _, _, _, _, h⟩ := h
   exact .inl ⟨_, _, _, by simp, h⟩
  ·cases h
   exact .inr rfl) _ _ _ _ _ h1
 cases h2
 exact key

/-! laws.markHeadS -/
def ib_bz9 : IC :=
 (Rs [Ki 4 0]
 (.seq (Rs [Ki 5 0]
 (blkC 0 (.loop (.seq (Rs [Mv 6 5, Mv 7 0, Ln 8 7, Bb 9 .lss 6 8]
 (Ct 9 .skip
 (.exit 0)))
 (.seq (.block 1 (Rs [Mv 12 0, Mv 13 5, Mv 14 1, Ca 15 166 [14], Ia 16 2 12 13, Fa 17 0 16, Sv [none] 17 15]
 (Rs [Mv 18 1, Bk 19 .add 18 1, Mv 1 19]
 (Rs [Mv 20 0, Mv 21 5, Mv 22 1, Ia 23 2 20 21, Fa 24 1 23, Sv [none] 24 22]
 (.reg [Mv 25 1, Bk 26 .add 25 1, Mv 1 26])))))
 (.reg [Mv 10 5, Bk 11 .add 10 1, Mv 5 11]))))))
 (Rs [Mv 27 1, Mv 4 27]
 .ret)))
def if_bz9 : IFn := ⟨28, [.inl 4], ib_bz9, lcF []⟩
def ks_bz9 : List (List (Option Nat)) := [[none]]
def gl_bz9_1 : Nat → Int → Int → (List Head) → Option (Int × (List Head))
 | 0, _, _, _ => none
 | n26 + 1, v23, v24, v25 => if (decide (v24 < (v25.length : Int))) = true then ((gf_ce9 v23).bind fun x27 => (idx v25 v24).bind fun x29 => (idx (List.set v25 v24.toNat (⟨x27, x29.at_⟩ : Head)) v24).bind fun x31 => gl_bz9_1 n26 (IntKind.i64.wrap ((IntKind.i64.wrap (v23 + 1)) + 1)) (IntKind.i64.wrap (v24 + 1)) (List.set (List.set v25 v24.toNat (⟨x27, x29.at_⟩ : Head)) v24.toNat (⟨x31.name, (IntKind.i64.wrap (v23 + 1))⟩ : Head))) else (some (v23, v25))
def gf_bz9 (a0 : (List Head)) (a1 : Int) : Option (Int × (List Head)) := (gl_bz9_1 rounds a1 0 a0).bind fun q22 => some (q22.1, q22.2)
def c_bz9 : Con := ⟨(List Head) × Int, (Int × (List Head)), 172, fun a => [.io 0 a.1.length 130, .v (.int .i64 a.2)], fun a => gf_bz9 a.1 a.2, fun a r => ⟨[(false, [.v (.int .i64 r.1)])], [some (List.map eHead r.2)]⟩, fun a => [(false, 130, List.map eHead a.1)]⟩
theorem l_bz9 {a0 : (List Head)} {a1 : Int} {r : (Int × (List Head))} (h : gf_bz9 a0 a1 = some r) : (r.2).length = (a0).length := by
 unfold gf_bz9 at h
 obtain ⟨q, h1, h2⟩ := bnd h
 have key := fuelLen (gl := gl_bz9_1) (fun _ _ _ => rfl) (fun n k i a q h => by
  simp only [gl_bz9_1] at h
  split at h
  ·simp only [Option.bind_eq_some_iff] at h
   obtain ⟨_, _, _, _, _, _, h⟩ := h
   exact .inl ⟨_, _, _, by simp, h⟩
  ·cases h
   exact .inr rfl) _ _ _ _ _ h1
 cases h2
 exact key

/-! laws.heldPtS -/
def ib_bu9 : IC :=
 (Rs [Ki 4 0]
 (.seq (Rs [Ki 5 0]
 (blkC 0 (.loop (.seq (Rs [Mv 6 5, Mv 7 0, Ln 8 7, Bb 9 .lss 6 8]
 (Ct 9 .skip
 (.exit 0)))
 (.seq (.block 1 (.seq (Rs [Mv 12 0, Mv 13 5, Ia 14 2 12 13, Fa 15 0 14, Ld 16 1 15, Mv 17 1, Bb 18 .neq 16 17]
 (Ct 18 (Rs [Ki 4 (-1)]
 .ret)
 .skip))
 (Rs [Mv 19 1, Bk 20 .add 19 1, Mv 1 20]
 (.seq (Rs [Mv 21 0, Mv 22 5, Ia 23 2 21 22, Fa 24 1 23, Ld 25 1 24, Mv 26 1, Bb 27 .neq 25 26]
 (Ct 27 (Rs [Ki 4 (-1)]
 .ret)
 .skip))
 (.reg [Mv 28 1, Bk 29 .add 28 1, Mv 1 29])))))
 (.reg [Mv 10 5, Bk 11 .add 10 1, Mv 5 11]))))))
 (Rs [Mv 30 1, Mv 4 30]
 .ret)))
def if_bu9 : IFn := ⟨31, [.inl 4], ib_bu9, lcF []⟩
def ks_bu9 : List (List (Option Nat)) := [[none]]
def gl_bu9_1 : List Pt → Nat → Int → Option (Int ⊕ Int)
 | [], k12, v10 => some (.inr v10)
 | x13 :: l14, k12, v10 => if (x13.x != v10) = true then (some (.inl ((-1)))) else (if (x13.y != (IntKind.i64.wrap (v10 + 1))) = true then (some (.inl ((-1)))) else (gl_bu9_1 l14 (k12 + 1) (IntKind.i64.wrap ((IntKind.i64.wrap (v10 + 1)) + 1))))
def gf_bu9 (a0 : (List Pt)) (a1 : Int) : Option Int := if fits a0.length = true then ((gl_bu9_1 a0 0 a1).bind fun q => match q with | .inl r => some r | .inr q9 => some (q9)) else none
def c_bu9 : Con := ⟨(List Pt) × Int, Int, 173, fun a => [.ro (List.map ePt a.1), .v (.int .i64 a.2)], fun a => gf_bu9 a.1 a.2, fun a r => ⟨[(false, [.v (.int .i64 r)])], []⟩, fun a => []⟩
/-! laws.heldTagS -/
def ib_bw9 : IC :=
 (Rs [Ki 4 0]
 (.seq (Rs [Ki 5 0]
 (blkC 0 (.loop (.seq (Rs [Mv 6 5, Mv 7 0, Ln 8 7, Bb 9 .lss 6 8]
 (Ct 9 .skip
 (.exit 0)))
 (.seq (.block 1 (.seq (.seq (.drw [Mv 12 0, Mv 13 5, Ia 14 2 12 13, Fa 15 0 14, Ld 16 1 15, Mv 17 1, Ca 18 166 [17], Bb 19 .neq 16 18] [(4, 6)])
 (Ct 19 (Rs [Ki 4 (-1)]
 .ret)
 .skip))
 (Rs [Mv 20 1, Bk 21 .add 20 1, Mv 1 21]
 (.seq (.seq (.drw [Mv 22 0, Mv 23 5, Ia 24 2 22 23, Fa 25 1 24, Ld 26 1 25, Mv 27 1, Ca 28 166 [27], Bb 29 .neq 26 28] [(4, 6)])
 (Ct 29 (Rs [Ki 4 (-1)]
 .ret)
 .skip))
 (.reg [Mv 30 1, Bk 31 .add 30 1, Mv 1 31])))))
 (.reg [Mv 10 5, Bk 11 .add 10 1, Mv 5 11]))))))
 (Rs [Mv 32 1, Mv 4 32]
 .ret)))
def if_bw9 : IFn := ⟨33, [.inl 4], ib_bw9, lcF []⟩
def ks_bw9 : List (List (Option Nat)) := [[none]]
def gl_bw9_1 : List Tag → Nat → Int → Option (Int ⊕ Int)
 | [], k24, v22 => some (.inr v22)
 | x25 :: l26, k24, v22 => (gf_ce9 v22).bind fun x33 => if (!seq x25.key x33) = true then (some (.inl ((-1)))) else ((gf_ce9 (IntKind.i64.wrap (v22 + 1))).bind fun x35 => if (!seq x25.val x35) = true then (some (.inl ((-1)))) else (gl_bw9_1 l26 (k24 + 1) (IntKind.i64.wrap ((IntKind.i64.wrap (v22 + 1)) + 1))))
def gf_bw9 (a0 : (List Tag)) (a1 : Int) : Option Int := if fits a0.length = true then ((gl_bw9_1 a0 0 a1).bind fun q => match q with | .inl r => some r | .inr q21 => some (q21)) else none
def c_bw9 : Con := ⟨(List Tag) × Int, Int, 174, fun a => [.ro (List.map eTag a.1), .v (.int .i64 a.2)], fun a => gf_bw9 a.1 a.2, fun a r => ⟨[(false, [.v (.int .i64 r)])], []⟩, fun a => []⟩
/-! laws.heldIntS -/
def ib_bt9 : IC :=
 (Rs [Ki 4 0]
 (.seq (Rs [Ki 5 0]
 (blkC 0 (.loop (.seq (Rs [Mv 6 5, Mv 7 0, Ln 8 7, Bb 9 .lss 6 8]
 (Ct 9 .skip
 (.exit 0)))
 (.seq (.block 1 (.seq (Rs [Mv 12 0, Mv 13 5, Ia 14 1 12 13, Ld 15 1 14, Mv 16 1, Bb 17 .neq 15 16]
 (Ct 17 (Rs [Ki 4 (-1)]
 .ret)
 .skip))
 (.reg [Mv 18 1, Bk 19 .add 18 1, Mv 1 19])))
 (.reg [Mv 10 5, Bk 11 .add 10 1, Mv 5 11]))))))
 (Rs [Mv 20 1, Mv 4 20]
 .ret)))
def if_bt9 : IFn := ⟨21, [.inl 4], ib_bt9, lcF []⟩
def ks_bt9 : List (List (Option Nat)) := [[none]]
def gl_bt9_1 : List Int → Nat → Int → Option (Int ⊕ Int)
 | [], k14, v12 => some (.inr v12)
 | x15 :: l16, k14, v12 => if (x15 != v12) = true then (some (.inl ((-1)))) else (gl_bt9_1 l16 (k14 + 1) (IntKind.i64.wrap (v12 + 1)))
def gf_bt9 (a0 : (List Int)) (a1 : Int) : Option Int := if fits a0.length = true then ((gl_bt9_1 a0 0 a1).bind fun q => match q with | .inl r => some r | .inr q11 => some (q11)) else none
def c_bt9 : Con := ⟨(List Int) × Int, Int, 175, fun a => [.ro (List.map eInt a.1), .v (.int .i64 a.2)], fun a => gf_bt9 a.1 a.2, fun a r => ⟨[(false, [.v (.int .i64 r)])], []⟩, fun a => []⟩
/-! laws.heldFeatS -/
def ib_br9 : IC :=
 (Rs [Ki 4 0]
 (.seq (Rs [Ki 5 0]
 (blkC 0 (.loop (.seq (Rs [Mv 6 5, Mv 7 0, Ln 8 7, Bb 9 .lss 6 8]
 (Ct 9 .skip
 (.exit 0)))
 (.seq (.block 1 (.seq (.seq (.drw [Mv 12 0, Mv 13 5, Ia 14 4 12 13, Fa 15 0 14, Ld 16 1 15, Mv 17 1, Ca 18 166 [17], Bb 19 .neq 16 18] [(4, 6)])
 (Ct 19 (Rs [Ki 4 (-1)]
 .ret)
 .skip))
 (Rs [Mv 20 1, Bk 21 .add 20 1, Mv 1 21]
 (.seq (Rs [Mv 22 0, Mv 23 5, Ia 24 4 22 23, Fa 25 1 24, Fa 26 0 25, Ld 27 1 26, Mv 28 1, Bb 29 .neq 27 28]
 (Ct 29 (Rs [Ki 4 (-1)]
 .ret)
 .skip))
 (Rs [Mv 30 1, Bk 31 .add 30 1, Mv 1 31]
 (Rs [Mv 32 0, Mv 33 5, Ia 34 4 32 33, Fa 35 1 34, Fa 36 1 35, Ld 37 1 36, Mv 38 1, Ca 39 173 [37, 38], Mv 1 39]
 (.seq (Rs [Mv 40 1, Bk 41 .lss 40 0]
 (Ct 41 (Rs [Ki 4 (-1)]
 .ret)
 .skip))
 (Rs [Mv 42 0, Mv 43 5, Ia 44 4 42 43, Fa 45 3 44, Ld 46 1 45, Mv 47 1, Ca 48 174 [46, 47], Mv 1 48]
 (Rs [Mv 49 1, Bk 50 .lss 49 0]
 (Ct 50 (Rs [Ki 4 (-1)]
 .ret)
 .skip))))))))))
 (.reg [Mv 10 5, Bk 11 .add 10 1, Mv 5 11]))))))
 (Rs [Mv 51 1, Mv 4 51]
 .ret)))
def if_br9 : IFn := ⟨52, [.inl 4], ib_br9, lcF []⟩
def ks_br9 : List (List (Option Nat)) := [[none]]
def gl_br9_1 : List Feat → Nat → Int → Option (Int ⊕ Int)
 | [], k30, v28 => some (.inr v28)
 | x31 :: l32, k30, v28 => (gf_ce9 v28).bind fun x39 => if (!seq x31.id x39) = true then (some (.inl ((-1)))) else (if (x31.shape.kind != (IntKind.i64.wrap (v28 + 1))) = true then (some (.inl ((-1)))) else ((gf_bu9 x31.shape.pts (IntKind.i64.wrap ((IntKind.i64.wrap (v28 + 1)) + 1))).bind fun x41 => if (decide (x41 < 0)) = true then (some (.inl ((-1)))) else ((gf_bw9 x31.tags x41).bind fun x43 => if (decide (x43 < 0)) = true then (some (.inl ((-1)))) else (gl_br9_1 l32 (k30 + 1) x43))))
def gf_br9 (a0 : (List Feat)) (a1 : Int) : Option Int := if fits a0.length = true then ((gl_br9_1 a0 0 a1).bind fun q => match q with | .inl r => some r | .inr q27 => some (q27)) else none
def c_br9 : Con := ⟨(List Feat) × Int, Int, 176, fun a => [.ro (List.map (eFeat false) a.1), .v (.int .i64 a.2)], fun a => gf_br9 a.1 a.2, fun a r => ⟨[(false, [.v (.int .i64 r)])], []⟩, fun a => []⟩
/-! laws.heldCommitS -/
def ib_bq9 : IC :=
 (Rs [Ki 4 0]
 (.seq (Rs [Ki 5 0]
 (blkC 0 (.loop (.seq (Rs [Mv 6 5, Mv 7 0, Ln 8 7, Bb 9 .lss 6 8]
 (Ct 9 .skip
 (.exit 0)))
 (.seq (.block 1 (Rs [Mv 12 0, Mv 13 5, Ia 14 3 12 13, Fa 15 0 14, Ld 16 1 15, Mv 17 1, Ca 18 175 [16, 17], Mv 1 18]
 (.seq (Rs [Mv 19 1, Bk 20 .lss 19 0]
 (Ct 20 (Rs [Ki 4 (-1)]
 .ret)
 .skip))
 (Rs [Mv 21 0, Mv 22 5, Ia 23 3 21 22, Fa 24 1 23, Ld 25 1 24, Mv 26 1, Ca 27 176 [25, 26], Mv 1 27]
 (.seq (Rs [Mv 28 1, Bk 29 .lss 28 0]
 (Ct 29 (Rs [Ki 4 (-1)]
 .ret)
 .skip))
 (.seq (.seq (.drw [Mv 30 0, Mv 31 5, Ia 32 3 30 31, Fa 33 2 32, Ld 34 1 33, Mv 35 1, Ca 36 166 [35], Bb 37 .neq 34 36] [(4, 6)])
 (Ct 37 (Rs [Ki 4 (-1)]
 .ret)
 .skip))
 (.reg [Mv 38 1, Bk 39 .add 38 1, Mv 1 39])))))))
 (.reg [Mv 10 5, Bk 11 .add 10 1, Mv 5 11]))))))
 (Rs [Mv 40 1, Mv 4 40]
 .ret)))
def if_bq9 : IFn := ⟨41, [.inl 4], ib_bq9, lcF []⟩
def ks_bq9 : List (List (Option Nat)) := [[none]]
def gl_bq9_1 : List Commit → Nat → Int → Option (Int ⊕ Int)
 | [], k30, v28 => some (.inr v28)
 | x31 :: l32, k30, v28 => (gf_bt9 x31.up v28).bind fun x39 => if (decide (x39 < 0)) = true then (some (.inl ((-1)))) else ((gf_br9 x31.sheet x39).bind fun x41 => if (decide (x41 < 0)) = true then (some (.inl ((-1)))) else ((gf_ce9 x41).bind fun x43 => if (!seq x31.note x43) = true then (some (.inl ((-1)))) else (gl_bq9_1 l32 (k30 + 1) (IntKind.i64.wrap (x41 + 1)))))
def gf_bq9 (a0 : (List Commit)) (a1 : Int) : Option Int := if fits a0.length = true then ((gl_bq9_1 a0 0 a1).bind fun q => match q with | .inl r => some r | .inr q27 => some (q27)) else none
def c_bq9 : Con := ⟨(List Commit) × Int, Int, 177, fun a => [.ro (List.map (eCommit false) a.1), .v (.int .i64 a.2)], fun a => gf_bq9 a.1 a.2, fun a r => ⟨[(false, [.v (.int .i64 r)])], []⟩, fun a => []⟩
/-! laws.heldHeadS -/
def ib_bs9 : IC :=
 (Rs [Ki 4 0]
 (.seq (Rs [Ki 5 0]
 (blkC 0 (.loop (.seq (Rs [Mv 6 5, Mv 7 0, Ln 8 7, Bb 9 .lss 6 8]
 (Ct 9 .skip
 (.exit 0)))
 (.seq (.block 1 (.seq (.seq (.drw [Mv 12 0, Mv 13 5, Ia 14 2 12 13, Fa 15 0 14, Ld 16 1 15, Mv 17 1, Ca 18 166 [17], Bb 19 .neq 16 18] [(4, 6)])
 (Ct 19 (Rs [Ki 4 (-1)]
 .ret)
 .skip))
 (Rs [Mv 20 1, Bk 21 .add 20 1, Mv 1 21]
 (.seq (Rs [Mv 22 0, Mv 23 5, Ia 24 2 22 23, Fa 25 1 24, Ld 26 1 25, Mv 27 1, Bb 28 .neq 26 27]
 (Ct 28 (Rs [Ki 4 (-1)]
 .ret)
 .skip))
 (.reg [Mv 29 1, Bk 30 .add 29 1, Mv 1 30])))))
 (.reg [Mv 10 5, Bk 11 .add 10 1, Mv 5 11]))))))
 (Rs [Mv 31 1, Mv 4 31]
 .ret)))
def if_bs9 : IFn := ⟨32, [.inl 4], ib_bs9, lcF []⟩
def ks_bs9 : List (List (Option Nat)) := [[none]]
def gl_bs9_1 : List Head → Nat → Int → Option (Int ⊕ Int)
 | [], k18, v16 => some (.inr v16)
 | x19 :: l20, k18, v16 => (gf_ce9 v16).bind fun x27 => if (!seq x19.name x27) = true then (some (.inl ((-1)))) else (if (x19.at_ != (IntKind.i64.wrap (v16 + 1))) = true then (some (.inl ((-1)))) else (gl_bs9_1 l20 (k18 + 1) (IntKind.i64.wrap ((IntKind.i64.wrap (v16 + 1)) + 1))))
def gf_bs9 (a0 : (List Head)) (a1 : Int) : Option Int := if fits a0.length = true then ((gl_bs9_1 a0 0 a1).bind fun q => match q with | .inl r => some r | .inr q15 => some (q15)) else none
def c_bs9 : Con := ⟨(List Head) × Int, Int, 178, fun a => [.ro (List.map eHead a.1), .v (.int .i64 a.2)], fun a => gf_bs9 a.1 a.2, fun a r => ⟨[(false, [.v (.int .i64 r)])], []⟩, fun a => []⟩
/-! laws.szRepo -/
def ib_cn9 : IC :=
 (Rs [Io 2 (.box 466 [some 387, some 402] (.t 0)), Ki 4 0]
 (Rs [Fa 5 0 2, Ld 6 1 5, Mv 7 1, Ca 8 10 [6, 7], Mv 1 8]
 (.seq (Rs [Mv 9 1, Bk 10 .lss 9 0]
 (Ct 10 (Rs [Ki 4 (-1)]
 .ret)
 .skip))
 (Rs [Fa 11 1 2, Ld 12 1 11, Mv 13 1, Ca 14 11 [12, 13], Mv 1 14]
 (.seq (Rs [Mv 15 1, Bk 16 .lss 15 0]
 (Ct 16 (Rs [Ki 4 (-1)]
 .ret)
 .skip))
 (Rs [Mv 17 1, Mv 4 17]
 .ret))))))
def if_cn9 : IFn := ⟨18, [.inl 4], ib_cn9, lcF []⟩
def ks_cn9 : List (List (Option Nat)) := [[none]]
def gf_cn9 (a0 : Repo) (a1 : Int) : Option Int := (gf_cg9 a0.commits a1).bind fun x2 => if (decide (x2 < 0)) = true then (some ((-1))) else ((gf_ck9 a0.heads x2).bind fun x4 => if (decide (x4 < 0)) = true then (some ((-1))) else (some (x4)))
def c_cn9 : Con := ⟨Repo × Int, Int, 179, fun a => [.agg [.ro (List.map (eCommit false) a.1.commits), .ro (List.map eHead a.1.heads)], .v (.int .i64 a.2)], fun a => gf_cn9 a.1 a.2, fun a r => ⟨[(false, [.v (.int .i64 r)])], []⟩, fun a => []⟩
/-! laws.toRepo -/
def ib_da9 : IC :=
 (Rs [Io 1 (.box 466 [some 387, some 402] (.t 0)), Io 2 (.alloc 210 [.sl true 115 [], .sl true 130 []])]
 (Rs [Io 3 (.alloc 210 [.sl true 115 [], .sl true 130 []])]
 (Rs [Fa 4 0 1, Ld 5 1 4, Ca 6 74 [5], Fa 7 0 3, Sv [some 115] 7 6]
 (Rs [Fa 8 1 1, Ld 9 1 8, Ca 10 75 [9], Fa 11 1 3, Sv [some 130] 11 10]
 (Rs [La 12 2 3, Sv [some 115, some 130] 2 12]
 .ret)))))
def if_da9 : IFn := ⟨13, [.inr (2, 2)], ib_da9, lcF []⟩
def ks_da9 : List (List (Option Nat)) := [[some 115, some 130]]
def gf_da9 (a0 : Repo) : Option Repo := (gf_cs9 a0.commits).bind fun x4 => (gf_cw9 a0.heads).bind fun x8 => some ((⟨x4, x8⟩ : Repo))
def c_da9 : Con := ⟨Repo, Repo, 180, fun a => [.agg [.ro (List.map (eCommit false) a.commits), .ro (List.map eHead a.heads)]], fun a => gf_da9 a, fun a r => ⟨[(true, eRepo true r)], []⟩, fun a => []⟩
/-! laws.eqRepo -/
def ib_bm9 : IC :=
 (Rs [Io 2 (.box 210 [some 115, some 130] (.t 0)), Io 3 (.box 210 [some 115, some 130] (.t 1)), Kb 4 false]
 (.seq (Rs [Fa 5 0 2, Ld 6 1 5, Fa 7 0 3, Ld 8 1 7, Ca 9 163 [6, 8], Nt 10 9]
 (Ct 10 (Rs [Kb 4 false]
 .ret)
 .skip))
 (.seq (Rs [Fa 11 1 2, Ld 12 1 11, Fa 13 1 3, Ld 14 1 13, Ca 15 164 [12, 14], Nt 16 15]
 (Ct 16 (Rs [Kb 4 false]
 .ret)
 .skip))
 (Rs [Kb 4 true]
 .ret))))
def if_bm9 : IFn := ⟨17, [.inl 4], ib_bm9, lcF []⟩
def ks_bm9 : List (List (Option Nat)) := [[none]]
def gf_bm9 (a0 : Repo) (a1 : Repo) : Option Bool := (gf_be9 a0.commits a1.commits).bind fun x3 => if (!x3) = true then (some (false)) else ((gf_bi9 a0.heads a1.heads).bind fun x5 => if (!x5) = true then (some (false)) else (some (true)))
def c_bm9 : Con := ⟨Repo × Repo, Bool, 183, fun a => [.agg [.ro (List.map (eCommit false) a.1.commits), .ro (List.map eHead a.1.heads)], .agg [.ro (List.map (eCommit false) a.2.commits), .ro (List.map eHead a.2.heads)]], fun a => gf_bm9 a.1 a.2, fun a r => ⟨[(false, [.v (.bool r)])], []⟩, fun a => []⟩
/-! laws.markRepo -/
def ib_cc9 : IC :=
 (Rs [Io 2 (.box 210 [some 115, some 130] (.t 0)), Ki 4 0]
 (Rs [Fa 5 0 2, Ld 6 1 5, Mv 7 1, Io 8 (.call 171 [(true, .t 6), (false, .t 7)]), Mv 1 8]
 (Rs [Fa 9 1 2, Ld 10 1 9, Mv 11 1, Io 12 (.call 172 [(true, .t 10), (false, .t 11)]), Mv 1 12]
 (Rs [Mv 13 1, Mv 4 13]
 .ret))))
def if_cc9 : IFn := ⟨14, [.inl 4], ib_cc9, lcF [(0, 1000256), (1, 1000257)]⟩
def ks_cc9 : List (List (Option Nat)) := [[none]]
def gf_cc9 (a0 : Repo) (a1 : Int) : Option (Int × Repo) := (gf_bx9 a0.commits a1).bind fun x2 => (gf_bz9 a0.heads x2.1).bind fun x4 => some (x4.1, (⟨x2.2, x4.2⟩ : Repo))
def c_cc9 : Con := ⟨Repo × Int, (Int × Repo), 185, fun a => [.agg [.io 0 a.1.commits.length 115, .io 1 a.1.heads.length 130], .v (.int .i64 a.2)], fun a => gf_cc9 a.1 a.2, fun a r => ⟨[(false, [.v (.int .i64 r.1)])], [some (List.map (eCommit true) r.2.commits), some (List.map eHead r.2.heads)]⟩, fun a => [(false, 115, List.map (eCommit true) a.1.commits), (false, 130, List.map eHead a.1.heads)]⟩
theorem l_cc9 {a0 : Repo} {a1 : Int} {r : (Int × Repo)} (h : gf_cc9 a0 a1 = some r) : (r.2.commits).length = (a0.commits).length ∧ (r.2.heads).length = (a0.heads).length := by
 unfold gf_cc9 at h
 simp only [Option.bind_eq_some_iff] at h
 obtain ⟨_, e0, _, e1, h⟩ := h
 have m0 := l_bx9 e0
 have m1 := l_bz9 e1
 cases h
 exact ⟨m0, m1⟩

/-! laws.heldRepo -/
def ib_bv9 : IC :=
 (Rs [Io 2 (.box 210 [some 115, some 130] (.t 0)), Ki 4 0]
 (Rs [Fa 5 0 2, Ld 6 1 5, Mv 7 1, Ca 8 177 [6, 7], Mv 1 8]
 (.seq (Rs [Mv 9 1, Bk 10 .lss 9 0]
 (Ct 10 (Rs [Ki 4 (-1)]
 .ret)
 .skip))
 (Rs [Fa 11 1 2, Ld 12 1 11, Mv 13 1, Ca 14 178 [12, 13], Mv 1 14]
 (.seq (Rs [Mv 15 1, Bk 16 .lss 15 0]
 (Ct 16 (Rs [Ki 4 (-1)]
 .ret)
 .skip))
 (Rs [Mv 17 1, Mv 4 17]
 .ret))))))
def if_bv9 : IFn := ⟨18, [.inl 4], ib_bv9, lcF []⟩
def ks_bv9 : List (List (Option Nat)) := [[none]]
def gf_bv9 (a0 : Repo) (a1 : Int) : Option Int := (gf_bq9 a0.commits a1).bind fun x2 => if (decide (x2 < 0)) = true then (some ((-1))) else ((gf_bs9 a0.heads x2).bind fun x4 => if (decide (x4 < 0)) = true then (some ((-1))) else (some (x4)))
def c_bv9 : Con := ⟨Repo × Int, Int, 187, fun a => [.agg [.ro (List.map (eCommit false) a.1.commits), .ro (List.map eHead a.1.heads)], .v (.int .i64 a.2)], fun a => gf_bv9 a.1 a.2, fun a r => ⟨[(false, [.v (.int .i64 r)])], []⟩, fun a => []⟩
/-! spec.l10Same -/
def ib_ee9 : IC :=
 (Rs [Io 4 (.box 210 [some 115, some 130] (.t 0)), Io 6 (.box 210 [some 115, some 130] (.t 2)), Kb 8 false]
 (Rs [Fa 12 0 4, Ld 13 1 12, Mv 14 1, Ia 15 3 13 14, La 16 3 15, Io 9 (.alloc 115 [.sl true 17 [], .sl true 100 [], .v (.string ⟨#[]⟩)]), Sv [some 17, some 100, none] 9 16]
 (Rs [Fa 17 0 6, Ld 18 1 17, Mv 19 3, Ia 20 3 18 19, La 21 3 20, Io 10 (.alloc 115 [.sl true 17 [], .sl true 100 [], .v (.string ⟨#[]⟩)]), Sv [some 17, some 100, none] 10 21]
 (.seq (Rs [Fa 22 2 9, Ld 23 1 22, Fa 24 2 10, Ld 25 1 24, Bb 26 .neq 23 25, Mv 27 26, Gf 27 (Fa 28 0 9), Gf 27 (Ld 29 1 28), Gf 27 (Ln 30 29), Gf 27 (Fa 31 0 10), Gf 27 (Ld 32 1 31), Gf 27 (Ln 33 32), Gf 27 (Bb 34 .neq 30 33), Pk 35 27 34, Mv 36 35, Gf 36 (Fa 37 1 9), Gf 36 (Ld 38 1 37), Gf 36 (Fa 39 1 10), Gf 36 (Ld 40 1 39), Gf 36 (Ca 41 23 [38, 40]), Gf 36 (Nt 42 41), Pk 43 36 42]
 (Ct 43 (Rs [Kb 8 false]
 .ret)
 .skip))
 (.seq (Rs [Ki 11 0]
 (blkC 0 (.loop (.seq (Rs [Mv 44 11, Fa 45 0 9, Ld 46 1 45, Ln 47 46, Bb 48 .lss 44 47]
 (Ct 48 .skip
 (.exit 0)))
 (.seq (.block 1 (.seq (.drw [La 51 2 4, Fa 52 0 9, Ld 53 1 52, Mv 54 11, Ia 55 1 53 54, Ld 56 1 55, La 57 2 6, Fa 58 0 10, Ld 59 1 58, Mv 60 11, Ia 61 1 59 60, Ld 62 1 61, Ca 63 314 [51, 56, 57, 62], Nt 64 63] [(0, 2), (0, 5), (0, 6), (2, 6), (5, 6), (0, 8), (2, 8), (5, 8), (6, 8), (0, 11), (2, 11), (5, 11), (6, 11)])
 (Ct 64 (Rs [Kb 8 false]
 .ret)
 .skip)))
 (.reg [Mv 49 11, Bk 50 .add 49 1, Mv 11 50]))))))
 (Rs [Kb 8 true]
 .ret))))))
def if_ee9 : IFn := ⟨65, [.inl 8], ib_ee9, lcF []⟩
def ks_ee9 : List (List (Option Nat)) := [[none]]
def gl_ee9_1 (x6 : Commit) (rec : Repo → Int → Repo → Int → Option Bool) (a0 : Repo) (a2 : Repo) : List Int → Nat → Option (Bool ⊕ Unit)
 | [], k44 => some (.inr ())
 | x45 :: l46, k44 => (idx x6.up (k44 : Int)).bind fun x53 => (rec a0 x45 a2 x53).bind fun x55 => if (!x55) = true then (some (.inl (false))) else (gl_ee9_1 x6 rec a0 a2 l46 (k44 + 1) )
def gb_ee9 (rec : Repo → Int → Repo → Int → Option Bool) (a0 : Repo) (a1 : Int) (a2 : Repo) (a3 : Int) : Option Bool := (idx a0.commits a1).bind fun x3 => (idx a2.commits a3).bind fun x6 => if (!seq x3.note x6.note) = true then (some (false)) else (if ((x3.up.length : Int) != (x6.up.length : Int)) = true then (some (false)) else ((gf_dz9 x3.sheet x6.sheet).bind fun x9 => if (!x9) = true then (some (false)) else (if fits x3.up.length = true then ((gl_ee9_1 x6 rec a0 a2 x3.up 0 ).bind fun q => match q with | .inl r => some r | .inr q38 => some (true)) else none)))
def gf_ee9 : Nat → Repo → Int → Repo → Int → Option Bool
 | 0 => fun _ _ _ _ => none
 | fuel + 1 => gb_ee9 (gf_ee9 fuel)
def c_ee9 (fuel : Nat) : Con := ⟨Repo × Int × Repo × Int, Bool, 314, fun a => [.agg [.ro (List.map (eCommit false) a.1.commits), .ro (List.map eHead a.1.heads)], .v (.int .i64 a.2.1), .agg [.ro (List.map (eCommit false) a.2.2.1.commits), .ro (List.map eHead a.2.2.1.heads)], .v (.int .i64 a.2.2.2)], fun a => gf_ee9 fuel a.1 a.2.1 a.2.2.1 a.2.2.2, fun a r => ⟨[(false, [.v (.bool r)])], []⟩, fun a => []⟩
/-! impl.alike -/
def ib_at9 : IC :=
 (Rs [Io 2 (.box 210 [some 115, some 130] (.t 0)), Io 3 (.box 210 [some 115, some 130] (.t 1)), Io 4 (.mv (.c (.slice none 0 0)))]
 (Rs [Fa 12 0 2, Ld 13 1 12, Ln 14 13, Io 15 (.mks 241 [.sl true 33 []] (.t 14) (.t 14)), Mv 5 15]
 (.seq (Rs [Fa 16 0 2, Ld 17 1 16, Ln 18 17, Ki 19 0]
 (blkC 0 (.loop (Rs [Bb 20 .lss 19 18]
 (.seq (Ct 20 .skip
 (.exit 0))
 (.seq (.block 1 (Rs [Mv 21 19, Ia 22 3 17 19, La 23 3 22, Io 7 (.alloc 115 [.sl true 17 [], .sl true 100 [], .v (.string ⟨#[]⟩)]), Mv 6 21, Sv [some 17, some 100, none] 7 23]
 (Rs [Mv 24 5, Mv 25 6, Fa 26 0 3, Ld 27 1 26, Ln 28 27, Io 29 (.mks 33 [.v (.bool false)] (.t 28) (.t 28)), Ia 30 1 24 25, Sv [some 33] 30 29]
 (Rs [Fa 31 0 3, Ld 32 1 31, Ln 33 32, Ki 34 0]
 (blkC 2 (.loop (Rs [Bb 35 .lss 34 33]
 (.seq (Ct 35 .skip
 (.exit 2))
 (.seq (.block 3 (Rs [Mv 36 34, Ia 37 3 32 34, La 38 3 37, Io 9 (.alloc 115 [.sl true 17 [], .sl true 100 [], .v (.string ⟨#[]⟩)]), Mv 8 36, Sv [some 17, some 100, none] 9 38]
 (Rs [Fa 39 2 7, Ld 40 1 39, Fa 41 2 9, Ld 42 1 41, Bb 43 .eql 40 42, Mv 44 43, Gt 44 (Fa 45 1 7), Gt 44 (Ld 46 1 45), Gt 44 (Fa 47 1 9), Gt 44 (Ld 48 1 47), Gt 44 (Ca 49 220 [46, 48]), Io 50 (.pick (.t 44) (.t 49) (.c (.bool false))), Mv 51 50, Gt 51 (Fa 52 0 7), Gt 51 (Ld 53 1 52), Gt 51 (Ln 54 53), Gt 51 (Fa 55 0 9), Gt 51 (Ld 56 1 55), Gt 51 (Ln 57 56), Gt 51 (Bb 58 .eql 54 57), Io 59 (.pick (.t 51) (.t 58) (.c (.bool false))), Mv 10 59]
 (.seq (Rs [Ki 11 0]
 (blkC 4 (.loop (.seq (Rs [Mv 60 11, Fa 61 0 7, Ld 62 1 61, Ln 63 62, Bb 64 .lss 60 63, Mv 65 64, Gt 65 (Mv 66 10), Io 67 (.pick (.t 65) (.t 66) (.c (.bool false)))]
 (Ct 67 .skip
 (.exit 4)))
 (.seq (.block 5 (.drw [Mv 70 5, Fa 71 0 7, Ld 72 1 71, Mv 73 11, Ia 74 1 72 73, Ld 75 1 74, Ia 76 1 70 75, Ld 77 1 76, Fa 78 0 9, Ld 79 1 78, Mv 80 11, Ia 81 1 79 80, Ld 82 1 81, Ia 83 1 77 82, Io 84 (.shut (.t 76) (.load 1 false (.t 83))), Mv 10 84] [(2, 9), (5, 9), (7, 9), (2, 12), (5, 12), (7, 12)]))
 (.reg [Mv 68 11, Bk 69 .add 68 1, Mv 11 69]))))))
 (.reg [Mv 85 5, Mv 86 6, Ia 87 1 85 86, Ld 88 1 87, Mv 89 8, Mv 90 10, Ia 91 1 88 89, Iz (.shut (.t 87) (.store [none] (.t 91) (.t 90)))])))))
 (.reg [Bk 92 .add 34 1, Mv 34 92]))))))))))
 (.reg [Bk 93 .add 19 1, Mv 19 93])))))))
 (Rs [Mv 94 5, Mv 4 94]
 .ret))))
def if_at9 : IFn := ⟨95, [.inl 4], ib_at9, lcF []⟩
def ks_at9 : List (List (Option Nat)) := [[some 241]]
def gl_at9_51 (v2136 : (List (List Bool))) (x2141 : Commit) : List Int → Nat → Bool → Bool → Option (Bool × Bool)
 | [], k2204, v2196, v2198 => some (v2196, v2198)
 | x2205 :: l2206, k2204, v2196, v2198 => if v2196 = true then ((idx v2136 x2205).bind fun x2213 => (idx x2141.up (k2204 : Int)).bind fun x2217 => (idx x2213 x2217).bind fun x2219 => gl_at9_51 v2136 x2141 l2206 (k2204 + 1) x2219 v2198) else (some (false, v2198))
def gl_at9_52 (x1713 : Commit) : Nat → Option Unit
 | 0 => none
 | n2245 + 1 => if (decide (0 < (x1713.up.length : Int))) = true then (some ()) else (some ())
def gl_at9_53 (x1713 : Commit) : Nat → Option Unit
 | 0 => none
 | n2268 + 1 => if (decide (0 < (x1713.up.length : Int))) = true then (some ()) else (some ())
def gl_at9_50 (x1713 : Commit) (k1712 : Nat) : List Commit → Nat → (List (List Bool)) → Option (List (List Bool))
 | [], k2140, v2136 => some v2136
 | x2141 :: l2142, k2140, v2136 => if (seq x1713.note x2141.note) = true then ((gf_am9 x1713.sheet x2141.sheet).bind fun x2150 => if x2150 = true then (if fits x1713.up.length = true then ((gl_at9_51 v2136 x2141 x1713.up 0 ((x1713.up.length : Int) == (x2141.up.length : Int)) ((x1713.up.length : Int) == (x2141.up.length : Int))).bind fun q2195 => (idx v2136 (k1712 : Int)).bind fun x2228 => (idx x2228 (k2140 : Int)).bind fun x2232 => gl_at9_50 x1713 k1712 l2142 (k2140 + 1) (List.set v2136 (k1712 : Int).toNat (List.set x2228 (k2140 : Int).toNat q2195.1))) else none) else ((gl_at9_52 x1713 rounds ).bind fun q2239 => (idx v2136 (k1712 : Int)).bind fun x2251 => (idx x2251 (k2140 : Int)).bind fun x2255 => gl_at9_50 x1713 k1712 l2142 (k2140 + 1) (List.set v2136 (k1712 : Int).toNat (List.set x2251 (k2140 : Int).toNat false)))) else ((gl_at9_53 x1713 rounds ).bind fun q2262 => (idx v2136 (k1712 : Int)).bind fun x2273 => (idx x2273 (k2140 : Int)).bind fun x2277 => gl_at9_50 x1713 k1712 l2142 (k2140 + 1) (List.set v2136 (k1712 : Int).toNat (List.set x2273 (k2140 : Int).toNat false)))
def gl_at9_40 (a1 : Repo) : List Commit → Nat → (List (List Bool)) → Option (List (List Bool))
 | [], k1712, v1709 => some v1709
 | x1713 :: l1714, k1712, v1709 => if (decide (0 ≤ (a1.commits.length : Int)) && fits ((a1.commits.length : Int)).toNat) = true then (idx v1709 (k1712 : Int)).bind fun x1725 => if fits a1.commits.length = true then ((gl_at9_50 x1713 k1712 a1.commits 0 (List.set v1709 (k1712 : Int).toNat (List.replicate ((a1.commits.length : Int)).toNat false))).bind fun q2133 => gl_at9_40 a1 l1714 (k1712 + 1) q2133) else none else none
def gf_at9 (a0 : Repo) (a1 : Repo) : Option (List (List Bool)) := if (decide (0 ≤ (a0.commits.length : Int)) && fits ((a0.commits.length : Int)).toNat) = true then if fits a0.commits.length = true then ((gl_at9_40 a1 a0.commits 0 (List.replicate ((a0.commits.length : Int)).toNat ([] : (List Bool)))).bind fun q1706 => some (q1706)) else none else none
def c_at9 : Con := ⟨Repo × Repo, (List (List Bool)), 315, fun a => [.agg [.ro (List.map (eCommit false) a.1.commits), .ro (List.map eHead a.1.heads)], .agg [.ro (List.map (eCommit false) a.2.commits), .ro (List.map eHead a.2.heads)]], fun a => gf_at9 a.1 a.2, fun a r => ⟨[(false, [sl true 241 (List.map (eSl true 33 eBool) r)])], []⟩, fun a => []⟩
/-! impl.SyncSame -/
def ib_aq9 : IC :=
 (Rs [Io 4 (.box 210 [some 115, some 130] (.t 0)), Io 6 (.box 210 [some 115, some 130] (.t 2)), Kb 8 false]
 (Rs [La 9 2 4, Ca 10 96 [9], Mv 11 10, Gt 11 (La 12 2 6), Gt 11 (Ca 13 96 [12]), Io 14 (.pick (.t 11) (.t 13) (.c (.bool false))), Mv 15 14, Gt 15 (La 16 2 4), Gt 15 (Mv 17 1), Gt 15 (Ca 18 90 [16, 17]), Io 19 (.pick (.t 15) (.t 18) (.c (.bool false))), Mv 20 19, Gt 20 (La 21 2 6), Gt 20 (Mv 22 3), Gt 20 (Ca 23 90 [21, 22]), Io 24 (.pick (.t 20) (.t 23) (.c (.bool false))), Mv 25 24, Gt 25 (La 26 2 4), Gt 25 (La 27 2 6), Gt 25 (Ca 28 315 [26, 27]), Gt 25 (Mv 29 1), Gt 25 (Ia 30 1 28 29), Gt 25 (Ld 31 1 30), Gt 25 (Mv 32 3), Gt 25 (Ia 33 1 31 32), Gt 25 (Io 34 (.shut (.t 30) (.load 1 false (.t 33)))), Io 35 (.pick (.t 25) (.t 34) (.c (.bool false))), Mv 8 35]
 .ret))
def if_aq9 : IFn := ⟨36, [.inl 8], ib_aq9, lcF []⟩
def ks_aq9 : List (List (Option Nat)) := [[none]]
def gf_aq9 (a0 : Repo) (a1 : Int) (a2 : Repo) (a3 : Int) : Option Bool := (gf_ac9 a0).bind fun x3 => if x3 = true then ((gf_ac9 a2).bind fun x5 => if x5 = true then ((gf_ai9 a0 a1).bind fun x7 => if x7 = true then ((gf_ai9 a2 a3).bind fun x9 => if x9 = true then ((gf_at9 a0 a2).bind fun x11 => (idx x11 a1).bind fun x15 => (idx x15 a3).bind fun x19 => some (x19)) else (some (false))) else (some (false))) else (some (false))) else (some (false))
def c_aq9 : Con := ⟨Repo × Int × Repo × Int, Bool, 209, fun a => [.agg [.ro (List.map (eCommit false) a.1.commits), .ro (List.map eHead a.1.heads)], .v (.int .i64 a.2.1), .agg [.ro (List.map (eCommit false) a.2.2.1.commits), .ro (List.map eHead a.2.2.1.heads)], .v (.int .i64 a.2.2.2)], fun a => gf_aq9 a.1 a.2.1 a.2.2.1 a.2.2.2, fun a r => ⟨[(false, [.v (.bool r)])], []⟩, fun a => []⟩
/-! impl.SyncFind$1 -/
def ib_ao9 : IC :=
 (Rs [Kb 3 false]
 (Rs [Mv 4 0, Ld 5 1 1, Ia 6 1 4 5, Ld 7 1 6, Mv 3 7]
 .ret))
def if_ao9 : IFn := ⟨8, [.inl 3], ib_ao9, lcF []⟩
def ks_ao9 : List (List (Option Nat)) := [[none]]
def gf_ao9 (a0 : (List Bool)) (a1 : Int) : Option Bool := (idx a0 a1).bind fun x1 => some (x1)
def c_ao9 : Con := ⟨(List Bool) × Int, Bool, 322, fun a => [.ro (List.map eBool a.1), .rptr [.v (.int .i64 a.2)]], fun a => gf_ao9 a.1 a.2, fun a r => ⟨[(false, [.v (.bool r)])], []⟩, fun a => []⟩
/-! slices.IndexFunc[[][]bool,[]bool] -/
def ib_dk9 : IC :=
 (Rs [Ki 4 0]
 (.seq (Rs [Mv 6 0, Ln 7 6, Ki 8 0]
 (blkC 0 (.loop (Rs [Bb 9 .lss 8 7]
 (.seq (Ct 9 .skip
 (.exit 0))
 (.seq (.block 1 (Rs [Mv 10 8, Mv 5 10]
 (Rs [Mv 11 1, Mv 12 0, Mv 13 5, Ia 14 1 12 13, Ld 15 1 14, Io 16 (.calld (.t 11) [(false, .t 15)])]
 (Ct 16 (Rs [Mv 17 5, Mv 4 17]
 .ret)
 .skip))))
 (.reg [Bk 18 .add 8 1, Mv 8 18])))))))
 (Rs [Ki 4 (-1)]
 .ret)))
def if_dk9 : IFn := ⟨19, [.inl 4], ib_dk9, lcF []⟩
def ks_dk9 : List (List (Option Nat)) := [[none]]
def gl_dl9_1 (a1 : Int) : List (List Bool) → Nat → Option (Int ⊕ Unit)
 | [], k16 => some (.inr ())
 | x17 :: l18, k16 => (gf_ao9 x17 a1).bind fun x25 => if x25 = true then (some (.inl ((k16 : Int)))) else (gl_dl9_1 a1 l18 (k16 + 1) )
def gf_dl9 (a0 : (List (List Bool))) (a1 : Int) : Option Int := if fits a0.length = true then ((gl_dl9_1 a1 a0 0 ).bind fun q => match q with | .inl r => some r | .inr q14 => some ((-1))) else none
def c_dl9 : Con := ⟨(List (List Bool)) × Int, Int, 323, fun a => [.ro (List.map (eSl false 33 eBool) a.1), .fn 322 [.rptr [.v (.int .i64 a.2)]]], fun a => gf_dl9 a.1 a.2, fun a r => ⟨[(false, [.v (.int .i64 r)])], []⟩, fun a => []⟩
/-! impl.SyncFind -/
def ib_an9 : IC :=
 (Rs [Io 3 (.box 210 [some 115, some 130] (.t 0)), Io 4 (.box 210 [some 115, some 130] (.t 1)), Io 5 (.box 17 [none] (.t 2)), Ki 6 0]
 (.seq (Rs [La 7 2 3, Ca 8 96 [7], Nt 9 8, Mv 10 9, Gf 10 (La 11 2 4), Gf 10 (Ca 12 96 [11]), Gf 10 (Nt 13 12), Pk 14 10 13, Mv 15 14, Gf 15 (La 16 2 4), Gf 15 (Ld 17 1 5), Gf 15 (Ca 18 90 [16, 17]), Gf 15 (Nt 19 18), Pk 20 15 19]
 (Ct 20 (Rs [Ki 6 (-1)]
 .ret)
 .skip))
 (Rs [La 21 2 3, La 22 2 4, Ca 23 315 [21, 22], Io 24 (.mkf 322 [.t 5]), Ca 25 323 [23, 24], Mv 6 25]
 .ret)))
def if_an9 : IFn := ⟨26, [.inl 6], ib_an9, lcF []⟩
def ks_an9 : List (List (Option Nat)) := [[none]]
def gf_an9 (a0 : Repo) (a1 : Repo) (a2 : Int) : Option Int := (gf_ac9 a0).bind fun x4 => if (!x4) = true then (some ((-1))) else ((gf_ac9 a1).bind fun x6 => if (!x6) = true then (some ((-1))) else ((gf_ai9 a1 a2).bind fun x8 => if (!x8) = true then (some ((-1))) else ((gf_at9 a0 a1).bind fun x10 => (gf_dl9 x10 a2).bind fun x14 => some (x14))))
def c_an9 : Con := ⟨Repo × Repo × Int, Int, 218, fun a => [.agg [.ro (List.map (eCommit false) a.1.commits), .ro (List.map eHead a.1.heads)], .agg [.ro (List.map (eCommit false) a.2.1.commits), .ro (List.map eHead a.2.1.heads)], .v (.int .i64 a.2.2)], fun a => gf_an9 a.1 a.2.1 a.2.2, fun a r => ⟨[(false, [.v (.int .i64 r)])], []⟩, fun a => []⟩
/-! spec.l10Find -/
def ib_ed9 : IC :=
 (Rs [Io 3 (.box 210 [some 115, some 130] (.t 0)), Io 4 (.box 210 [some 115, some 130] (.t 1)), Ki 6 0]
 (.seq (Rs [Ki 7 0]
 (blkC 0 (.loop (.seq (Rs [Mv 8 7, Fa 9 0 3, Ld 10 1 9, Ln 11 10, Bb 12 .lss 8 11]
 (Ct 12 .skip
 (.exit 0)))
 (.seq (.block 1 (Rs [La 15 2 3, Mv 16 7, La 17 2 4, Mv 18 2, Ca 19 314 [15, 16, 17, 18]]
 (Ct 19 (Rs [Mv 20 7, Mv 6 20]
 .ret)
 .skip)))
 (.reg [Mv 13 7, Bk 14 .add 13 1, Mv 7 14]))))))
 (Rs [Ki 6 (-1)]
 .ret)))
def if_ed9 : IFn := ⟨21, [.inl 6], ib_ed9, lcF []⟩
def ks_ed9 : List (List (Option Nat)) := [[none]]
def gl_ed9_1 (a0 : Repo) (a1 : Repo) (a2 : Int) : List Commit → Nat → Option (Int ⊕ Unit)
 | [], k18 => some (.inr ())
 | x19 :: l20, k18 => (gf_ee9 rounds a0 (k18 : Int) a1 a2).bind fun x27 => if x27 = true then (some (.inl ((k18 : Int)))) else (gl_ed9_1 a0 a1 a2 l20 (k18 + 1) )
def gf_ed9 (a0 : Repo) (a1 : Repo) (a2 : Int) : Option Int := if fits a0.commits.length = true then ((gl_ed9_1 a0 a1 a2 a0.commits 0 ).bind fun q => match q with | .inl r => some r | .inr q14 => some ((-1))) else none
def c_ed9 : Con := ⟨Repo × Repo × Int, Int, 324, fun a => [.agg [.ro (List.map (eCommit false) a.1.commits), .ro (List.map eHead a.1.heads)], .agg [.ro (List.map (eCommit false) a.2.1.commits), .ro (List.map eHead a.2.1.heads)], .v (.int .i64 a.2.2)], fun a => gf_ed9 a.1 a.2.1 a.2.2, fun a r => ⟨[(false, [.v (.int .i64 r)])], []⟩, fun a => []⟩
/-! spec.RepoAt -/
def ib_du9 : IC :=
 (Rs [Io 2 (.box 210 [some 115, some 130] (.t 0)), Ki 4 0]
 (Rs [La 6 2 2, Mv 7 1, Ca 8 28 [6, 7], Mv 5 8]
 (.seq (Rs [La 9 2 2, Ca 10 33 [9], Nt 11 10, Mv 12 11, Gf 12 (Mv 13 5), Gf 12 (Bk 14 .lss 13 0), Pk 15 12 14]
 (Ct 15 (Rs [Ki 4 (-1)]
 .ret)
 .skip))
 (Rs [Fa 16 1 2, Ld 17 1 16, Mv 18 5, Ia 19 2 17 18, Fa 20 1 19, Ld 21 1 20, Mv 4 21]
 .ret))))
def if_du9 : IFn := ⟨22, [.inl 4], ib_du9, lcF []⟩
def ks_du9 : List (List (Option Nat)) := [[none]]
def gf_du9 (a0 : Repo) (a1 : Str) : Option Int := (gf_ep9 a0 a1).bind fun x2 => (gf_dv9 a0).bind fun x4 => if (!x4) = true then (some ((-1))) else (if (decide (x2 < 0)) = true then (some ((-1))) else ((idx a0.heads x2).bind fun x6 => some (x6.at_)))
def c_du9 : Con := ⟨Repo × Str, Int, 232, fun a => [.agg [.ro (List.map (eCommit false) a.1.commits), .ro (List.map eHead a.1.heads)], .v (.string a.2)], fun a => gf_du9 a.1 a.2, fun a r => ⟨[(false, [.v (.int .i64 r)])], []⟩, fun a => []⟩
/-! impl.SyncLack -/
def ib_ap9 : IC :=
 (Rs [Io 3 (.box 210 [some 115, some 130] (.t 0)), Io 4 (.box 210 [some 115, some 130] (.t 1)), Io 6 (.mv (.c (.slice none 0 0)))]
 (Rs [Io 10 (.lit 17 [none] [.v (.int .i64 0)] 0 []), Mv 7 10]
 (.seq (Rs [La 11 2 3, Ca 12 96 [11], Nt 13 12, Mv 14 13, Gf 14 (La 15 2 4), Gf 14 (Ca 16 96 [15]), Gf 14 (Nt 17 16), Pk 18 14 17, Mv 19 18, Gf 19 (La 20 2 4), Gf 19 (Mv 21 2), Gf 19 (Ca 22 89 [20, 21]), Gf 19 (Bk 23 .lss 22 0), Pk 24 19 23]
 (Ct 24 (Rs [Mv 25 7, Mv 6 25]
 .ret)
 .skip))
 (.seq (.seq (.drw [La 26 2 4, Fa 27 1 4, Ld 28 1 27, La 29 2 4, Mv 30 2, Ca 31 89 [29, 30], Ia 32 2 28 31, Fa 33 1 32, Ld 34 1 33, Ca 35 97 [26, 34], Ln 36 35, Ki 37 0] [(0, 2), (0, 3), (2, 3), (0, 5), (2, 5), (0, 8)])
 (blkC 0 (.loop (Rs [Bb 38 .lss 37 36]
 (.seq (Ct 38 .skip
 (.exit 0))
 (.seq (.block 1 (Rs [Mv 39 37, Ia 40 1 35 37, Ld 41 1 40, Mv 8 39, Mv 9 41]
 (Rs [Mv 42 9, Mv 43 42, Gt 43 (La 44 2 3), Gt 43 (La 45 2 4), Gt 43 (Mv 46 8), Gt 43 (Ca 47 218 [44, 45, 46]), Gt 43 (Bk 48 .lss 47 0), Io 49 (.pick (.t 43) (.t 48) (.c (.bool false)))]
 (Ct 49 (.reg [Mv 50 7, Mv 51 8, Io 52 (.lit 17 [none] [.v (.int .i64 0)] 1 [(0, .t 51)]), Io 53 (.app 17 true (.t 50) (.t 52)), Mv 7 53])
 .skip))))
 (.reg [Bk 54 .add 37 1, Mv 37 54])))))))
 (Rs [Mv 55 7, Mv 6 55]
 .ret)))))
def if_ap9 : IFn := ⟨56, [.inl 6], ib_ap9, lcF []⟩
def ks_ap9 : List (List (Option Nat)) := [[some 17]]
def gl_ap9_1 (a0 : Repo) (a1 : Repo) : List Bool → Nat → (List Int) → Option (List Int)
 | [], k65, v60 => some v60
 | x66 :: l67, k65, v60 => if x66 = true then ((gf_an9 a0 a1 (k65 : Int)).bind fun x74 => if (decide (x74 < 0)) = true then (if fits (v60 ++ ([(k65 : Int)] : (List Int))).length = true then gl_ap9_1 a0 a1 l67 (k65 + 1) (v60 ++ ([(k65 : Int)] : (List Int))) else none) else (gl_ap9_1 a0 a1 l67 (k65 + 1) v60)) else (gl_ap9_1 a0 a1 l67 (k65 + 1) v60)
def gf_ap9 (a0 : Repo) (a1 : Repo) (a2 : Str) : Option (List Int) := (gf_ac9 a0).bind fun x4 => if (!x4) = true then (some (([] : (List Int)))) else ((gf_ac9 a1).bind fun x6 => if (!x6) = true then (some (([] : (List Int)))) else ((gf_af9 a1 a2).bind fun x8 => if (decide (x8 < 0)) = true then (some (([] : (List Int)))) else ((gf_af9 a1 a2).bind fun x10 => (idx a1.heads x10).bind fun x12 => (gf_ah9 a1 x12.at_).bind fun x14 => if fits x14.length = true then ((gl_ap9_1 a0 a1 x14 0 []).bind fun q56 => some (q56)) else none)))
def c_ap9 : Con := ⟨Repo × Repo × Str, (List Int), 264, fun a => [.agg [.ro (List.map (eCommit false) a.1.commits), .ro (List.map eHead a.1.heads)], .agg [.ro (List.map (eCommit false) a.2.1.commits), .ro (List.map eHead a.2.1.heads)], .v (.string a.2.2)], fun a => gf_ap9 a.1 a.2.1 a.2.2, fun a r => ⟨[(false, [sl true 17 (List.map eInt r)])], []⟩, fun a => []⟩
/-! impl.SyncTake -/
def ib_ar9 : IC :=
 (Rs [Io 3 (.box 210 [some 115, some 130] (.t 0)), Io 4 (.box 210 [some 115, some 130] (.t 1)), Io 6 (.alloc 210 [.sl true 115 [], .sl true 130 []]), Ki 7 0]
 (.seq (Rs [La 19 2 3, Ca 20 96 [19], Nt 21 20, Mv 22 21, Gf 22 (La 23 2 4), Gf 22 (Ca 24 96 [23]), Gf 22 (Nt 25 24), Pk 26 22 25]
 (Ct 26 (Rs [Io 27 (.build [.nil, .nil] []), Sv [some 115, some 130] 6 27, Ki 7 4]
 .ret)
 .skip))
 (Rs [La 28 2 4, Mv 29 2, Ca 30 89 [28, 29], Mv 8 30]
 (.seq (seqC (.reg [Mv 31 8, Bk 32 .lss 31 0, Mv 33 32, Gf 33 (La 34 2 3), Gf 33 (La 35 2 4), Gf 33 (Io 36 (.call 209 [(false, .t 34), (false, .c (.int .i64 0)), (false, .t 35), (false, .c (.int .i64 0))])), Gf 33 (Nt 37 36), Pk 38 33 37])
 (Ct 38 (Rs [La 39 2 3, Ca 40 150 [39], Sv [some 115, some 130] 6 40, Ki 7 1]
 .ret)
 .skip))
 (Rs [La 41 2 3, Ca 42 150 [41], Io 9 (.alloc 210 [.sl true 115 [], .sl true 130 []]), Sv [some 115, some 130] 9 42]
 (Rs [Io 43 (.mnew), Mv 10 43]
 (.seq (Rs [Fa 44 0 4, Ld 45 1 44, Ln 46 45, Ki 47 0]
 (blkC 0 (.loop (Rs [Bb 48 .lss 47 46]
 (.seq (Ct 48 .skip
 (.exit 0))
 (.seq (.block 1 (Rs [Mv 49 47, Mv 11 49]
 (.reg [Mv 50 10, Mv 51 11, La 52 2 3, La 53 2 4, Mv 54 11, Ca 55 218 [52, 53, 54], Iz (.mset 344 (.t 50) (.t 51) (.t 55))])))
 (.reg [Bk 56 .add 47 1, Mv 47 56])))))))
 (.seq (Rs [La 57 2 3, La 58 2 4, Mv 59 2, Ca 60 264 [57, 58, 59], Ln 61 60, Ki 62 0]
 (blkC 2 (.loop (Rs [Bb 63 .lss 62 61]
 (.seq (Ct 63 .skip
 (.exit 2))
 (.seq (.block 3 (Rs [Ia 64 1 60 62, Ld 65 1 64, Mv 13 65]
 (Rs [Fa 66 0 4, Ld 67 1 66, Mv 68 13, Ia 69 3 67 68, La 70 3 69, Ca 71 94 [70], Io 14 (.alloc 115 [.sl true 17 [], .sl true 100 [], .v (.string ⟨#[]⟩)]), Sv [some 17, some 100, none] 14 71]
 (.seq (Rs [Fa 72 0 14, Ld 73 1 72, Ln 74 73, Ki 75 0]
 (blkC 4 (.loop (Rs [Bb 76 .lss 75 74]
 (.seq (Ct 76 .skip
 (.exit 4))
 (.seq (.block 5 (Rs [Mv 77 75, Ia 78 1 73 75, Ld 79 1 78, Mv 15 77, Mv 16 79]
 (.reg [Fa 80 0 14, Ld 81 1 80, Mv 82 15, Mv 83 10, Mv 84 16, Io 85 (.mget 344 (.t 83) (.t 84)), Ia 86 1 81 82, Sv [none] 86 85])))
 (.reg [Bk 87 .add 75 1, Mv 75 87])))))))
 (Rs [Mv 88 10, Mv 89 13, Fa 90 0 9, Ld 91 1 90, Ln 92 91, Iz (.mset 344 (.t 88) (.t 89) (.t 92))]
 (.reg [Fa 93 0 9, Ld 94 1 93, La 95 3 14, Io 96 (.lit 115 [some 17, some 100, none] [.sl true 17 [], .sl true 100 [], .v (.string ⟨#[]⟩)] 1 [(0, .t 95)]), Io 97 (.app 115 true (.t 94) (.t 96)), Fa 98 0 9, Sv [some 115] 98 97]))))))
 (.reg [Bk 99 .add 62 1, Mv 62 99])))))))
 (Rs [Mv 100 10, Fa 101 1 4, Ld 102 1 101, Mv 103 8, Ia 104 2 102 103, Fa 105 1 104, Ld 106 1 105, Io 107 (.mget 344 (.t 100) (.t 106)), Mv 17 107]
 (.seq (Rs [Fa 108 0 9, Ld 109 1 108, Ln 110 109, Bk 111 .gtr 110 14]
 (Ct 111 (Rs [La 112 2 3, Ca 113 150 [112], Sv [some 115, some 130] 6 113, Ki 7 2]
 .ret)
 .skip))
 (Rs [La 114 2 9, Mv 115 2, Ca 116 89 [114, 115], Mv 18 116]
 (.seq (.block 6 (Rs [Mv 120 18, Bk 121 .lss 120 0, Mv 119 121]
 (Ct 119 (.seq (Rs [Fa 122 1 9, Ld 123 1 122, Ln 124 123, Bk 125 .eql 124 4]
 (Ct 125 (Rs [La 126 2 3, Ca 127 150 [126], Sv [some 115, some 130] 6 127, Ki 7 2]
 .ret)
 .skip))
 (.reg [Fa 128 1 9, Ld 129 1 128, Mv 130 2, Mv 131 17, Io 132 (.build [.v (.string ⟨#[]⟩), .v (.int .i64 0)] [(0, 1, .t 130), (1, 1, .t 131)]), Io 133 (.lit 130 [none, none] [.v (.string ⟨#[]⟩), .v (.int .i64 0)] 1 [(0, .t 132)]), Io 134 (.app 130 true (.t 129) (.t 133)), Fa 135 1 9, Sv [some 130] 135 134]))
 (.seq (.drw [La 137 2 9, Fa 138 1 9, Ld 139 1 138, Mv 140 18, Ia 141 2 139 140, Fa 142 1 141, Ld 143 1 142, Ca 144 97 [137, 143], Mv 145 17, Ia 146 1 144 145, Ld 147 1 146, Mv 136 147] [(0, 2), (0, 6)])
 (Ct 136 (Rs [La 148 2 9, Sv [some 115, some 130] 6 148, Ki 7 3]
 .ret)
 (.seq (.drw [La 150 2 9, Mv 151 17, Ca 152 97 [150, 151], Fa 153 1 9, Ld 154 1 153, Mv 155 18, Ia 156 2 154 155, Fa 157 1 156, Ld 158 1 157, Ia 159 1 152 158, Ld 160 1 159, Mv 149 160] [(0, 4), (2, 4), (0, 8), (2, 8)])
 (Ct 149 (.reg [Fa 161 1 9, Ld 162 1 161, Mv 163 18, Mv 164 17, Ia 165 2 162 163, Fa 166 1 165, Sv [none] 166 164])
 (Rs [La 117 2 3, Ca 118 150 [117], Sv [some 115, some 130] 6 118, Ki 7 2]
 .ret))))))))
 (Rs [La 167 2 9, Sv [some 115, some 130] 6 167, Ki 7 0]
 .ret)))))))))))))
def if_ar9 : IFn := ⟨168, [.inr (6, 2), .inl 7], ib_ar9, lcF []⟩
def ks_ar9 : List (List (Option Nat)) := [[some 115, some 130], [none]]
def gl_ar9_1 (a0 : Repo) (a1 : Repo) : List Commit → Nat → (List (Int × Int)) → Option (List (Int × Int))
 | [], k85, v83 => some v83
 | x86 :: l87, k85, v83 => (gf_an9 a0 a1 (k85 : Int)).bind fun x94 => gl_ar9_1 a0 a1 l87 (k85 + 1) (mput v83 (k85 : Int) x94)
def gl_ar9_6 (v516 : (List (Int × Int))) : List Int → Nat → (List Int) → Option (List Int)
 | [], k609, v601 => some v601
 | x610 :: l611, k609, v601 => (idx v601 (k609 : Int)).bind fun x618 => gl_ar9_6 v516 l611 (k609 + 1) (List.set v601 (k609 : Int).toNat (mget v516 x618))
def gl_ar9_5 (a1 : Repo) : List Int → Nat → (List Commit) → (List (Int × Int)) → Option ((List Commit) × (List (Int × Int)))
 | [], k520, v510, v516 => some (v510, v516)
 | x521 :: l522, k520, v510, v516 => (idx a1.commits x521).bind fun x529 => (gf_au9 x529).bind fun x531 => if fits x531.up.length = true then ((gl_ar9_6 v516 x531.up 0 x531.up).bind fun q586 => if fits (v510 ++ ([(⟨q586, x531.sheet, x531.note⟩ : Commit)] : (List Commit))).length = true then gl_ar9_5 a1 l522 (k520 + 1) (v510 ++ ([(⟨q586, x531.sheet, x531.note⟩ : Commit)] : (List Commit))) (mput v516 x521 (v510.length : Int)) else none) else none
def gf_ar9 (a0 : Repo) (a1 : Repo) (a2 : Str) : Option (Repo × Int) := (gf_ac9 a0).bind fun x4 => if (!x4) = true then (some ((⟨[], []⟩ : Repo), 4)) else ((gf_ac9 a1).bind fun x6 => if (!x6) = true then (some ((⟨[], []⟩ : Repo), 4)) else ((gf_af9 a1 a2).bind fun x8 => ((if (decide (x8 < 0)) = true then (some true) else ((gf_aq9 a0 0 a1 0).bind fun x11 => some (!x11)) : Option Bool)).bind fun q10 => if q10 = true then ((gf_aw9 a0).bind fun x21 => some (x21, 1)) else ((gf_aw9 a0).bind fun x27 => if fits a1.commits.length = true then ((gl_ar9_1 a0 a1 a1.commits 0 []).bind fun q69 => (gf_ap9 a0 a1 a2).bind fun x110 => if fits x110.length = true then ((gl_ar9_5 a1 x110 0 x27.commits q69).bind fun q501 => (idx a1.heads x8).bind fun x660 => if (decide ((q501.1.length : Int) > 14)) = true then ((gf_aw9 a0).bind fun x662 => some (x662, 2)) else ((gf_af9 (⟨q501.1, x27.heads⟩ : Repo) a2).bind fun x668 => if (decide (x668 < 0)) = true then (if ((x27.heads.length : Int) == 4) = true then ((gf_aw9 a0).bind fun x670 => some (x670, 2)) else (if fits (x27.heads ++ ([(⟨a2, (mget q501.2 x660.at_)⟩ : Head)] : (List Head))).length = true then some ((⟨q501.1, (x27.heads ++ ([(⟨a2, (mget q501.2 x660.at_)⟩ : Head)] : (List Head)))⟩ : Repo), 0) else none)) else ((idx x27.heads x668).bind fun x680 => (gf_ah9 (⟨q501.1, x27.heads⟩ : Repo) x680.at_).bind fun x682 => (idx x682 (mget q501.2 x660.at_)).bind fun x686 => if x686 = true then (some ((⟨q501.1, x27.heads⟩ : Repo), 3)) else ((gf_ah9 (⟨q501.1, x27.heads⟩ : Repo) (mget q501.2 x660.at_)).bind fun x688 => (idx x688 x680.at_).bind fun x692 => if x692 = true then (some ((⟨q501.1, (List.set x27.heads x668.toNat (⟨x680.name, (mget q501.2 x660.at_)⟩ : Head))⟩ : Repo), 0)) else ((gf_aw9 a0).bind fun x694 => some (x694, 2)))))) else none) else none)))
def c_ar9 : Con := ⟨Repo × Repo × Str, (Repo × Int), 266, fun a => [.agg [.ro (List.map (eCommit false) a.1.commits), .ro (List.map eHead a.1.heads)], .agg [.ro (List.map (eCommit false) a.2.1.commits), .ro (List.map eHead a.2.1.heads)], .v (.string a.2.2)], fun a => gf_ar9 a.1 a.2.1 a.2.2, fun a r => ⟨[(true, eRepo true r.1), (false, [.v (.int .i64 r.2)])], []⟩, fun a => []⟩
/-! spec.l10Copy -/
def ib_ec9 : IC :=
 (Rs [Io 3 (.box 210 [some 115, some 130] (.t 0)), Io 4 (.box 210 [some 115, some 130] (.t 1)), Io 6 (.alloc 210 [.sl true 115 [], .sl true 130 []]), Ki 7 0]
 (Rs [La 13 2 4, Mv 14 2, Io 15 (.lit 17 [none] [.v (.int .i64 0)] 1 [(0, .t 14)]), Ca 16 35 [13, 15], Mv 8 16]
 (Rs [Fa 17 0 4, Ld 18 1 17, Ln 19 18, Io 20 (.mks 17 [.v (.int .i64 0)] (.t 19) (.t 19)), Mv 9 20]
 (.seq (Rs [Ki 10 0]
 (blkC 0 (.loop (.seq (Rs [Mv 21 10, Mv 22 2, Bb 23 .leq 21 22]
 (Ct 23 .skip
 (.exit 0)))
 (.seq (.block 1 (.seq (Rs [Mv 26 8, Mv 27 10, Ia 28 1 26 27, Ld 29 1 28, Nt 30 29]
 (Ct 30 (.exit 1)
 .skip))
 (Rs [Mv 31 9, Mv 32 10, La 33 2 3, La 34 2 4, Mv 35 10, Ca 36 324 [33, 34, 35], Ia 37 1 31 32, Sv [none] 37 36]
 (.seq (Rs [Mv 38 9, Mv 39 10, Ia 40 1 38 39, Ld 41 1 40, Bk 42 .geq 41 0]
 (Ct 42 (.exit 1)
 .skip))
 (seqC (.reg [Fa 43 0 4, Ld 44 1 43, Mv 45 10, Ia 46 3 44 45, La 47 3 46, Ca 48 32 [47], Io 11 (.alloc 115 [.sl true 17 [], .sl true 100 [], .v (.string ⟨#[]⟩)]), Sv [some 17, some 100, none] 11 48])
 (.seq (Rs [Ki 12 0]
 (blkC 2 (.loop (.seq (Rs [Mv 49 12, Fa 50 0 11, Ld 51 1 50, Ln 52 51, Bb 53 .lss 49 52]
 (Ct 53 .skip
 (.exit 2)))
 (.seq (.block 3 (.drw [Fa 56 0 11, Ld 57 1 56, Mv 58 12, Mv 59 9, Fa 60 0 11, Ld 61 1 60, Mv 62 12, Ia 63 1 61 62, Ld 64 1 63, Ia 65 1 59 64, Ld 66 1 65, Ia 67 1 57 58, Sv [none] 67 66] [(1, 5), (1, 8), (1, 10)]))
 (.reg [Mv 54 12, Bk 55 .add 54 1, Mv 12 55]))))))
 (Rs [Mv 68 9, Mv 69 10, Fa 70 0 3, Ld 71 1 70, Ln 72 71, Ia 73 1 68 69, Sv [none] 73 72]
 (.reg [Fa 74 0 3, Ld 75 1 74, La 76 3 11, Io 77 (.lit 115 [some 17, some 100, none] [.sl true 17 [], .sl true 100 [], .v (.string ⟨#[]⟩)] 1 [(0, .t 76)]), Io 78 (.app 115 true (.t 75) (.t 77)), Fa 79 0 3, Sv [some 115] 79 78]))))))))
 (.reg [Mv 24 10, Bk 25 .add 24 1, Mv 10 25]))))))
 (.seq (Rs [Fa 80 0 3, Ld 81 1 80, Ln 82 81, Bk 83 .gtr 82 14]
 (Ct 83 (Rs [La 84 2 3, Sv [some 115, some 130] 6 84, Ki 7 (-1)]
 .ret)
 .skip))
 (.seq (.drw [La 85 2 3, Mv 86 9, Mv 87 2, Ia 88 1 86 87, Ld 89 1 88, Sv [some 115, some 130] 6 85, Mv 7 89] [(0, 4), (4, 5)])
 .ret))))))
def if_ec9 : IFn := ⟨90, [.inr (6, 2), .inl 7], ib_ec9, lcF []⟩
def ks_ec9 : List (List (Option Nat)) := [[some 115, some 130], [none]]
def gl_ec9_5 (v457 : (List Int)) (v444 : Int) (x463 : Int) : Nat → Int → (List Int) → Option (List Int)
 | 0, _, _ => none
 | n571 + 1, v551, v565 => if (decide (v551 < (v565.length : Int))) = true then ((idx v565 v551).bind fun x572 => (idx (List.set v457 v444.toNat x463) x572).bind fun x574 => gl_ec9_5 v457 v444 x463 n571 (IntKind.i64.wrap (v551 + 1)) (List.set v565 v551.toNat x574)) else (some v565)
def gl_ec9_4 (a2 : Int) (x5 : (List Bool)) (a0 : Repo) (a1 : Repo) : Nat → Int → (List Commit) → (List Int) → Option ((List Commit) × (List Int))
 | 0, _, _, _ => none
 | n460 + 1, v444, v445, v457 => if (decide (v444 ≤ a2)) = true then ((idx x5 v444).bind fun x461 => if (!x461) = true then (gl_ec9_4 a2 x5 a0 a1 n460 (IntKind.i64.wrap (v444 + 1)) v445 v457) else ((gf_ed9 (⟨v445, a0.heads⟩ : Repo) a1 v444).bind fun x463 => (idx v457 v444).bind fun x465 => (idx (List.set v457 v444.toNat x463) v444).bind fun x467 => if (decide (x467 ≥ 0)) = true then (gl_ec9_4 a2 x5 a0 a1 n460 (IntKind.i64.wrap (v444 + 1)) v445 (List.set v457 v444.toNat x463)) else ((((idx a1.commits v444).bind fun x470 => (gf_et9 x470).bind fun x472 => some (x472.up, x472.sheet, x472.note) : Option ((List Int) × (List Feat) × Str))).bind fun q469 => (gl_ec9_5 v457 v444 x463 rounds 0 q469.1).bind fun q550 => if fits (v445 ++ ([(⟨q550, q469.2.1, q469.2.2⟩ : Commit)] : (List Commit))).length = true then gl_ec9_4 a2 x5 a0 a1 n460 (IntKind.i64.wrap (v444 + 1)) (v445 ++ ([(⟨q550, q469.2.1, q469.2.2⟩ : Commit)] : (List Commit))) (List.set (List.set v457 v444.toNat x463) v444.toNat (v445.length : Int)) else none))) else (some (v445, v457))
def gf_ec9 (a0 : Repo) (a1 : Repo) (a2 : Int) : Option (Repo × Int) := (gf_es9 a1 ([a2] : (List Int))).bind fun x5 => if (decide (0 ≤ (a1.commits.length : Int)) && fits ((a1.commits.length : Int)).toNat) = true then (gl_ec9_4 a2 x5 a0 a1 rounds 0 a0.commits (List.replicate ((a1.commits.length : Int)).toNat 0)).bind fun q443 => if (decide ((q443.1.length : Int) > 14)) = true then (some ((⟨q443.1, a0.heads⟩ : Repo), (-1))) else ((idx q443.2 a2).bind fun x611 => some ((⟨q443.1, a0.heads⟩ : Repo), x611)) else none
def c_ec9 : Con := ⟨Repo × Repo × Int, (Repo × Int), 342, fun a => [.agg [.io 0 a.1.commits.length 115, .io 1 a.1.heads.length 130], .agg [.ro (List.map (eCommit false) a.2.1.commits), .ro (List.map eHead a.2.1.heads)], .v (.int .i64 a.2.2)], fun a => gf_ec9 a.1 a.2.1 a.2.2, fun a r => ⟨[(true, eRepo true r.1), (false, [.v (.int .i64 r.2)])], [none, none]⟩, fun a => [(false, 115, List.map (eCommit true) a.1.commits), (false, 130, List.map eHead a.1.heads)]⟩
/-! spec.SyncTake -/
def ib_ea9 : IC :=
 (Rs [Io 3 (.box 210 [some 115, some 130] (.t 0)), Io 4 (.box 210 [some 115, some 130] (.t 1)), Io 6 (.alloc 210 [.sl true 115 [], .sl true 130 []]), Ki 7 0]
 (.seq (Rs [La 12 2 3, Ca 13 33 [12], Nt 14 13, Mv 15 14, Gf 15 (La 16 2 4), Gf 15 (Ca 17 33 [16]), Gf 15 (Nt 18 17), Pk 19 15 18]
 (Ct 19 (Rs [Io 20 (.build [.nil, .nil] []), Sv [some 115, some 130] 6 20, Ki 7 4]
 .ret)
 .skip))
 (Rs [La 21 2 4, Mv 22 2, Ca 23 232 [21, 22], Mv 8 23]
 (.seq (seqC (.reg [Mv 24 8, Bk 25 .lss 24 0, Mv 26 25, Gf 26 (La 27 2 3), Gf 26 (La 28 2 4), Gf 26 (Io 29 (.call 324 [(false, .t 27), (false, .t 28), (false, .c (.int .i64 0))])), Gf 26 (Bk 30 .neq 29 0), Pk 31 26 30])
 (Ct 31 (Rs [La 32 2 3, Ca 33 61 [32], Sv [some 115, some 130] 6 33, Ki 7 1]
 .ret)
 .skip))
 (.seq (.drw [La 35 2 3, Ca 36 61 [35], La 37 2 4, Mv 38 8, Io 39 (.call 342 [(true, .t 36), (false, .t 37), (false, .t 38)]), Mv 34 39, Xt 40 34 0, Xt 41 34 1, Io 9 (.alloc 210 [.sl true 115 [], .sl true 130 []]), Sv [some 115, some 130] 9 40, Mv 10 41] [(0, 2), (1, 2), (0, 8), (1, 8), (2, 8), (4, 8)])
 (Rs [La 42 2 3, Mv 43 2, Ca 44 28 [42, 43], Mv 11 44]
 (.seq (.block 0 (Rs [Mv 48 10, Bk 49 .lss 48 0, Mv 50 49, Gf 50 (Mv 51 11), Gf 50 (Bk 52 .lss 51 0), Gf 50 (Mv 53 52), Gt 53 (Fa 54 1 3), Gt 53 (Ld 55 1 54), Gt 53 (Ln 56 55), Gt 53 (Bk 57 .geq 56 4), Gf 50 (Io 58 (.pick (.t 53) (.t 57) (.c (.bool false)))), Pk 59 50 58, Mv 47 59]
 (Ct 47 (Rs [La 60 2 3, Ca 61 61 [60], Sv [some 115, some 130] 6 61, Ki 7 2]
 .ret)
 (Rs [Mv 63 11, Bk 64 .lss 63 0, Mv 62 64]
 (Ct 62 (.reg [Fa 65 1 9, Ld 66 1 65, Mv 67 2, Mv 68 10, Io 69 (.build [.v (.string ⟨#[]⟩), .v (.int .i64 0)] [(0, 1, .t 67), (1, 1, .t 68)]), Io 70 (.lit 130 [none, none] [.v (.string ⟨#[]⟩), .v (.int .i64 0)] 1 [(0, .t 69)]), Io 71 (.app 130 true (.t 66) (.t 70)), Fa 72 1 9, Sv [some 130] 72 71])
 (.seq (.drw [La 74 2 9, Mv 75 10, Fa 76 1 9, Ld 77 1 76, Mv 78 11, Ia 79 2 77 78, Fa 80 1 79, Ld 81 1 80, Ca 82 62 [74, 75, 81], Mv 73 82] [(0, 3), (0, 7)])
 (Ct 73 (Rs [La 83 2 9, Sv [some 115, some 130] 6 83, Ki 7 3]
 .ret)
 (.seq (.drw [La 85 2 9, Fa 86 1 9, Ld 87 1 86, Mv 88 11, Ia 89 2 87 88, Fa 90 1 89, Ld 91 1 90, Mv 92 10, Ca 93 62 [85, 91, 92], Mv 84 93] [(0, 2), (0, 6)])
 (Ct 84 (.reg [Fa 94 1 9, Ld 95 1 94, Mv 96 11, Mv 97 10, Ia 98 2 95 96, Fa 99 1 98, Sv [none] 99 97])
 (Rs [La 45 2 3, Ca 46 61 [45], Sv [some 115, some 130] 6 46, Ki 7 2]
 .ret))))))))))
 (Rs [La 100 2 9, Sv [some 115, some 130] 6 100, Ki 7 0]
 .ret))))))))
def if_ea9 : IFn := ⟨101, [.inr (6, 2), .inl 7], ib_ea9, lcF []⟩
def ks_ea9 : List (List (Option Nat)) := [[some 115, some 130], [none]]
def gf_ea9 (a0 : Repo) (a1 : Repo) (a2 : Str) : Option (Repo × Int) := (gf_dv9 a0).bind fun x4 => if (!x4) = true then (some ((⟨[], []⟩ : Repo), 4)) else ((gf_dv9 a1).bind fun x6 => if (!x6) = true then (some ((⟨[], []⟩ : Repo), 4)) else ((gf_du9 a1 a2).bind fun x8 => ((if (decide (x8 < 0)) = true then (some true) else ((gf_ed9 a0 a1 0).bind fun x11 => some (x11 != 0)) : Option Bool)).bind fun q10 => if q10 = true then ((gf_en9 a0).bind fun x21 => some (x21, 1)) else ((gf_en9 a0).bind fun x27 => (gf_ec9 x27 a1 x8).bind fun x33 => (gf_ep9 a0 a2).bind fun x40 => if (decide (x33.2 < 0)) = true then ((gf_en9 a0).bind fun x42 => some (x42, 2)) else (if (decide (x40 < 0)) = true then (if (decide ((a0.heads.length : Int) ≥ 4)) = true then ((gf_en9 a0).bind fun x48 => some (x48, 2)) else (if (decide (x40 < 0)) = true then (if fits (x33.1.heads ++ ([(⟨a2, x33.2⟩ : Head)] : (List Head))).length = true then some ((⟨x33.1.commits, (x33.1.heads ++ ([(⟨a2, x33.2⟩ : Head)] : (List Head)))⟩ : Repo), 0) else none) else ((idx x33.1.heads x40).bind fun x58 => (gf_dt9 x33.1 x33.2 x58.at_).bind fun x60 => if x60 = true then (some (x33.1, 3)) else ((gf_dt9 x33.1 x58.at_ x33.2).bind fun x62 => if x62 = true then (some ((⟨x33.1.commits, (List.set x33.1.heads x40.toNat (⟨x58.name, x33.2⟩ : Head))⟩ : Repo), 0)) else ((gf_en9 a0).bind fun x64 => some (x64, 2)))))) else (if (decide (x40 < 0)) = true then (if fits (x33.1.heads ++ ([(⟨a2, x33.2⟩ : Head)] : (List Head))).length = true then some ((⟨x33.1.commits, (x33.1.heads ++ ([(⟨a2, x33.2⟩ : Head)] : (List Head)))⟩ : Repo), 0) else none) else ((idx x33.1.heads x40).bind fun x74 => (gf_dt9 x33.1 x33.2 x74.at_).bind fun x76 => if x76 = true then (some (x33.1, 3)) else ((gf_dt9 x33.1 x74.at_ x33.2).bind fun x78 => if x78 = true then (some ((⟨x33.1.commits, (List.set x33.1.heads x40.toNat (⟨x74.name, x33.2⟩ : Head))⟩ : Repo), 0)) else ((gf_en9 a0).bind fun x80 => some (x80, 2)))))))))
def c_ea9 : Con := ⟨Repo × Repo × Str, (Repo × Int), 272, fun a => [.agg [.ro (List.map (eCommit false) a.1.commits), .ro (List.map eHead a.1.heads)], .agg [.ro (List.map (eCommit false) a.2.1.commits), .ro (List.map eHead a.2.1.heads)], .v (.string a.2.2)], fun a => gf_ea9 a.1 a.2.1 a.2.2, fun a r => ⟨[(true, eRepo true r.1), (false, [.v (.int .i64 r.2)])], []⟩, fun a => []⟩
/-! laws.FnExactSyncTake -/
def ib_bc9 : IC :=
 (Rs [Io 3 (.box 466 [some 387, some 402] (.t 0)), Io 4 (.box 466 [some 387, some 402] (.t 1)), Kb 6 false]
 (.seq (Rs [Mv 19 2, Io 20 (.len true (.t 19)), Bk 21 .gtr 20 1048576]
 (Ct 21 (Rs [Kb 6 true]
 .ret)
 .skip))
 (Rs [Ki 7 1048576]
 (Rs [La 22 2 3, Mv 23 7, Ca 24 179 [22, 23], Mv 7 24]
 (.seq (Rs [Mv 25 7, Bk 26 .lss 25 0]
 (Ct 26 (Rs [Kb 6 true]
 .ret)
 .skip))
 (Rs [La 27 2 4, Mv 28 7, Ca 29 179 [27, 28], Mv 7 29]
 (.seq (Rs [Mv 30 7, Bk 31 .lss 30 0]
 (Ct 31 (Rs [Kb 6 true]
 .ret)
 .skip))
 (.seq (.drw [La 33 2 3, Ca 34 180 [33], La 35 2 4, Ca 36 180 [35], Mv 37 2, Ca 38 272 [34, 36, 37], Mv 32 38, Xt 39 32 0, Xt 40 32 1, Io 8 (.alloc 210 [.sl true 115 [], .sl true 130 []]), Sv [some 115, some 130] 8 39, Mv 9 40] [(0, 2), (1, 2), (0, 9), (1, 9), (2, 9), (3, 9), (5, 9)])
 (seqC (.reg [La 41 2 3, Ca 42 180 [41], Io 10 (.alloc 210 [.sl true 115 [], .sl true 130 []]), Sv [some 115, some 130] 10 42])
 (Rs [La 43 2 4, Ca 44 180 [43], Io 11 (.alloc 210 [.sl true 115 [], .sl true 130 []]), Sv [some 115, some 130] 11 44]
 (seqC (.reg [La 46 2 10, La 47 2 11, Mv 48 2, Ca 49 266 [46, 47, 48], Mv 45 49, Xt 50 45 0, Xt 51 45 1, Io 12 (.alloc 210 [.sl true 115 [], .sl true 130 []]), Sv [some 115, some 130] 12 50, Mv 13 51])
 (.seq (Rs [La 52 2 12, La 53 2 8, Ca 54 183 [52, 53], Nt 55 54, Mv 56 55, Gf 56 (Mv 57 13), Gf 56 (Mv 58 9), Gf 56 (Bb 59 .neq 57 58), Pk 60 56 59]
 (Ct 60 (Rs [Kb 6 false]
 .ret)
 .skip))
 (.seq (.seq (.drw [La 61 2 10, La 62 2 3, Ca 63 180 [62], Ca 64 183 [61, 63], Nt 65 64] [(0, 1), (0, 2)])
 (Ct 65 (Rs [Kb 6 false]
 .ret)
 .skip))
 (.seq (.seq (.drw [La 66 2 11, La 67 2 4, Ca 68 180 [67], Ca 69 183 [66, 68], Nt 70 69] [(0, 1), (0, 2)])
 (Ct 70 (Rs [Kb 6 false]
 .ret)
 .skip))
 (Rs [Ki 14 1]
 (Rs [La 71 2 10, Mv 72 14, Io 73 (.call 185 [(true, .t 71), (false, .t 72)]), Mv 14 73]
 (Rs [La 74 2 11, Mv 75 14, Io 76 (.call 185 [(true, .t 74), (false, .t 75)]), Mv 14 76]
 (.seq (Rs [Mv 77 14, Bk 78 .lss 77 0, Mv 79 78, Gf 79 (La 80 2 12), Gf 79 (La 81 2 8), Gf 79 (Ca 82 183 [80, 81]), Gf 79 (Nt 83 82), Pk 84 79 83, Mv 85 84, Gf 85 (Mv 86 13), Gf 85 (Mv 87 9), Gf 85 (Bb 88 .neq 86 87), Pk 89 85 88]
 (Ct 89 (Rs [Kb 6 false]
 .ret)
 .skip))
 (Rs [Ki 15 1]
 (Rs [La 90 2 12, Mv 91 15, Io 92 (.call 185 [(true, .t 90), (false, .t 91)]), Mv 15 92]
 (Rs [Ki 16 1]
 (Rs [La 93 2 12, Mv 94 16, Ca 95 187 [93, 94], Mv 16 95]
 (.seq (Rs [Mv 96 16, Bk 97 .lss 96 0]
 (Ct 97 (Rs [Kb 6 false]
 .ret)
 .skip))
 (.seq (Rs [Mv 98 16, Mv 99 15, Bb 100 .neq 98 99]
 (Ct 100 (Rs [Kb 6 false]
 .ret)
 .skip))
 (.seq (.drw [La 102 2 3, Ca 103 180 [102], La 104 2 4, Ca 105 180 [104], Mv 106 2, Ca 107 266 [103, 105, 106], Mv 101 107, Xt 108 101 0, Xt 109 101 1, Io 17 (.alloc 210 [.sl true 115 [], .sl true 130 []]), Sv [some 115, some 130] 17 108, Mv 18 109] [(0, 2), (1, 2), (0, 9), (1, 9), (2, 9), (3, 9), (5, 9)])
 (.seq (Rs [La 110 2 17, La 111 2 8, Ca 112 183 [110, 111], Nt 113 112, Mv 114 113, Gf 114 (Mv 115 18), Gf 114 (Mv 116 9), Gf 114 (Bb 117 .neq 115 116), Pk 118 114 117]
 (Ct 118 (Rs [Kb 6 false]
 .ret)
 .skip))
 (Rs [Ki 16 1]
 (Rs [La 119 2 12, Mv 120 16, Ca 121 187 [119, 120], Mv 16 121]
 (.seq (Rs [Mv 122 16, Bk 123 .lss 122 0]
 (Ct 123 (Rs [Kb 6 false]
 .ret)
 .skip))
 (.seq (Rs [Mv 124 16, Mv 125 15, Bb 126 .neq 124 125]
 (Ct 126 (Rs [Kb 6 false]
 .ret)
 .skip))
 (Rs [Kb 6 true]
 .ret)))))))))))))))))))))))))))))))
def if_bc9 : IFn := ⟨127, [.inl 6], ib_bc9, lcF []⟩
def ks_bc9 : List (List (Option Nat)) := [[none]]
def gf_bc9 (a0 : Repo) (a1 : Repo) (a2 : Str) : Option Bool := if (decide ((a2.size : Int) > 1048576)) = true then (some (true)) else ((gf_cn9 a0 1048576).bind fun x3 => if (decide (x3 < 0)) = true then (some (true)) else ((gf_cn9 a1 x3).bind fun x5 => if (decide (x5 < 0)) = true then (some (true)) else ((gf_da9 a0).bind fun x7 => (gf_da9 a1).bind fun x13 => (gf_ea9 x7 x13 a2).bind fun x19 => (((gf_da9 a0).bind fun x27 => some (x27.commits, x27.heads) : Option ((List Commit) × (List Head)))).bind fun q26 => (gf_da9 a1).bind fun x48 => (((gf_ar9 (⟨q26.1, q26.2⟩ : Repo) x48 a2).bind fun x56 => some (x56.2, x56.1.commits, x56.1.heads) : Option (Int × (List Commit) × (List Head)))).bind fun q55 => (gf_bm9 (⟨q55.2.1, q55.2.2⟩ : Repo) x19.1).bind fun x88 => if (!x88) = true then (some (false)) else (if (q55.1 != x19.2) = true then (some (false)) else ((gf_da9 a0).bind fun x90 => (gf_bm9 (⟨q26.1, q26.2⟩ : Repo) x90).bind fun x96 => if (!x96) = true then (some (false)) else ((gf_da9 a1).bind fun x98 => (gf_bm9 x48 x98).bind fun x104 => if (!x104) = true then (some (false)) else ((gf_cc9 (⟨q26.1, q26.2⟩ : Repo) 1).bind fun x106 => (gf_cc9 x48 x106.1).bind fun x108 => if (decide (x108.1 < 0)) = true then (some (false)) else ((gf_bm9 (⟨q55.2.1, q55.2.2⟩ : Repo) x19.1).bind fun x110 => if (!x110) = true then (some (false)) else (if (q55.1 != x19.2) = true then (some (false)) else ((gf_cc9 (⟨q55.2.1, q55.2.2⟩ : Repo) 1).bind fun x112 => (gf_bv9 x112.2 1).bind fun x114 => if (decide (x114 < 0)) = true then (some (false)) else (if (x114 != x112.1) = true then (some (false)) else ((gf_da9 a0).bind fun x116 => (gf_da9 a1).bind fun x122 => (gf_ar9 x116 x122 a2).bind fun x128 => (gf_bm9 x128.1 x19.1).bind fun x135 => if (!x135) = true then (some (false)) else (if (x128.2 != x19.2) = true then (some (false)) else ((gf_bv9 x112.2 1).bind fun x137 => if (decide (x137 < 0)) = true then (some (false)) else (if (x137 != x112.1) = true then (some (false)) else (some (true)))))))))))))))))
def c_bc9 : Con := ⟨Repo × Repo × Str, Bool, 283, fun a => [.agg [.ro (List.map (eCommit false) a.1.commits), .ro (List.map eHead a.1.heads)], .agg [.ro (List.map (eCommit false) a.2.1.commits), .ro (List.map eHead a.2.1.heads)], .v (.string a.2.2)], fun a => gf_bc9 a.1 a.2.1 a.2.2, fun a r => ⟨[(false, [.v (.bool r)])], []⟩, fun a => []⟩
end Go.Proofs.AM
