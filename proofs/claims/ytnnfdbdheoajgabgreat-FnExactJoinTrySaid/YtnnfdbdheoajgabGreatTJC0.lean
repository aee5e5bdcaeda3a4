/- Lemmas of the proof (TJC0), on an abstract machine. Conditions: none. -/
import Derived.Test.YtnnfdbdheoajgabGreatSF
set_option linter.unusedVariables false
set_option maxRecDepth 100000
set_option maxHeartbeats 4000000
namespace Go.Proofs.AM
attribute [local irreducible] vwp vstps vstpLs vstp vdo vret kseq kblk kloop kend kcut kloop2 frzV renV shutK pfzV trnV unrV
def if_dd9 : IFn := ⟨12, [.inl 4],
 (Rs [Ki 0 4]
 (Rs (sq 5 [Mv 1, Mv 0, Ln 6, Bb .sub 5 7] [Mv 8 1])
 (.seq (Rs (sq 9 [Mv 1, Bk .lss 9 0] [])
 (Ct 10 (Rs [Ki (-1) 4]
 .ret)
 .skip))
 (Rs [Mv 1 11, Mv 11 4]
 .ret)))), lcF []⟩
def ks_dd9 : List (List (Option Nat)) := [[none]]
def gf_dd9 (a0 : (List Pt)) (a1 : Int) : Option Int := if (decide ((IntKind.i64.wrap (a1 - (a0.length : Int))) < 0)) = true then (some ((-1))) else (some ((IntKind.i64.wrap (a1 - (a0.length : Int)))))
def c_dd9 : Con := ⟨(List Pt) × Int, Int, 1, fun a => [.ro (List.map ePt a.1), .v (.int .i64 a.2)], fun a => gf_dd9 a.1 a.2, fun a r => ⟨[(false, [.v (.int .i64 r)])], []⟩, fun a => []⟩
def if_dg9 : IFn := ⟨20, [.inl 4],
 (Rs [Io (.box 354 [none, none] (.t 0)) 2, Ki 0 4]
 (Rs (sq 5 [Mv 1, Fa 0 2, Ld 1 6, Ls 7, Bb .sub 5 8] [Mv 9 1])
 (.seq (Rs (sq 10 [Mv 1, Bk .lss 10 0] [])
 (Ct 11 (Rs [Ki (-1) 4]
 .ret)
 .skip))
 (Rs (sq 12 [Mv 1, Fa 1 2, Ld 1 13, Ls 14, Bb .sub 12 15] [Mv 16 1])
 (.seq (Rs (sq 17 [Mv 1, Bk .lss 17 0] [])
 (Ct 18 (Rs [Ki (-1) 4]
 .ret)
 .skip))
 (Rs [Mv 1 19, Mv 19 4]
 .ret)))))), lcF []⟩
def ks_dg9 : List (List (Option Nat)) := [[none]]
def gf_dg9 (a0 : Tag) (a1 : Int) : Option Int := if (decide ((IntKind.i64.wrap (a1 - (a0.key.size : Int))) < 0)) = true then (some ((-1))) else (if (decide ((IntKind.i64.wrap ((IntKind.i64.wrap (a1 - (a0.key.size : Int))) - (a0.val.size : Int))) < 0)) = true then (some ((-1))) else (some ((IntKind.i64.wrap ((IntKind.i64.wrap (a1 - (a0.key.size : Int))) - (a0.val.size : Int))))))
def c_dg9 : Con := ⟨Tag × Int, Int, 2, fun a => [.agg [.v (.string a.1.key), .v (.string a.1.val)], .v (.int .i64 a.2)], fun a => gf_dg9 a.1 a.2, fun a r => ⟨[(false, [.v (.int .i64 r)])], []⟩, fun a => []⟩
def if_df9 : IFn := ⟨12, [.inl 4],
 (Rs [Io (.box 482 [none, some 338] (.t 0)) 2, Ki 0 4]
 (Rs (sq 5 [Fa 1 2, Ld 1 5, Mv 1, Ca 1 [6, 7]] [Mv 8 1])
 (.seq (Rs (sq 9 [Mv 1, Bk .lss 9 0] [])
 (Ct 10 (Rs [Ki (-1) 4]
 .ret)
 .skip))
 (Rs [Mv 1 11, Mv 11 4]
 .ret)))), lcF []⟩
def ks_df9 : List (List (Option Nat)) := [[none]]
def gf_df9 (a0 : Shape) (a1 : Int) : Option Int := (gf_dd9 a0.pts a1).bind fun x2 => if (decide (x2 < 0)) = true then (some ((-1))) else (some (x2))
def c_df9 : Con := ⟨Shape × Int, Int, 3, fun a => [.agg [.v (.int .i64 a.1.kind), .ro (List.map ePt a.1.pts)], .v (.int .i64 a.2)], fun a => gf_df9 a.1 a.2, fun a r => ⟨[(false, [.v (.int .i64 r)])], []⟩, fun a => []⟩
def if_dh9 : IFn := ⟨27, [.inl 4],
 (Rs [Ki 0 4]
 (Rs (sq 6 [Mv 1, Mv 0, Ln 7, Bb .sub 6 8] [Mv 9 1])
 (.seq (Rs (sq 10 [Mv 1, Bk .lss 10 0] [])
 (Ct 11 (Rs [Ki (-1) 4]
 .ret)
 .skip))
 (.seq (Rs [Ki 0 5]
 (blkC 0 (.loop (.seq (Rs (sq 12 [Mv 5, Mv 0, Ln 13, Bb .lss 12 14] [])
 (Ct 15 .skip
 (.exit 0)))
 (.seq (.block 1 (Rs (sq 18 [Mv 0, Mv 5, Ia 2 18 19, La 2 20, Mv 1, Ca 2 [21, 22]] [Mv 23 1])
 (Rs (sq 24 [Mv 1, Bk .lss 24 0] [])
 (Ct 25 (Rs [Ki (-1) 4]
 .ret)
 .skip))))
 (.reg (sq 16 [Mv 5, Bk .add 16 1] [Mv 17 5])))))))
 (Rs [Mv 1 26, Mv 26 4]
 .ret))))), lcF []⟩
def ks_dh9 : List (List (Option Nat)) := [[none]]
def gl_dh9_1 : List Tag → Nat → Int → Option (Int ⊕ Int)
 | [], k18, v16 => some (.inr v16)
 | x19 :: l20, k18, v16 => (gf_dg9 x19 v16).bind fun x27 => if (decide (x27 < 0)) = true then (some (.inl ((-1)))) else (gl_dh9_1 l20 (k18 + 1) x27)
def gf_dh9 (a0 : (List Tag)) (a1 : Int) : Option Int := if (decide ((IntKind.i64.wrap (a1 - (a0.length : Int))) < 0)) = true then (some ((-1))) else (if fits a0.length = true then ((gl_dh9_1 a0 0 (IntKind.i64.wrap (a1 - (a0.length : Int)))).bind fun q => match q with | .inl r => some r | .inr q15 => some (q15)) else none)
def c_dh9 : Con := ⟨(List Tag) × Int, Int, 4, fun a => [.ro (List.map eTag a.1), .v (.int .i64 a.2)], fun a => gf_dh9 a.1 a.2, fun a r => ⟨[(false, [.v (.int .i64 r)])], []⟩, fun a => []⟩
def if_cy9 : IFn := ⟨25, [.inl 4],
 (Rs [Io (.box 372 [none, none, some 338, some 354] (.t 0)) 2, Ki 0 4]
 (Rs (sq 5 [Mv 1, Fa 0 2, Ld 1 6, Ls 7, Bb .sub 5 8] [Mv 9 1])
 (.seq (Rs (sq 10 [Mv 1, Bk .lss 10 0] [])
 (Ct 11 (Rs [Ki (-1) 4]
 .ret)
 .skip))
 (Rs (sq 12 [Fa 1 2, La 2 12, Mv 1, Ca 3 [13, 14]] [Mv 15 1])
 (.seq (Rs (sq 16 [Mv 1, Bk .lss 16 0] [])
 (Ct 17 (Rs [Ki (-1) 4]
 .ret)
 .skip))
 (Rs (sq 18 [Fa 3 2, Ld 1 18, Mv 1, Ca 4 [19, 20]] [Mv 21 1])
 (.seq (Rs (sq 22 [Mv 1, Bk .lss 22 0] [])
 (Ct 23 (Rs [Ki (-1) 4]
 .ret)
 .skip))
 (Rs [Mv 1 24, Mv 24 4]
 .ret)))))))), lcF []⟩
def ks_cy9 : List (List (Option Nat)) := [[none]]
def gf_cy9 (a0 : Feat) (a1 : Int) : Option Int := if (decide ((IntKind.i64.wrap (a1 - (a0.id.size : Int))) < 0)) = true then (some ((-1))) else ((gf_df9 a0.shape (IntKind.i64.wrap (a1 - (a0.id.size : Int)))).bind fun x2 => if (decide (x2 < 0)) = true then (some ((-1))) else ((gf_dh9 a0.tags x2).bind fun x4 => if (decide (x4 < 0)) = true then (some ((-1))) else (some (x4))))
def c_cy9 : Con := ⟨Feat × Int, Int, 5, fun a => [.agg [.v (.string a.1.id), .v (.int .i64 a.1.shape.kind), .ro (List.map ePt a.1.shape.pts), .ro (List.map eTag a.1.tags)], .v (.int .i64 a.2)], fun a => gf_cy9 a.1 a.2, fun a r => ⟨[(false, [.v (.int .i64 r)])], []⟩, fun a => []⟩
def if_dc9 : IFn := ⟨12, [.inl 4],
 (Rs [Ki 0 4]
 (Rs (sq 5 [Mv 1, Mv 0, Ln 6, Bb .sub 5 7] [Mv 8 1])
 (.seq (Rs (sq 9 [Mv 1, Bk .lss 9 0] [])
 (Ct 10 (Rs [Ki (-1) 4]
 .ret)
 .skip))
 (Rs [Mv 1 11, Mv 11 4]
 .ret)))), lcF []⟩
def ks_dc9 : List (List (Option Nat)) := [[none]]
def gf_dc9 (a0 : (List Int)) (a1 : Int) : Option Int := if (decide ((IntKind.i64.wrap (a1 - (a0.length : Int))) < 0)) = true then (some ((-1))) else (some ((IntKind.i64.wrap (a1 - (a0.length : Int)))))
def c_dc9 : Con := ⟨(List Int) × Int, Int, 6, fun a => [.ro (List.map eInt a.1), .v (.int .i64 a.2)], fun a => gf_dc9 a.1 a.2, fun a r => ⟨[(false, [.v (.int .i64 r)])], []⟩, fun a => []⟩
def if_cz9 : IFn := ⟨27, [.inl 4],
 (Rs [Ki 0 4]
 (Rs (sq 6 [Mv 1, Mv 0, Ln 7, Bb .sub 6 8] [Mv 9 1])
 (.seq (Rs (sq 10 [Mv 1, Bk .lss 10 0] [])
 (Ct 11 (Rs [Ki (-1) 4]
 .ret)
 .skip))
 (.seq (Rs [Ki 0 5]
 (blkC 0 (.loop (.seq (Rs (sq 12 [Mv 5, Mv 0, Ln 13, Bb .lss 12 14] [])
 (Ct 15 .skip
 (.exit 0)))
 (.seq (.block 1 (Rs (sq 18 [Mv 0, Mv 5, Ia 4 18 19, La 4 20, Mv 1, Ca 5 [21, 22]] [Mv 23 1])
 (Rs (sq 24 [Mv 1, Bk .lss 24 0] [])
 (Ct 25 (Rs [Ki (-1) 4]
 .ret)
 .skip))))
 (.reg (sq 16 [Mv 5, Bk .add 16 1] [Mv 17 5])))))))
 (Rs [Mv 1 26, Mv 26 4]
 .ret))))), lcF []⟩
def ks_cz9 : List (List (Option Nat)) := [[none]]
def gl_cz9_1 : List Feat → Nat → Int → Option (Int ⊕ Int)
 | [], k18, v16 => some (.inr v16)
 | x19 :: l20, k18, v16 => (gf_cy9 x19 v16).bind fun x27 => if (decide (x27 < 0)) = true then (some (.inl ((-1)))) else (gl_cz9_1 l20 (k18 + 1) x27)
def gf_cz9 (a0 : (List Feat)) (a1 : Int) : Option Int := if (decide ((IntKind.i64.wrap (a1 - (a0.length : Int))) < 0)) = true then (some ((-1))) else (if fits a0.length = true then ((gl_cz9_1 a0 0 (IntKind.i64.wrap (a1 - (a0.length : Int)))).bind fun q => match q with | .inl r => some r | .inr q15 => some (q15)) else none)
def c_cz9 : Con := ⟨(List Feat) × Int, Int, 7, fun a => [.ro (List.map (eFeat false) a.1), .v (.int .i64 a.2)], fun a => gf_cz9 a.1 a.2, fun a r => ⟨[(false, [.v (.int .i64 r)])], []⟩, fun a => []⟩
def if_cw9 : IFn := ⟨25, [.inl 4],
 (Rs [Io (.box 387 [some 17, some 372, none] (.t 0)) 2, Ki 0 4]
 (Rs (sq 5 [Fa 0 2, Ld 1 5, Mv 1, Ca 6 [6, 7]] [Mv 8 1])
 (.seq (Rs (sq 9 [Mv 1, Bk .lss 9 0] [])
 (Ct 10 (Rs [Ki (-1) 4]
 .ret)
 .skip))
 (Rs (sq 11 [Fa 1 2, Ld 1 11, Mv 1, Ca 7 [12, 13]] [Mv 14 1])
 (.seq (Rs (sq 15 [Mv 1, Bk .lss 15 0] [])
 (Ct 16 (Rs [Ki (-1) 4]
 .ret)
 .skip))
 (Rs (sq 17 [Mv 1, Fa 2 2, Ld 1 18, Ls 19, Bb .sub 17 20] [Mv 21 1])
 (.seq (Rs (sq 22 [Mv 1, Bk .lss 22 0] [])
 (Ct 23 (Rs [Ki (-1) 4]
 .ret)
 .skip))
 (Rs [Mv 1 24, Mv 24 4]
 .ret)))))))), lcF []⟩
def ks_cw9 : List (List (Option Nat)) := [[none]]
def gf_cw9 (a0 : Commit) (a1 : Int) : Option Int := (gf_dc9 a0.up a1).bind fun x2 => if (decide (x2 < 0)) = true then (some ((-1))) else ((gf_cz9 a0.sheet x2).bind fun x4 => if (decide (x4 < 0)) = true then (some ((-1))) else (if (decide ((IntKind.i64.wrap (x4 - (a0.note.size : Int))) < 0)) = true then (some ((-1))) else (some ((IntKind.i64.wrap (x4 - (a0.note.size : Int)))))))
def c_cw9 : Con := ⟨Commit × Int, Int, 8, fun a => [.agg [.ro (List.map eInt a.1.up), .ro (List.map (eFeat false) a.1.sheet), .v (.string a.1.note)], .v (.int .i64 a.2)], fun a => gf_cw9 a.1 a.2, fun a r => ⟨[(false, [.v (.int .i64 r)])], []⟩, fun a => []⟩
def if_da9 : IFn := ⟨13, [.inl 4],
 (Rs [Io (.box 402 [none, none] (.t 0)) 2, Ki 0 4]
 (Rs (sq 5 [Mv 1, Fa 0 2, Ld 1 6, Ls 7, Bb .sub 5 8] [Mv 9 1])
 (.seq (Rs (sq 10 [Mv 1, Bk .lss 10 0] [])
 (Ct 11 (Rs [Ki (-1) 4]
 .ret)
 .skip))
 (Rs [Mv 1 12, Mv 12 4]
 .ret)))), lcF []⟩
def ks_da9 : List (List (Option Nat)) := [[none]]
def gf_da9 (a0 : Head) (a1 : Int) : Option Int := if (decide ((IntKind.i64.wrap (a1 - (a0.name.size : Int))) < 0)) = true then (some ((-1))) else (some ((IntKind.i64.wrap (a1 - (a0.name.size : Int)))))
def c_da9 : Con := ⟨Head × Int, Int, 9, fun a => [.agg [.v (.string a.1.name), .v (.int .i64 a.1.at_)], .v (.int .i64 a.2)], fun a => gf_da9 a.1 a.2, fun a r => ⟨[(false, [.v (.int .i64 r)])], []⟩, fun a => []⟩
def if_cx9 : IFn := ⟨27, [.inl 4],
 (Rs [Ki 0 4]
 (Rs (sq 6 [Mv 1, Mv 0, Ln 7, Bb .sub 6 8] [Mv 9 1])
 (.seq (Rs (sq 10 [Mv 1, Bk .lss 10 0] [])
 (Ct 11 (Rs [Ki (-1) 4]
 .ret)
 .skip))
 (.seq (Rs [Ki 0 5]
 (blkC 0 (.loop (.seq (Rs (sq 12 [Mv 5, Mv 0, Ln 13, Bb .lss 12 14] [])
 (Ct 15 .skip
 (.exit 0)))
 (.seq (.block 1 (Rs (sq 18 [Mv 0, Mv 5, Ia 3 18 19, La 3 20, Mv 1, Ca 8 [21, 22]] [Mv 23 1])
 (Rs (sq 24 [Mv 1, Bk .lss 24 0] [])
 (Ct 25 (Rs [Ki (-1) 4]
 .ret)
 .skip))))
 (.reg (sq 16 [Mv 5, Bk .add 16 1] [Mv 17 5])))))))
 (Rs [Mv 1 26, Mv 26 4]
 .ret))))), lcF []⟩
def ks_cx9 : List (List (Option Nat)) := [[none]]
def gl_cx9_1 : List Commit → Nat → Int → Option (Int ⊕ Int)
 | [], k18, v16 => some (.inr v16)
 | x19 :: l20, k18, v16 => (gf_cw9 x19 v16).bind fun x27 => if (decide (x27 < 0)) = true then (some (.inl ((-1)))) else (gl_cx9_1 l20 (k18 + 1) x27)
def gf_cx9 (a0 : (List Commit)) (a1 : Int) : Option Int := if (decide ((IntKind.i64.wrap (a1 - (a0.length : Int))) < 0)) = true then (some ((-1))) else (if fits a0.length = true then ((gl_cx9_1 a0 0 (IntKind.i64.wrap (a1 - (a0.length : Int)))).bind fun q => match q with | .inl r => some r | .inr q15 => some (q15)) else none)
def c_cx9 : Con := ⟨(List Commit) × Int, Int, 10, fun a => [.ro (List.map (eCommit false) a.1), .v (.int .i64 a.2)], fun a => gf_cx9 a.1 a.2, fun a r => ⟨[(false, [.v (.int .i64 r)])], []⟩, fun a => []⟩
def if_db9 : IFn := ⟨27, [.inl 4],
 (Rs [Ki 0 4]
 (Rs (sq 6 [Mv 1, Mv 0, Ln 7, Bb .sub 6 8] [Mv 9 1])
 (.seq (Rs (sq 10 [Mv 1, Bk .lss 10 0] [])
 (Ct 11 (Rs [Ki (-1) 4]
 .ret)
 .skip))
 (.seq (Rs [Ki 0 5]
 (blkC 0 (.loop (.seq (Rs (sq 12 [Mv 5, Mv 0, Ln 13, Bb .lss 12 14] [])
 (Ct 15 .skip
 (.exit 0)))
 (.seq (.block 1 (Rs (sq 18 [Mv 0, Mv 5, Ia 2 18 19, La 2 20, Mv 1, Ca 9 [21, 22]] [Mv 23 1])
 (Rs (sq 24 [Mv 1, Bk .lss 24 0] [])
 (Ct 25 (Rs [Ki (-1) 4]
 .ret)
 .skip))))
 (.reg (sq 16 [Mv 5, Bk .add 16 1] [Mv 17 5])))))))
 (Rs [Mv 1 26, Mv 26 4]
 .ret))))), lcF []⟩
def ks_db9 : List (List (Option Nat)) := [[none]]
def gl_db9_1 : List Head → Nat → Int → Option (Int ⊕ Int)
 | [], k18, v16 => some (.inr v16)
 | x19 :: l20, k18, v16 => (gf_da9 x19 v16).bind fun x27 => if (decide (x27 < 0)) = true then (some (.inl ((-1)))) else (gl_db9_1 l20 (k18 + 1) x27)
def gf_db9 (a0 : (List Head)) (a1 : Int) : Option Int := if (decide ((IntKind.i64.wrap (a1 - (a0.length : Int))) < 0)) = true then (some ((-1))) else (if fits a0.length = true then ((gl_db9_1 a0 0 (IntKind.i64.wrap (a1 - (a0.length : Int)))).bind fun q => match q with | .inl r => some r | .inr q15 => some (q15)) else none)
def c_db9 : Con := ⟨(List Head) × Int, Int, 11, fun a => [.ro (List.map eHead a.1), .v (.int .i64 a.2)], fun a => gf_db9 a.1 a.2, fun a r => ⟨[(false, [.v (.int .i64 r)])], []⟩, fun a => []⟩
def if_fh9 : IFn := ⟨9, [.inl 2],
 (Rs [Kb false 2]
 (Rs (sq 3 [Mv 0, Bk .geq 3 (-1000), Mv 4] (Sg 5 6 [Mv 0, Bk .leq 6 1000] [Pf 5 7 8, Mv 8 2]))
 .ret)), lcF []⟩
def ks_fh9 : List (List (Option Nat)) := [[none]]
def gf_fh9 (a0 : Int) : Option Bool := if (decide (a0 ≥ (-1000))) = true then (some ((decide (a0 ≤ 1000)))) else (some (false))
def c_fh9 : Con := ⟨Int, Bool, 12, fun a => [.v (.int .i64 a)], fun a => gf_fh9 a, fun a r => ⟨[(false, [.v (.bool r)])], []⟩, fun a => []⟩
def if_fi9 : IFn := ⟨45, [.inl 2],
 (Rs [Kb false 2]
 (.seq (Rs [Ki 0 3]
 (blkC 0 (.loop (.seq (Rs (sq 4 [Mv 3, Mv 0, Ln 5, Bb .lss 4 6] [])
 (Ct 7 .skip
 (.exit 0)))
 (.seq (.block 1 (.seq (.drw (sq 10 [Mv 0, Mv 3, Ia 2 10 11, Fa 0 12, Ld 1 13, Ca 12 [14], Nt 15, Mv 16] (Sf 17 18 [Mv 0, Mv 3, Ia 2 18 19, Fa 1 20, Ld 1 21, Ca 12 [22], Nt 23] (sq 25 [Pk 17 24, Mv 25] (Sf 26 27 [Mv 3, Bk .gtr 27 0, Mv 28] (Sg 29 30 [Mv 0, Mv 3, Ia 2 30 31, La 2 32, Mv 0, Mv 3, Bk .sub 35 1, Ia 2 34 36, La 2 37, Io (.eqs false true [0, 0] (.t 33) (.t 38))] [Gf 26 (Pf 29 39 40), Pk 26 40 41]))))) [(23, 28)])
 (Ct 41 (Rs [Kb false 2]
 .ret)
 .skip)))
 (.reg (sq 8 [Mv 3, Bk .add 8 1] [Mv 9 3])))))))
 (Rs (sq 42 [Mv 0, Ln 42, Bk .leq 43 6] [Mv 44 2])
 .ret))), lcF []⟩
def ks_fi9 : List (List (Option Nat)) := [[none]]
def gl_fi9_1 (a0 : (List Pt)) : List Pt → Nat → Option (Bool ⊕ Unit)
 | [], k26 => some (.inr ())
 | x27 :: l28, k26 => (gf_fh9 x27.x).bind fun x35 => if (!x35) = true then (some (.inl (false))) else ((gf_fh9 x27.y).bind fun x37 => if (!x37) = true then (some (.inl (false))) else (if (decide ((k26 : Int) > 0)) = true then ((idx a0 (IntKind.i64.wrap ((k26 : Int) - 1))).bind fun x39 => if ((x27.x == x39.x) && ((x27.y == x39.y) && true)) = true then (some (.inl (false))) else (gl_fi9_1 a0 l28 (k26 + 1) )) else (gl_fi9_1 a0 l28 (k26 + 1) )))
def gf_fi9 (a0 : (List Pt)) : Option Bool := if fits a0.length = true then ((gl_fi9_1 a0 a0 0 ).bind fun q => match q with | .inl r => some r | .inr q24 => some ((decide ((a0.length : Int) ≤ 6)))) else none
def c_fi9 : Con := ⟨(List Pt), Bool, 13, fun a => [.ro (List.map ePt a)], fun a => gf_fi9 a, fun a r => ⟨[(false, [.v (.bool r)])], []⟩, fun a => []⟩
def if_fe9 : IFn := ⟨28, [.inl 2],
 (Rs [Kb false 2]
 (.seq (Rs [Ki 0 3]
 (blkC 0 (.loop (.seq (Rs (sq 4 [Mv 3, Mv 0, Ls 5, Bb .lss 4 6] [])
 (Ct 7 .skip
 (.exit 0)))
 (.seq (.block 1 (Rs (sq 10 [Mv 0, Mv 3, Si 10 11, Io (.bin .lss (.t 12) (.c (.int .u8 97))), Mv 13] (Sf 14 15 [Mv 0, Mv 3, Si 15 16, Io (.bin .gtr (.t 17) (.c (.int .u8 122)))] [Pk 14 18 19]))
 (Ct 19 (Rs [Kb false 2]
 .ret)
 .skip)))
 (.reg (sq 8 [Mv 3, Bk .add 8 1] [Mv 9 3])))))))
 (Rs (sq 20 [Mv 0, Ls 20, Bk .geq 21 1, Mv 22] (Sg 23 24 [Mv 0, Ls 24, Bk .leq 25 6] [Pf 23 26 27, Mv 27 2]))
 .ret))), lcF []⟩
def ks_fe9 : List (List (Option Nat)) := [[none]]
def gl_fe9_1 : List UInt8 → Nat → Option (Bool ⊕ Unit)
 | [], k10 => some (.inr ())
 | x11 :: l12, k10 => if (decide ((x11.toNat : Int) < 97)) = true then (some (.inl (false))) else (if (decide ((x11.toNat : Int) > 122)) = true then (some (.inl (false))) else (gl_fe9_1 l12 (k10 + 1) ))
def gf_fe9 (a0 : Str) : Option Bool := if fits a0.size = true then ((gl_fe9_1 a0.data.toList 0 ).bind fun q => match q with | .inl r => some r | .inr q8 => if (decide ((a0.size : Int) ≥ 1)) = true then (some ((decide ((a0.size : Int) ≤ 6)))) else (some (false))) else none
def c_fe9 : Con := ⟨Str, Bool, 14, fun a => [.v (.string a)], fun a => gf_fe9 a, fun a r => ⟨[(false, [.v (.bool r)])], []⟩, fun a => []⟩
def if_ez9 : IFn := ⟨38, [.inl 2],
 (Rs (sq 1 [Io (.box 226 [none, some 66] (.t 0)), Kb false] [])
 (Rs (sq 4 [Fa 1 1, Ld 1 4, Ln 5] [Mv 6 3])
 (.seq (Rs (sq 7 [Fa 1 1, Ld 1 7, Ca 13 [8], Nt 9] [])
 (Ct 10 (Rs [Kb false 2]
 .ret)
 .skip))
 (.seq (Rs (sq 11 [Fa 0 1, Ld 1 11] [])
 (.block 0 (Rs [Bk .eql 12 1 14, Mv 14 13]
 (Ct 13 (Rs (sq 15 [Mv 3, Bk .eql 15 1] [Mv 16 2])
 .ret)
 (Rs [Bk .eql 12 2 18, Mv 18 17]
 (Ct 17 (Rs (sq 19 [Mv 3, Bk .geq 19 2] [Mv 20 2])
 .ret)
 (Rs [Bk .eql 12 3 22, Mv 22 21]
 (Ct 21 (.seq (.drw (sq 23 [Mv 3, Bk .geq 23 3, Mv 24] (Sg 25 26 [Fa 1 1, Ld 1 26, Ik 2 27 0, La 2 28, Fa 1 1, Ld 1 30, Mv 3, Bk .sub 32 1, Ia 2 31 33, La 2 34, Io (.eqs true true [0, 0] (.t 29) (.t 35))] [Pf 25 36 37, Mv 37 2])) [(4, 8), (6, 8), (4, 12), (6, 12)])
 .ret)
 .skip))))))))
 (Rs [Kb false 2]
 .ret))))), lcF []⟩
def ks_ez9 : List (List (Option Nat)) := [[none]]
def gf_ez9 (a0 : Shape) : Option Bool := (gf_fi9 a0.pts).bind fun x2 => if (!x2) = true then (some (false)) else (if (a0.kind == 1) = true then (some (((a0.pts.length : Int) == 1))) else (if (a0.kind == 2) = true then (some ((decide ((a0.pts.length : Int) ≥ 2)))) else (if (a0.kind == 3) = true then (if (decide ((a0.pts.length : Int) ≥ 3)) = true then ((idx a0.pts 0).bind fun x4 => (idx a0.pts (IntKind.i64.wrap ((a0.pts.length : Int) - 1))).bind fun x6 => some ((!((x4.x == x6.x) && ((x4.y == x6.y) && true))))) else (some (false))) else (some (false)))))
def c_ez9 : Con := ⟨Shape, Bool, 15, fun a => [.agg [.v (.int .i64 a.kind), .ro (List.map ePt a.pts)]], fun a => gf_ez9 a, fun a r => ⟨[(false, [.v (.bool r)])], []⟩, fun a => []⟩
def if_fo9 : IFn := ⟨47, [.inl 2],
 (Rs [Kb false 2]
 (.seq (Rs [Ki 0 3]
 (blkC 0 (.loop (.seq (Rs (sq 4 [Mv 3, Mv 0, Ln 5, Bb .lss 4 6] [])
 (Ct 7 .skip
 (.exit 0)))
 (.seq (.block 1 (.seq (.drw (sq 10 [Mv 0, Mv 3, Ia 2 10 11, Fa 0 12, Ld 1 13, Ca 14 [14], Nt 15, Mv 16] (Sf 17 18 [Mv 0, Mv 3, Ia 2 18 19, Fa 1 20, Ld 1 21, Ca 14 [22], Nt 23] (sq 25 [Pk 17 24, Mv 25] (Sf 26 27 [Mv 3, Bk .gtr 27 0, Mv 28] (Sg 29 30 [Mv 0, Mv 3, Ia 2 30 31, Fa 0 32, Ld 1 33, Mv 0, Mv 3, Bk .sub 36 1, Ia 2 35 37, Fa 0 38, Ld 1 39, Bb .leq 34 40] [Gf 26 (Pf 29 41 42), Pk 26 42 43]))))) [(24, 30)])
 (Ct 43 (Rs [Kb false 2]
 .ret)
 .skip)))
 (.reg (sq 8 [Mv 3, Bk .add 8 1] [Mv 9 3])))))))
 (Rs (sq 44 [Mv 0, Ln 44, Bk .leq 45 4] [Mv 46 2])
 .ret))), lcF []⟩
def ks_fo9 : List (List (Option Nat)) := [[none]]
def gl_fo9_1 (a0 : (List Tag)) : List Tag → Nat → Option (Bool ⊕ Unit)
 | [], k26 => some (.inr ())
 | x27 :: l28, k26 => (gf_fe9 x27.key).bind fun x35 => if (!x35) = true then (some (.inl (false))) else ((gf_fe9 x27.val).bind fun x37 => if (!x37) = true then (some (.inl (false))) else (if (decide ((k26 : Int) > 0)) = true then ((idx a0 (IntKind.i64.wrap ((k26 : Int) - 1))).bind fun x39 => if (slt x27.key x39.key || seq x27.key x39.key) = true then (some (.inl (false))) else (gl_fo9_1 a0 l28 (k26 + 1) )) else (gl_fo9_1 a0 l28 (k26 + 1) )))
def gf_fo9 (a0 : (List Tag)) : Option Bool := if fits a0.length = true then ((gl_fo9_1 a0 a0 0 ).bind fun q => match q with | .inl r => some r | .inr q24 => some ((decide ((a0.length : Int) ≤ 4)))) else none
def c_fo9 : Con := ⟨(List Tag), Bool, 16, fun a => [.ro (List.map eTag a)], fun a => gf_fo9 a, fun a r => ⟨[(false, [.v (.bool r)])], []⟩, fun a => []⟩
def if_es9 : IFn := ⟨16, [.inl 2],
 (Rs (sq 1 [Io (.box 100 [none, none, some 66, some 82] (.t 0)), Kb false] [])
 (Rs (sq 3 [Fa 0 1, Ld 1 3, Ca 14 [4], Mv 5] (Sg 6 7 [Fa 1 1, La 2 7, Ca 15 [8]] (sq 10 [Pf 6 9, Mv 10] (Sg 11 12 [Fa 3 1, Ld 1 12, Ca 16 [13]] [Pf 11 14 15, Mv 15 2]))))
 .ret)), lcF []⟩
def ks_es9 : List (List (Option Nat)) := [[none]]
def gf_es9 (a0 : Feat) : Option Bool := (gf_fe9 a0.id).bind fun x2 => if x2 = true then ((gf_ez9 a0.shape).bind fun x4 => if x4 = true then ((gf_fo9 a0.tags).bind fun x6 => some (x6)) else (some (false))) else (some (false))
def c_es9 : Con := ⟨Feat, Bool, 17, fun a => [.agg [.v (.string a.id), .v (.int .i64 a.shape.kind), .ro (List.map ePt a.shape.pts), .ro (List.map eTag a.tags)]], fun a => gf_es9 a, fun a r => ⟨[(false, [.v (.bool r)])], []⟩, fun a => []⟩
def if_fj9 : IFn := ⟨26, [.inl 4],
 (Rs [Kb false 4]
 (.seq (Rs (sq 6 [Mv 0, Ln 6, Mv 1, Ln 8, Bb .neq 7 9] [])
 (Ct 10 (Rs [Kb false 4]
 .ret)
 .skip))
 (.seq (Rs [Ki 0 5]
 (blkC 0 (.loop (.seq (Rs (sq 11 [Mv 5, Mv 0, Ln 12, Bb .lss 11 13] [])
 (Ct 14 .skip
 (.exit 0)))
 (.seq (.block 1 (.seq (.drw (sq 17 [Mv 0, Mv 5, Ia 2 17 18, La 2 19, Mv 1, Mv 5, Ia 2 21 22, La 2 23, Io (.eqs true true [0, 0] (.t 20) (.t 24))] []) [(3, 7)])
 (Ct 25 (Rs [Kb false 4]
 .ret)
 .skip)))
 (.reg (sq 15 [Mv 5, Bk .add 15 1] [Mv 16 5])))))))
 (Rs [Kb true 4]
 .ret)))), lcF []⟩
def ks_fj9 : List (List (Option Nat)) := [[none]]
def gl_fj9_1 (a1 : (List Pt)) : List Pt → Nat → Option (Bool ⊕ Unit)
 | [], k16 => some (.inr ())
 | x17 :: l18, k16 => (idx a1 (k16 : Int)).bind fun x25 => if (!((x17.x == x25.x) && ((x17.y == x25.y) && true))) = true then (some (.inl (false))) else (gl_fj9_1 a1 l18 (k16 + 1) )
def gf_fj9 (a0 : (List Pt)) (a1 : (List Pt)) : Option Bool := if ((a0.length : Int) != (a1.length : Int)) = true then (some (false)) else (if fits a0.length = true then ((gl_fj9_1 a1 a0 0 ).bind fun q => match q with | .inl r => some r | .inr q14 => some (true)) else none)
def c_fj9 : Con := ⟨(List Pt) × (List Pt), Bool, 18, fun a => [.ro (List.map ePt a.1), .ro (List.map ePt a.2)], fun a => gf_fj9 a.1 a.2, fun a r => ⟨[(false, [.v (.bool r)])], []⟩, fun a => []⟩
def if_fa9 : IFn := ⟨17, [.inl 4],
 (Rs (sq 2 [Io (.box 226 [none, some 66] (.t 0)), Io (.box 226 [none, some 66] (.t 1)), Kb false] [])
 (Rs (sq 5 [Fa 0 2, Ld 1 5, Fa 0 3, Ld 1 7, Bb .eql 6 8, Mv 9] (Sg 10 11 [Fa 1 2, Ld 1 11, Fa 1 3, Ld 1 13, Ca 18 [12, 14]] [Pf 10 15 16, Mv 16 4]))
 .ret)), lcF []⟩
def ks_fa9 : List (List (Option Nat)) := [[none]]
def gf_fa9 (a0 : Shape) (a1 : Shape) : Option Bool := if (a0.kind == a1.kind) = true then ((gf_fj9 a0.pts a1.pts).bind fun x3 => some (x3)) else (some (false))
def c_fa9 : Con := ⟨Shape × Shape, Bool, 19, fun a => [.agg [.v (.int .i64 a.1.kind), .ro (List.map ePt a.1.pts)], .agg [.v (.int .i64 a.2.kind), .ro (List.map ePt a.2.pts)]], fun a => gf_fa9 a.1 a.2, fun a r => ⟨[(false, [.v (.bool r)])], []⟩, fun a => []⟩
def if_fn9 : IFn := ⟨26, [.inl 4],
 (Rs [Kb false 4]
 (.seq (Rs (sq 6 [Mv 0, Ln 6, Mv 1, Ln 8, Bb .neq 7 9] [])
 (Ct 10 (Rs [Kb false 4]
 .ret)
 .skip))
 (.seq (Rs [Ki 0 5]
 (blkC 0 (.loop (.seq (Rs (sq 11 [Mv 5, Mv 0, Ln 12, Bb .lss 11 13] [])
 (Ct 14 .skip
 (.exit 0)))
 (.seq (.block 1 (.seq (.drw (sq 17 [Mv 0, Mv 5, Ia 2 17 18, La 2 19, Mv 1, Mv 5, Ia 2 21 22, La 2 23, Io (.eqs true true [2, 2] (.t 20) (.t 24))] []) [(3, 7)])
 (Ct 25 (Rs [Kb false 4]
 .ret)
 .skip)))
 (.reg (sq 15 [Mv 5, Bk .add 15 1] [Mv 16 5])))))))
 (Rs [Kb true 4]
 .ret)))), lcF []⟩
def ks_fn9 : List (List (Option Nat)) := [[none]]
def gl_fn9_1 (a1 : (List Tag)) : List Tag → Nat → Option (Bool ⊕ Unit)
 | [], k16 => some (.inr ())
 | x17 :: l18, k16 => (idx a1 (k16 : Int)).bind fun x25 => if (!((x17.key == x25.key) && ((x17.val == x25.val) && true))) = true then (some (.inl (false))) else (gl_fn9_1 a1 l18 (k16 + 1) )
def gf_fn9 (a0 : (List Tag)) (a1 : (List Tag)) : Option Bool := if ((a0.length : Int) != (a1.length : Int)) = true then (some (false)) else (if fits a0.length = true then ((gl_fn9_1 a1 a0 0 ).bind fun q => match q with | .inl r => some r | .inr q14 => some (true)) else none)
def c_fn9 : Con := ⟨(List Tag) × (List Tag), Bool, 20, fun a => [.ro (List.map eTag a.1), .ro (List.map eTag a.2)], fun a => gf_fn9 a.1 a.2, fun a r => ⟨[(false, [.v (.bool r)])], []⟩, fun a => []⟩
def if_et9 : IFn := ⟨24, [.inl 4],
 (Rs (sq 2 [Io (.box 100 [none, none, some 66, some 82] (.t 0)), Io (.box 100 [none, none, some 66, some 82] (.t 1)), Kb false] [])
 (Rs (sq 5 [Fa 0 2, Ld 1 5, Fa 0 3, Ld 1 7, Bb .eql 6 8, Mv 9] (Sg 10 11 [Fa 1 2, La 2 11, Fa 1 3, La 2 13, Ca 19 [12, 14]] (sq 16 [Pf 10 15, Mv 16] (Sg 17 18 [Fa 3 2, Ld 1 18, Fa 3 3, Ld 1 20, Ca 20 [19, 21]] [Pf 17 22 23, Mv 23 4]))))
 .ret)), lcF []⟩
def ks_et9 : List (List (Option Nat)) := [[none]]
def gf_et9 (a0 : Feat) (a1 : Feat) : Option Bool := if (seq a0.id a1.id) = true then ((gf_fa9 a0.shape a1.shape).bind fun x3 => if x3 = true then ((gf_fn9 a0.tags a1.tags).bind fun x5 => some (x5)) else (some (false))) else (some (false))
def c_et9 : Con := ⟨Feat × Feat, Bool, 21, fun a => [.agg [.v (.string a.1.id), .v (.int .i64 a.1.shape.kind), .ro (List.map ePt a.1.shape.pts), .ro (List.map eTag a.1.tags)], .agg [.v (.string a.2.id), .v (.int .i64 a.2.shape.kind), .ro (List.map ePt a.2.shape.pts), .ro (List.map eTag a.2.tags)]], fun a => gf_et9 a.1 a.2, fun a r => ⟨[(false, [.v (.bool r)])], []⟩, fun a => []⟩
def if_gj9 : IFn := ⟨26, [.inl 4],
 (Rs [Kb false 4]
 (.seq (Rs (sq 6 [Mv 0, Ln 6, Mv 1, Ln 8, Bb .neq 7 9] [])
 (Ct 10 (Rs [Kb false 4]
 .ret)
 .skip))
 (.seq (Rs [Ki 0 5]
 (blkC 0 (.loop (.seq (Rs (sq 11 [Mv 5, Mv 0, Ln 12, Bb .lss 11 13] [])
 (Ct 14 .skip
 (.exit 0)))
 (.seq (.block 1 (.seq (.drw (sq 17 [Mv 0, Mv 5, Ia 1 17 18, Ld 1 19, Mv 1, Mv 5, Ia 1 21 22, Ld 1 23, Bb .neq 20 24] []) [(3, 7)])
 (Ct 25 (Rs [Kb false 4]
 .ret)
 .skip)))
 (.reg (sq 15 [Mv 5, Bk .add 15 1] [Mv 16 5])))))))
 (Rs [Kb true 4]
 .ret)))), lcF []⟩
def ks_gj9 : List (List (Option Nat)) := [[none]]
def gl_gj9_1 (a1 : (List Int)) : List Int → Nat → Option (Bool ⊕ Unit)
 | [], k16 => some (.inr ())
 | x17 :: l18, k16 => (idx a1 (k16 : Int)).bind fun x25 => if (x17 != x25) = true then (some (.inl (false))) else (gl_gj9_1 a1 l18 (k16 + 1) )
def gf_gj9 (a0 : (List Int)) (a1 : (List Int)) : Option Bool := if ((a0.length : Int) != (a1.length : Int)) = true then (some (false)) else (if fits a0.length = true then ((gl_gj9_1 a1 a0 0 ).bind fun q => match q with | .inl r => some r | .inr q14 => some (true)) else none)
def c_gj9 : Con := ⟨(List Int) × (List Int), Bool, 22, fun a => [.ro (List.map eInt a.1), .ro (List.map eInt a.2)], fun a => gf_gj9 a.1 a.2, fun a r => ⟨[(false, [.v (.bool r)])], []⟩, fun a => []⟩
def if_fd9 : IFn := ⟨27, [.inl 4],
 (Rs [Kb false 4]
 (.seq (Rs (sq 6 [Mv 0, Ln 6, Mv 1, Ln 8, Bb .neq 7 9] [])
 (Ct 10 (Rs [Kb false 4]
 .ret)
 .skip))
 (.seq (Rs [Ki 0 5]
 (blkC 0 (.loop (.seq (Rs (sq 11 [Mv 5, Mv 0, Ln 12, Bb .lss 11 13] [])
 (Ct 14 .skip
 (.exit 0)))
 (.seq (.block 1 (.seq (.drw (sq 17 [Mv 0, Mv 5, Ia 4 17 18, La 4 19, Mv 1, Mv 5, Ia 4 21 22, La 4 23, Ca 21 [20, 24], Nt 25] []) [(3, 7)])
 (Ct 26 (Rs [Kb false 4]
 .ret)
 .skip)))
 (.reg (sq 15 [Mv 5, Bk .add 15 1] [Mv 16 5])))))))
 (Rs [Kb true 4]
 .ret)))), lcF []⟩
def ks_fd9 : List (List (Option Nat)) := [[none]]
def gl_fd9_1 (a1 : (List Feat)) : List Feat → Nat → Option (Bool ⊕ Unit)
 | [], k22 => some (.inr ())
 | x23 :: l24, k22 => (idx a1 (k22 : Int)).bind fun x31 => (gf_et9 x23 x31).bind fun x33 => if (!x33) = true then (some (.inl (false))) else (gl_fd9_1 a1 l24 (k22 + 1) )
def gf_fd9 (a0 : (List Feat)) (a1 : (List Feat)) : Option Bool := if ((a0.length : Int) != (a1.length : Int)) = true then (some (false)) else (if fits a0.length = true then ((gl_fd9_1 a1 a0 0 ).bind fun q => match q with | .inl r => some r | .inr q20 => some (true)) else none)
def c_fd9 : Con := ⟨(List Feat) × (List Feat), Bool, 23, fun a => [.ro (List.map (eFeat false) a.1), .ro (List.map (eFeat false) a.2)], fun a => gf_fd9 a.1 a.2, fun a r => ⟨[(false, [.v (.bool r)])], []⟩, fun a => []⟩
def if_gl9 : IFn := ⟨24, [.inl 4],
 (Rs (sq 2 [Io (.box 115 [some 17, some 100, none] (.t 0)), Io (.box 115 [some 17, some 100, none] (.t 1)), Kb false] [])
 (Rs (sq 5 [Fa 0 2, Ld 1 5, Fa 0 3, Ld 1 7, Ca 22 [6, 8], Mv 9] (Sg 10 11 [Fa 1 2, Ld 1 11, Fa 1 3, Ld 1 13, Ca 23 [12, 14]] (sq 16 [Pf 10 15, Mv 16] (Sg 17 18 [Fa 2 2, Ld 1 18, Fa 2 3, Ld 1 20, Bb .eql 19 21] [Pf 17 22 23, Mv 23 4]))))
 .ret)), lcF []⟩
def ks_gl9 : List (List (Option Nat)) := [[none]]
def gf_gl9 (a0 : Commit) (a1 : Commit) : Option Bool := (gf_gj9 a0.up a1.up).bind fun x3 => if x3 = true then ((gf_fd9 a0.sheet a1.sheet).bind fun x5 => if x5 = true then (some ((seq a0.note a1.note))) else (some (false))) else (some (false))
def c_gl9 : Con := ⟨Commit × Commit, Bool, 24, fun a => [.agg [.ro (List.map eInt a.1.up), .ro (List.map (eFeat false) a.1.sheet), .v (.string a.1.note)], .agg [.ro (List.map eInt a.2.up), .ro (List.map (eFeat false) a.2.sheet), .v (.string a.2.note)]], fun a => gf_gl9 a.1 a.2, fun a r => ⟨[(false, [.v (.bool r)])], []⟩, fun a => []⟩
def if_gm9 : IFn := ⟨50, [.inl 4],
 (Rs [Kb false 4]
 (.seq (Rs [Ki 0 5]
 (blkC 0 (.loop (.seq (Rs (sq 6 [Mv 5, Mv 0, Ln 7, Bb .lss 6 8] [])
 (Ct 9 .skip
 (.exit 0)))
 (.seq (.block 1 (Rs (sq 12 [Mv 0, Mv 5, Ia 1 12 13, Ld 1 14, Bk .lss 15 0, Mv 16] (Sf 17 18 [Mv 0, Mv 5, Ia 1 18 19, Ld 1 20, Mv 1, Bb .geq 21 22] [Pk 17 23 24]))
 (Ct 24 (Rs [Kb false 4]
 .ret)
 .skip)))
 (.reg (sq 10 [Mv 5, Bk .add 10 1] [Mv 11 5])))))))
 (.seq (.drw (sq 25 [Mv 0, Ln 25, Bk .leq 26 2, Mv 27] (Sg 28 29 [Mv 0, Ln 29, Bk .gtr 30 0, Mv 1, Bk .gtr 32 0, Io (.eqs false false [1] (.t 31) (.t 33))] (sq 35 [Pf 28 34, Mv 35] (Sg 36 37 [Mv 0, Ln 37, Bk .lss 38 2, Mv 39] (Sf 40 41 [Mv 0, Ik 1 41 0, Ld 1 42, Mv 0, Ik 1 44 1, Ld 1 45, Bb .neq 43 46] [Gt 36 (Pk 40 47 48), Pf 36 48 49, Mv 49 4]))))) [(18, 21)])
 .ret))), lcF []⟩
def ks_gm9 : List (List (Option Nat)) := [[none]]
def gl_gm9_1 (a1 : Int) : List Int → Nat → Option (Bool ⊕ Unit)
 | [], k10 => some (.inr ())
 | x11 :: l12, k10 => if (decide (x11 < 0)) = true then (some (.inl (false))) else (if (decide (x11 ≥ a1)) = true then (some (.inl (false))) else (gl_gm9_1 a1 l12 (k10 + 1) ))
def gf_gm9 (a0 : (List Int)) (a1 : Int) : Option Bool := if fits a0.length = true then ((gl_gm9_1 a1 a0 0 ).bind fun q => match q with | .inl r => some r | .inr q8 => if (decide ((a0.length : Int) ≤ 2)) = true then (if ((decide ((a0.length : Int) > 0)) == (decide (a1 > 0))) = true then (if (decide ((a0.length : Int) < 2)) = true then (some (true)) else ((idx a0 0).bind fun x19 => (idx a0 1).bind fun x21 => some ((x19 != x21)))) else (some (false))) else (some (false))) else none
def c_gm9 : Con := ⟨(List Int) × Int, Bool, 25, fun a => [.ro (List.map eInt a.1), .v (.int .i64 a.2)], fun a => gf_gm9 a.1 a.2, fun a r => ⟨[(false, [.v (.bool r)])], []⟩, fun a => []⟩
def if_fc9 : IFn := ⟨37, [.inl 2],
 (Rs [Kb false 2]
 (.seq (Rs [Ki 0 3]
 (blkC 0 (.loop (.seq (Rs (sq 4 [Mv 3, Mv 0, Ln 5, Bb .lss 4 6] [])
 (Ct 7 .skip
 (.exit 0)))
 (.seq (.block 1 (.seq (.drw (sq 10 [Mv 0, Mv 3, Ia 4 10 11, La 4 12, Ca 17 [13], Nt 14, Mv 15] (Sf 16 17 [Mv 3, Bk .gtr 17 0, Mv 18] (Sg 19 20 [Mv 0, Mv 3, Ia 4 20 21, Fa 0 22, Ld 1 23, Mv 0, Mv 3, Bk .sub 26 1, Ia 4 25 27, Fa 0 28, Ld 1 29, Bb .leq 24 30] [Gf 16 (Pf 19 31 32), Pk 16 32 33]))) [(14, 20)])
 (Ct 33 (Rs [Kb false 2]
 .ret)
 .skip)))
 (.reg (sq 8 [Mv 3, Bk .add 8 1] [Mv 9 3])))))))
 (Rs (sq 34 [Mv 0, Ln 34, Bk .leq 35 8] [Mv 36 2])
 .ret))), lcF []⟩
def ks_fc9 : List (List (Option Nat)) := [[none]]
def gl_fc9_1 (a0 : (List Feat)) : List Feat → Nat → Option (Bool ⊕ Unit)
 | [], k20 => some (.inr ())
 | x21 :: l22, k20 => (gf_es9 x21).bind fun x29 => if (!x29) = true then (some (.inl (false))) else (if (decide ((k20 : Int) > 0)) = true then ((idx a0 (IntKind.i64.wrap ((k20 : Int) - 1))).bind fun x31 => if (slt x21.id x31.id || seq x21.id x31.id) = true then (some (.inl (false))) else (gl_fc9_1 a0 l22 (k20 + 1) )) else (gl_fc9_1 a0 l22 (k20 + 1) ))
def gf_fc9 (a0 : (List Feat)) : Option Bool := if fits a0.length = true then ((gl_fc9_1 a0 a0 0 ).bind fun q => match q with | .inl r => some r | .inr q18 => some ((decide ((a0.length : Int) ≤ 8)))) else none
def c_fc9 : Con := ⟨(List Feat), Bool, 26, fun a => [.ro (List.map (eFeat false) a)], fun a => gf_fc9 a, fun a r => ⟨[(false, [.v (.bool r)])], []⟩, fun a => []⟩
def if_gg9 : IFn := ⟨21, [.inl 4],
 (Rs (sq 2 [Io (.box 210 [some 115, some 130] (.t 0)), Io (.box 115 [some 17, some 100, none] (.t 1)), Ki 0] [])
 (.seq (Rs [Ki 0 5]
 (blkC 0 (.loop (.seq (Rs (sq 6 [Mv 5, Fa 0 2, Ld 1 7, Ln 8, Bb .lss 6 9] [])
 (Ct 10 .skip
 (.exit 0)))
 (.seq (.block 1 (.seq (.drw (sq 13 [Fa 0 2, Ld 1 13, Mv 5, Ia 3 14 15, La 3 16, La 3 3, Ca 24 [17, 18]] []) [(1, 5), (4, 5)])
 (Ct 19 (Rs [Mv 5 20, Mv 20 4]
 .ret)
 .skip)))
 (.reg (sq 11 [Mv 5, Bk .add 11 1] [Mv 12 5])))))))
 (Rs [Ki (-1) 4]
 .ret))), lcF []⟩
def ks_gg9 : List (List (Option Nat)) := [[none]]
def gl_gg9_1 (a1 : Commit) : List Commit → Nat → Option (Int ⊕ Unit)
 | [], k18 => some (.inr ())
 | x19 :: l20, k18 => (gf_gl9 x19 a1).bind fun x27 => if x27 = true then (some (.inl ((k18 : Int)))) else (gl_gg9_1 a1 l20 (k18 + 1) )
def gf_gg9 (a0 : Repo) (a1 : Commit) : Option Int := if fits a0.commits.length = true then ((gl_gg9_1 a1 a0.commits 0 ).bind fun q => match q with | .inl r => some r | .inr q16 => some ((-1))) else none
def c_gg9 : Con := ⟨Repo × Commit, Int, 27, fun a => [.agg [.ro (List.map (eCommit false) a.1.commits), .ro (List.map eHead a.1.heads)], .agg [.ro (List.map eInt a.2.up), .ro (List.map (eFeat false) a.2.sheet), .v (.string a.2.note)]], fun a => gf_gg9 a.1 a.2, fun a r => ⟨[(false, [.v (.int .i64 r)])], []⟩, fun a => []⟩
def if_gh9 : IFn := ⟨22, [.inl 4],
 (Rs [Io (.box 210 [some 115, some 130] (.t 0)) 2, Ki 0 4]
 (.seq (Rs [Ki 0 5]
 (blkC 0 (.loop (.seq (Rs (sq 6 [Mv 5, Fa 1 2, Ld 1 7, Ln 8, Bb .lss 6 9] [])
 (Ct 10 .skip
 (.exit 0)))
 (.seq (.block 1 (Rs (sq 13 [Fa 1 2, Ld 1 13, Mv 5, Ia 2 14 15, Fa 0 16, Ld 1 17, Mv 1, Bb .eql 18 19] [])
 (Ct 20 (Rs [Mv 5 21, Mv 21 4]
 .ret)
 .skip)))
 (.reg (sq 11 [Mv 5, Bk .add 11 1] [Mv 12 5])))))))
 (Rs [Ki (-1) 4]
 .ret))), lcF []⟩
def ks_gh9 : List (List (Option Nat)) := [[none]]
def gl_gh9_1 (a1 : Str) : List Head → Nat → Option (Int ⊕ Unit)
 | [], k11 => some (.inr ())
 | x12 :: l13, k11 => if (seq x12.name a1) = true then (some (.inl ((k11 : Int)))) else (gl_gh9_1 a1 l13 (k11 + 1) )
def gf_gh9 (a0 : Repo) (a1 : Str) : Option Int := if fits a0.heads.length = true then ((gl_gh9_1 a1 a0.heads 0 ).bind fun q => match q with | .inl r => some r | .inr q9 => some ((-1))) else none
def c_gh9 : Con := ⟨Repo × Str, Int, 28, fun a => [.agg [.ro (List.map (eCommit false) a.1.commits), .ro (List.map eHead a.1.heads)], .v (.string a.2)], fun a => gf_gh9 a.1 a.2, fun a r => ⟨[(false, [.v (.int .i64 r)])], []⟩, fun a => []⟩
def if_ff9 : IFn := ⟨10, [.inr (2, 2)],
 (Rs (sq 1 [Io (.box 226 [none, some 66] (.t 0)), Io (.alloc 226 [.v (.int .i64 0), .sl true 66 []])] [])
 (.seq (.drw (sq 3 [Fa 0 1, Ld 1 3, Io (.lit 66 [none, none] [.v (.int .i64 0), .v (.int .i64 0)] 0 []), Fa 1 1, Ld 1 6, Io (.app 66 false (.t 5) (.t 7)), Io (.build [.v (.int .i64 0), .nil] [(0, 1, .t 4), (1, 1, .t 8)])] [Sv [none, some 66] 2 9]) [(1, 2), (1, 4), (2, 4), (1, 5)])
 .ret)), lcF []⟩
def ks_ff9 : List (List (Option Nat)) := [[none, some 66]]
def gf_ff9 (a0 : Shape) : Option Shape := if fits ([] ++ a0.pts).length = true then some ((⟨a0.kind, ([] ++ a0.pts)⟩ : Shape)) else none
def c_ff9 : Con := ⟨Shape, Shape, 29, fun a => [.agg [.v (.int .i64 a.kind), .ro (List.map ePt a.pts)]], fun a => gf_ff9 a, fun a r => ⟨[(true, eShape true r)], []⟩, fun a => []⟩
def if_fk9 : IFn := ⟨13, [.inr (2, 4)],
 (Rs (sq 1 [Io (.box 100 [none, none, some 66, some 82] (.t 0)), Io (.alloc 100 [.v (.string ⟨#[]⟩), .v (.int .i64 0), .sl true 66 [], .sl true 82 []])] [])
 (.seq (.drw (sq 3 [Fa 0 1, Ld 1 3, Fa 1 1, La 2 5, Ca 29 [6], Io (.lit 82 [none, none] [.v (.string ⟨#[]⟩), .v (.string ⟨#[]⟩)] 0 []), Fa 3 1, Ld 1 9, Io (.app 82 false (.t 8) (.t 10)), Io (.build [.v (.string ⟨#[]⟩), .v (.int .i64 0), .nil, .nil] [(0, 1, .t 4), (1, 2, .t 7), (3, 1, .t 11)])] [Sv [none, none, some 66, some 82] 2 12]) [(1, 3), (1, 4), (1, 5), (3, 5), (4, 5), (1, 7), (3, 7), (4, 7), (5, 7), (1, 8)])
 .ret)), lcF []⟩
def ks_fk9 : List (List (Option Nat)) := [[none, none, some 66, some 82]]
def gf_fk9 (a0 : Feat) : Option Feat := (gf_ff9 a0.shape).bind fun x3 => if fits ([] ++ a0.tags).length = true then some ((⟨a0.id, x3, ([] ++ a0.tags)⟩ : Feat)) else none
def c_fk9 : Con := ⟨Feat, Feat, 30, fun a => [.agg [.v (.string a.id), .v (.int .i64 a.shape.kind), .ro (List.map ePt a.shape.pts), .ro (List.map eTag a.tags)]], fun a => gf_fk9 a, fun a r => ⟨[(true, eFeat true r)], []⟩, fun a => []⟩
def if_fp9 : IFn := ⟨21, [.inl 2],
 (Rs [Io (.mv (.c (.slice none 0 0))) 2]
 (Rs [Io (.lit 100 [none, none, some 66, some 82] [.v (.string ⟨#[]⟩), .v (.int .i64 0), .sl true 66 [], .sl true 82 []] 0 []) 5, Mv 5 3]
 (.seq (Rs [Ki 0 4]
 (blkC 0 (.loop (.seq (Rs (sq 6 [Mv 4, Mv 0, Ln 7, Bb .lss 6 8] [])
 (Ct 9 .skip
 (.exit 0)))
 (.seq (.block 1 (.reg (sq 12 [Mv 3, Mv 0, Mv 4, Ia 4 13 14, La 4 15, Ca 30 [16], Io (.lit 100 [none, none, some 66, some 82] [.v (.string ⟨#[]⟩), .v (.int .i64 0), .sl true 66 [], .sl true 82 []] 1 [(0, .t 17)]), Io (.app 100 true (.t 12) (.t 18))] [Mv 19 3])))
 (.reg (sq 10 [Mv 4, Bk .add 10 1] [Mv 11 4])))))))
 (Rs [Mv 3 20, Mv 20 2]
 .ret)))), lcF []⟩
def ks_fp9 : List (List (Option Nat)) := [[some 100]]
def gl_fp9_1 : List Feat → Nat → (List Feat) → Option (List Feat)
 | [], k47, v44 => some v44
 | x48 :: l49, k47, v44 => (gf_fk9 x48).bind fun x56 => if fits (v44 ++ ([x56] : (List Feat))).length = true then gl_fp9_1 l49 (k47 + 1) (v44 ++ ([x56] : (List Feat))) else none
def gf_fp9 (a0 : (List Feat)) : Option (List Feat) := if fits a0.length = true then ((gl_fp9_1 a0 0 []).bind fun q42 => some (q42)) else none
def c_fp9 : Con := ⟨(List Feat), (List Feat), 31, fun a => [.ro (List.map (eFeat false) a)], fun a => gf_fp9 a, fun a r => ⟨[(false, [sl true 100 (List.map (eFeat true) r)])], []⟩, fun a => []⟩
def if_ex9 : IFn := ⟨102, [.inl 2],
 (Rs (sq 1 [Io (.box 210 [some 115, some 130] (.t 0)), Kb false] [])
 (.seq (Rs (sq 7 [Fa 0 1, Ld 1 7, Ln 8, Bk .lss 9 1, Mv 10] (Sf 11 12 [Fa 0 1, Ld 1 12, Ln 13, Bk .gtr 14 14] (sq 16 [Pk 11 15, Mv 16] (Sf 17 18 [Fa 1 1, Ld 1 18, Ln 19, Bk .lss 20 1] (sq 22 [Pk 17 21, Mv 22] (Sf 23 24 [Fa 1 1, Ld 1 24, Ln 25, Bk .gtr 26 4] [Pk 23 27 28]))))))
 (Ct 28 (Rs [Kb false 2]
 .ret)
 .skip))
 (.seq (Rs [Ki 0 3]
 (blkC 0 (.loop (.seq (Rs (sq 29 [Mv 3, Fa 0 1, Ld 1 30, Ln 31, Bb .lss 29 32] [])
 (Ct 33 .skip
 (.exit 0)))
 (.seq (.block 1 (Rs (sq 36 [Fa 0 1, Ld 1 36, Mv 3, Ia 3 37 38, La 3 39] [Io (.alloc 115 [.sl true 17 [], .sl true 100 [], .v (.string ⟨#[]⟩)]) 4, Sv [some 17, some 100, none] 4 40])
 (Rs (sq 41 [Fa 0 4, Ld 1 41, Mv 3, Ca 25 [42, 43], Nt 44, Mv 45] (Sf 46 47 [Fa 1 4, Ld 1 47, Ca 26 [48], Nt 49] (sq 51 [Pk 46 50, Mv 51] (Sf 52 53 [Fa 2 4, Ld 1 53, Ca 14 [54], Nt 55] (sq 57 [Pk 52 56, Mv 57] (Sf 58 59 [La 2 1, La 3 4, Ca 27 [59, 60], Mv 3, Bb .neq 61 62] [Pk 58 63 64]))))))
 (Ct 64 (Rs [Kb false 2]
 .ret)
 .skip))))
 (.reg (sq 34 [Mv 3, Bk .add 34 1] [Mv 35 3])))))))
 (.seq (Rs [Ki 0 5]
 (blkC 2 (.loop (.seq (Rs (sq 65 [Mv 5, Fa 1 1, Ld 1 66, Ln 67, Bb .lss 65 68] [])
 (Ct 69 .skip
 (.exit 2)))
 (.seq (.block 3 (Rs (sq 72 [Fa 1 1, Ld 1 72, Mv 5, Ia 2 73 74, La 2 75] [Io (.alloc 130 [.v (.string ⟨#[]⟩), .v (.int .i64 0)]) 6, Sv [none, none] 6 76])
 (Rs (sq 77 [Fa 0 6, Ld 1 77, Ca 14 [78], Nt 79, Mv 80] (Sf 81 82 [La 2 1, Fa 0 6, Ld 1 83, Ca 28 [82, 84], Mv 5, Bb .neq 85 86] (sq 88 [Pk 81 87, Mv 88] (Sf 89 90 [Fa 1 6, Ld 1 90, Bk .lss 91 0] (sq 93 [Pk 89 92, Mv 93] (Sf 94 95 [Fa 1 6, Ld 1 95, Fa 0 1, Ld 1 97, Ln 98, Bb .geq 96 99] [Pk 94 100 101]))))))
 (Ct 101 (Rs [Kb false 2]
 .ret)
 .skip))))
 (.reg (sq 70 [Mv 5, Bk .add 70 1] [Mv 71 5])))))))
 (Rs [Kb true 2]
 .ret))))), lcF []⟩
def ks_ex9 : List (List (Option Nat)) := [[none]]
def gl_ex9_1 (a0 : Repo) : List Commit → Nat → Option (Bool ⊕ Unit)
 | [], k38 => some (.inr ())
 | x39 :: l40, k38 => (gf_gm9 x39.up (k38 : Int)).bind fun x48 => if (!x48) = true then (some (.inl (false))) else ((gf_fc9 x39.sheet).bind fun x50 => if (!x50) = true then (some (.inl (false))) else ((gf_fe9 x39.note).bind fun x52 => if (!x52) = true then (some (.inl (false))) else ((gf_gg9 a0 x39).bind fun x54 => if (x54 != (k38 : Int)) = true then (some (.inl (false))) else (gl_ex9_1 a0 l40 (k38 + 1) ))))
def gl_ex9_2 (a0 : Repo) : List Head → Nat → Option (Bool ⊕ Unit)
 | [], k80 => some (.inr ())
 | x81 :: l82, k80 => (gf_fe9 x81.name).bind fun x90 => if (!x90) = true then (some (.inl (false))) else ((gf_gh9 a0 x81.name).bind fun x92 => if (x92 != (k80 : Int)) = true then (some (.inl (false))) else (if (decide (x81.at_ < 0)) = true then (some (.inl (false))) else (if (decide (x81.at_ ≥ (a0.commits.length : Int))) = true then (some (.inl (false))) else (gl_ex9_2 a0 l82 (k80 + 1) ))))
def gf_ex9 (a0 : Repo) : Option Bool := if (decide ((a0.commits.length : Int) < 1)) = true then (some (false)) else (if (decide ((a0.commits.length : Int) > 14)) = true then (some (false)) else (if (decide ((a0.heads.length : Int) < 1)) = true then (some (false)) else (if (decide ((a0.heads.length : Int) > 4)) = true then (some (false)) else (if fits a0.commits.length = true then ((gl_ex9_1 a0 a0.commits 0 ).bind fun q => match q with | .inl r => some r | .inr q36 => if fits a0.heads.length = true then ((gl_ex9_2 a0 a0.heads 0 ).bind fun q => match q with | .inl r => some r | .inr q78 => some (true)) else none) else none))))
def c_ex9 : Con := ⟨Repo, Bool, 33, fun a => [.agg [.ro (List.map (eCommit false) a.commits), .ro (List.map eHead a.heads)]], fun a => gf_ex9 a, fun a r => ⟨[(false, [.v (.bool r)])], []⟩, fun a => []⟩
def if_gi9 : IFn := ⟨18, [.inl 4],
 (Rs [Io (.box 210 [some 115, some 130] (.t 0)) 2, Kb false 4]
 (Rs (sq 5 [La 2 2, Ca 33 [5], Mv 6] (Sg 7 8 [Mv 1, Bk .geq 8 0] (sq 10 [Pf 7 9, Mv 10] (Sg 11 12 [Mv 1, Fa 0 2, Ld 1 13, Ln 14, Bb .lss 12 15] [Pf 11 16 17, Mv 17 4]))))
 .ret)), lcF []⟩
def ks_gi9 : List (List (Option Nat)) := [[none]]
def gf_gi9 (a0 : Repo) (a1 : Int) : Option Bool := (gf_ex9 a0).bind fun x2 => if x2 = true then (if (decide (a1 ≥ 0)) = true then (some ((decide (a1 < (a0.commits.length : Int))))) else (some (false))) else (some (false))
def c_gi9 : Con := ⟨Repo × Int, Bool, 34, fun a => [.agg [.ro (List.map (eCommit false) a.1.commits), .ro (List.map eHead a.1.heads)], .v (.int .i64 a.2)], fun a => gf_gi9 a.1 a.2, fun a r => ⟨[(false, [.v (.bool r)])], []⟩, fun a => []⟩
def if_gk9 : IFn := ⟨62, [.inl 4],
 (Rs [Io (.box 210 [some 115, some 130] (.t 0)) 2, Io (.mv (.c (.slice none 0 0))) 4]
 (Rs (sq 9 [Fa 0 2, Ld 1 9, Ln 10, Io (.mks 33 [.v (.bool false)] (.t 11) (.t 11))] [Mv 12 5])
 (.seq (Rs [Ki 0 6]
 (blkC 0 (.loop (.seq (Rs (sq 13 [Mv 6, Mv 1, Ln 14, Bb .lss 13 15] [])
 (Ct 16 .skip
 (.exit 0)))
 (.seq (.block 1 (.reg (sq 19 [Mv 5, Mv 1, Mv 6, Ia 1 20 21, Ld 1 22, Ia 1 19 23] [Iz (.store [none] (.t 24) (.c (.bool true)))])))
 (.reg (sq 17 [Mv 6, Bk .add 17 1] [Mv 18 6])))))))
 (.seq (Rs (sq 25 [Fa 0 2, Ld 1 25, Ln 26, Bk .sub 27 1] [Mv 28 7])
 (blkC 2 (.loop (.seq (Rs (sq 29 [Mv 7, Bk .geq 29 0] [])
 (Ct 30 .skip
 (.exit 2)))
 (.seq (.block 3 (Rs [Ki 0 8]
 (blkC 4 (.loop (.seq (Rs (sq 33 [Mv 8, Fa 0 2, Ld 1 34, Mv 7, Ia 3 35 36, Fa 0 37, Ld 1 38, Ln 39, Bb .lss 33 40, Mv 41] (Sg 42 43 [Mv 5, Mv 7, Ia 1 43 44, Ld 1 45] [Pf 42 46 47]))
 (Ct 47 .skip
 (.exit 4)))
 (.seq (.block 5 (.reg (sq 50 [Mv 5, Fa 0 2, Ld 1 51, Mv 7, Ia 3 52 53, Fa 0 54, Ld 1 55, Mv 8, Ia 1 56 57, Ld 1 58, Ia 1 50 59] [Iz (.store [none] (.t 60) (.c (.bool true)))])))
 (.reg (sq 48 [Mv 8, Bk .add 48 1] [Mv 49 8]))))))))
 (.reg (sq 31 [Mv 7, Bk .sub 31 1] [Mv 32 7])))))))
 (Rs [Mv 5 61, Mv 61 4]
 .ret))))), lcF []⟩
def ks_gk9 : List (List (Option Nat)) := [[some 33]]
def gl_gk9_1 : List Int → Nat → (List Bool) → Option (List Bool)
 | [], k26, v23 => some v23
 | x27 :: l28, k26, v23 => (idx v23 x27).bind fun x35 => gl_gk9_1 l28 (k26 + 1) (List.set v23 x27.toNat true)
def gl_gk9_6 (a0 : Repo) (v180 : Int) : Nat → Int → (List Bool) → Option (List Bool)
 | 0, _, _ => none
 | n218 + 1, v214, v215 => (idx a0.commits v180).bind fun x219 => if (decide (v214 < (x219.up.length : Int))) = true then ((idx v215 v180).bind fun x221 => if x221 = true then ((idx x219.up v214).bind fun x223 => (idx v215 x223).bind fun x225 => gl_gk9_6 a0 v180 n218 (IntKind.i64.wrap (v214 + 1)) (List.set v215 x223.toNat true)) else (some v215)) else (some v215)
def gl_gk9_5 (a0 : Repo) : Nat → Int → (List Bool) → Option (List Bool)
 | 0, _, _ => none
 | n184 + 1, v180, v181 => if (decide (v180 ≥ 0)) = true then ((gl_gk9_6 a0 v180 rounds 0 v181).bind fun q213 => gl_gk9_5 a0 n184 (IntKind.i64.wrap (v180 - 1)) q213) else (some v181)
def gf_gk9 (a0 : Repo) (a1 : (List Int)) : Option (List Bool) := if (decide (0 ≤ (a0.commits.length : Int)) && fits ((a0.commits.length : Int)).toNat) = true then if fits a1.length = true then ((gl_gk9_1 a1 0 (List.replicate ((a0.commits.length : Int)).toNat false)).bind fun q21 => (gl_gk9_5 a0 rounds (IntKind.i64.wrap ((a0.commits.length : Int) - 1)) q21).bind fun q179 => some (q179)) else none else none
def c_gk9 : Con := ⟨Repo × (List Int), (List Bool), 35, fun a => [.agg [.ro (List.map (eCommit false) a.1.commits), .ro (List.map eHead a.1.heads)], .ro (List.map eInt a.2)], fun a => gf_gk9 a.1 a.2, fun a r => ⟨[(false, [sl true 33 (List.map eBool r)])], []⟩, fun a => []⟩
def if_ew9 : IFn := ⟨89, [.inl 6],
 (Rs [Io (.box 210 [some 115, some 130] (.t 0)) 3, Io (.mv (.c (.slice none 0 0))) 6]
 (Rs [Io (.lit 17 [none] [.v (.int .i64 0)] 0 []) 13, Mv 13 7]
 (.seq (Rs (sq 14 [La 2 3, Mv 1, Ca 34 [14, 15], Nt 16, Mv 17] (Sf 18 19 [La 2 3, Mv 2, Ca 34 [19, 20], Nt 21] [Pk 18 22 23]))
 (Ct 23 (Rs [Mv 7 24, Mv 24 6]
 .ret)
 .skip))
 (Rs (sq 25 [La 2 3, Mv 1, Io (.lit 17 [none] [.v (.int .i64 0)] 1 [(0, .t 26)]), Ca 35 [25, 27]] [Mv 28 8])
 (Rs (sq 29 [La 2 3, Mv 2, Io (.lit 17 [none] [.v (.int .i64 0)] 1 [(0, .t 30)]), Ca 35 [29, 31]] [Mv 32 9])
 (Rs (sq 33 [Fa 0 3, Ld 1 33, Ln 34, Io (.mks 33 [.v (.bool false)] (.t 35) (.t 35))] [Mv 36 10])
 (.seq (Rs (sq 37 [Fa 0 3, Ld 1 37, Ln 38, Bk .sub 39 1] [Mv 40 11])
 (blkC 0 (.loop (.seq (Rs (sq 41 [Mv 11, Bk .geq 41 0] [])
 (Ct 42 .skip
 (.exit 0)))
 (.seq (.block 1 (.seq (Rs (sq 45 [Mv 8, Mv 11, Ia 1 45 46, Ld 1 47, Nt 48, Mv 49] (Sf 50 51 [Mv 9, Mv 11, Ia 1 51 52, Ld 1 53, Nt 54] [Pk 50 55 56]))
 (Ct 56 (.exit 1)
 .skip))
 (seqC (Rs (sq 57 [Mv 10, Mv 11, Ia 1 57 58, Ld 1 59, Nt 60] [])
 (Ct 61 (.reg (sq 62 [Mv 7, Mv 11, Io (.lit 17 [none] [.v (.int .i64 0)] 1 [(0, .t 63)]), Io (.app 17 true (.t 62) (.t 64))] [Mv 65 7]))
 .skip))
 (Rs [Ki 0 12]
 (blkC 2 (.loop (.seq (Rs (sq 66 [Mv 12, Fa 0 3, Ld 1 67, Mv 11, Ia 3 68 69, Fa 0 70, Ld 1 71, Ln 72, Bb .lss 66 73] [])
 (Ct 74 .skip
 (.exit 2)))
 (.seq (.block 3 (.reg (sq 77 [Mv 10, Fa 0 3, Ld 1 78, Mv 11, Ia 3 79 80, Fa 0 81, Ld 1 82, Mv 12, Ia 1 83 84, Ld 1 85, Ia 1 77 86] [Iz (.store [none] (.t 87) (.c (.bool true)))])))
 (.reg (sq 75 [Mv 12, Bk .add 75 1] [Mv 76 12]))))))))))
 (.reg (sq 43 [Mv 11, Bk .sub 43 1] [Mv 44 11])))))))
 (Rs [Mv 7 88, Mv 88 6]
 .ret)))))))), lcF []⟩
def ks_ew9 : List (List (Option Nat)) := [[some 17]]
def gl_ew9_5 (a0 : Repo) (v199 : Int) : Nat → Int → (List Bool) → Option (List Bool)
 | 0, _, _ => none
 | n254 + 1, v250, v251 => (idx a0.commits v199).bind fun x255 => if (decide (v250 < (x255.up.length : Int))) = true then ((idx x255.up v250).bind fun x257 => (idx v251 x257).bind fun x259 => gl_ew9_5 a0 v199 n254 (IntKind.i64.wrap (v250 + 1)) (List.set v251 x257.toNat true)) else (some v251)
def gl_ew9_4 (x8 : (List Bool)) (x13 : (List Bool)) (a0 : Repo) : Nat → Int → (List Int) → (List Bool) → Option (List Int)
 | 0, _, _, _ => none
 | n206 + 1, v199, v200, v203 => if (decide (v199 ≥ 0)) = true then ((idx x8 v199).bind fun x207 => if (!x207) = true then (gl_ew9_4 x8 x13 a0 n206 (IntKind.i64.wrap (v199 - 1)) v200 v203) else ((idx x13 v199).bind fun x209 => if (!x209) = true then (gl_ew9_4 x8 x13 a0 n206 (IntKind.i64.wrap (v199 - 1)) v200 v203) else ((((idx v203 v199).bind fun x218 => if (!x218) = true then (if fits (v200 ++ ([v199] : (List Int))).length = true then some (v200 ++ ([v199] : (List Int))) else none) else (some v200) : Option (List Int))).bind fun q217 => (gl_ew9_5 a0 v199 rounds 0 v203).bind fun q249 => gl_ew9_4 x8 x13 a0 n206 (IntKind.i64.wrap (v199 - 1)) q217 q249))) else (some v200)
def gf_ew9 (a0 : Repo) (a1 : Int) (a2 : Int) : Option (List Int) := (gf_gi9 a0 a1).bind fun x3 => if (!x3) = true then (some (([] : (List Int)))) else ((gf_gi9 a0 a2).bind fun x5 => if (!x5) = true then (some (([] : (List Int)))) else ((gf_gk9 a0 ([a1] : (List Int))).bind fun x8 => (gf_gk9 a0 ([a2] : (List Int))).bind fun x13 => if (decide (0 ≤ (a0.commits.length : Int)) && fits ((a0.commits.length : Int)).toNat) = true then (gl_ew9_4 x8 x13 a0 rounds (IntKind.i64.wrap ((a0.commits.length : Int) - 1)) [] (List.replicate ((a0.commits.length : Int)).toNat false)).bind fun q198 => some (q198) else none))
def c_ew9 : Con := ⟨Repo × Int × Int, (List Int), 36, fun a => [.agg [.ro (List.map (eCommit false) a.1.commits), .ro (List.map eHead a.1.heads)], .v (.int .i64 a.2.1), .v (.int .i64 a.2.2)], fun a => gf_ew9 a.1 a.2.1 a.2.2, fun a r => ⟨[(false, [sl true 17 (List.map eInt r)])], []⟩, fun a => []⟩
def if_fr9 : IFn := ⟨53, [.inl 4],
 (Rs (sq 3 [Io (.box 100 [none, none, some 66, some 82] (.t 1)), Io (.mv (.c (.slice none 0 0)))] [])
 (Rs [Io (.lit 100 [none, none, some 66, some 82] [.v (.string ⟨#[]⟩), .v (.int .i64 0), .sl true 66 [], .sl true 82 []] 0 []) 8, Mv 8 5]
 (Rs [Kb false 6]
 (.seq (Rs [Ki 0 7]
 (blkC 0 (.loop (.seq (Rs (sq 9 [Mv 7, Mv 0, Ln 10, Bb .lss 9 11] [])
 (Ct 12 .skip
 (.exit 0)))
 (.seq (.block 1 (seqC (.seq (.drw (sq 15 [Mv 6, Nt 15, Mv 16] (Sg 17 18 [Mv 0, Mv 7, Ia 4 18 19, Fa 0 20, Ld 1 21, Fa 0 3, Ld 1 23, Bb .geq 22 24] [Pf 17 25 26])) [(7, 9)])
 (Ct 26 (Rs (sq 27 [Mv 5, La 4 3, Io (.lit 100 [none, none, some 66, some 82] [.v (.string ⟨#[]⟩), .v (.int .i64 0), .sl true 66 [], .sl true 82 []] 1 [(0, .t 28)]), Io (.app 100 true (.t 27) (.t 29))] [Mv 30 5])
 (.reg [Kb true 6]))
 .skip))
 (.seq (.drw (sq 31 [Mv 0, Mv 7, Ia 4 31 32, Fa 0 33, Ld 1 34, Fa 0 3, Ld 1 36, Bb .neq 35 37] []) [(4, 6)])
 (Ct 38 (.reg (sq 39 [Mv 5, Mv 0, Mv 7, Ia 4 40 41, La 4 42, Io (.lit 100 [none, none, some 66, some 82] [.v (.string ⟨#[]⟩), .v (.int .i64 0), .sl true 66 [], .sl true 82 []] 1 [(0, .t 43)]), Io (.app 100 true (.t 39) (.t 44))] [Mv 45 5]))
 .skip))))
 (.reg (sq 13 [Mv 7, Bk .add 13 1] [Mv 14 7])))))))
 (.seq (Rs (sq 46 [Mv 6, Nt 46] [])
 (Ct 47 (.reg (sq 48 [Mv 5, La 4 3, Io (.lit 100 [none, none, some 66, some 82] [.v (.string ⟨#[]⟩), .v (.int .i64 0), .sl true 66 [], .sl true 82 []] 1 [(0, .t 49)]), Io (.app 100 true (.t 48) (.t 50))] [Mv 51 5]))
 .skip))
 (Rs [Mv 5 52, Mv 52 4]
 .ret)))))), lcF []⟩
def ks_fr9 : List (List (Option Nat)) := [[some 100]]
def gl_fr9_1 (a1 : Feat) : List Feat → Nat → Bool → (List Feat) → Option (Bool × (List Feat))
 | [], k87, v82, v84 => some (v82, v84)
 | x88 :: l89, k87, v82, v84 => ((if (!v82) = true then (if (!slt x88.id a1.id) = true then (if fits (v84 ++ ([a1] : (List Feat))).length = true then some (true, (v84 ++ ([a1] : (List Feat)))) else none) else (some (v82, v84))) else (some (v82, v84)) : Option (Bool × (List Feat)))).bind fun q100 => if (!seq x88.id a1.id) = true then (if fits (q100.2 ++ ([x88] : (List Feat))).length = true then gl_fr9_1 a1 l89 (k87 + 1) q100.1 (q100.2 ++ ([x88] : (List Feat))) else none) else (gl_fr9_1 a1 l89 (k87 + 1) q100.1 q100.2)
def gf_fr9 (a0 : (List Feat)) (a1 : Feat) : Option (List Feat) := if fits a0.length = true then ((gl_fr9_1 a1 a0 0 false []).bind fun q81 => if (!q81.1) = true then (if fits (q81.2 ++ ([a1] : (List Feat))).length = true then some ((q81.2 ++ ([a1] : (List Feat)))) else none) else (some (q81.2))) else none
def c_fr9 : Con := ⟨(List Feat) × Feat, (List Feat), 37, fun a => [.ro (List.map (eFeat false) a.1), .agg [.v (.string a.2.id), .v (.int .i64 a.2.shape.kind), .ro (List.map ePt a.2.shape.pts), .ro (List.map eTag a.2.tags)]], fun a => gf_fr9 a.1 a.2, fun a r => ⟨[(false, [sl true 100 (List.map (eFeat false) r)])], []⟩, fun a => []⟩
def if_fs9 : IFn := ⟨38, [.inl 4],
 (Rs [Io (.mv (.c (.slice none 0 0))) 4]
 (Rs [Mv 0 9, Mv 9 5]
 (.seq (Rs [Ki 0 6]
 (blkC 0 (.loop (.seq (Rs (sq 10 [Mv 6, Mv 1, Ln 11, Bb .lss 10 12] [])
 (Ct 13 .skip
 (.exit 0)))
 (.seq (.block 1 (.reg (sq 16 [Mv 5, Mv 1, Mv 6, Ia 4 17 18, La 4 19, Io (.frz (.call 37 [(false, .t 16), (false, .t 20)]))] [Mv 21 5])))
 (.reg (sq 14 [Mv 6, Bk .add 14 1] [Mv 15 6])))))))
 (Rs [Io (.lit 49 [none] [.v (.string ⟨#[]⟩)] 0 []) 22, Mv 22 7]
 (.seq (Rs [Ki 0 8]
 (blkC 2 (.loop (.seq (Rs (sq 23 [Mv 8, Mv 5, Ln 24, Bb .lss 23 25] [])
 (Ct 26 .skip
 (.exit 2)))
 (.seq (.block 3 (.reg (sq 29 [Mv 7, Mv 5, Mv 8, Ia 4 30 31, Fa 0 32, Ld 1 33, Io (.lit 49 [none] [.v (.string ⟨#[]⟩)] 1 [(0, .t 34)]), Io (.app 49 true (.t 29) (.t 35))] [Mv 36 7])))
 (.reg (sq 27 [Mv 8, Bk .add 27 1] [Mv 28 8])))))))
 (Rs [Mv 7 37, Mv 37 4]
 .ret)))))), lcF []⟩
def ks_fs9 : List (List (Option Nat)) := [[some 49]]
def gl_fs9_1 : List Feat → Nat → (List Feat) → Option (List Feat)
 | [], k24, v22 => some v22
 | x25 :: l26, k24, v22 => (gf_fr9 v22 x25).bind fun x33 => gl_fs9_1 l26 (k24 + 1) x33
def gl_fs9_2 : List Feat → Nat → (List Str) → Option (List Str)
 | [], k66, v63 => some v63
 | x67 :: l68, k66, v63 => if fits (v63 ++ ([x67.id] : (List Str))).length = true then gl_fs9_2 l68 (k66 + 1) (v63 ++ ([x67.id] : (List Str))) else none
def gf_fs9 (a0 : (List Feat)) (a1 : (List Feat)) : Option (List Str) := if fits a1.length = true then ((gl_fs9_1 a1 0 a0).bind fun q21 => if fits q21.length = true then ((gl_fs9_2 q21 0 []).bind fun q61 => some (q61)) else none) else none
def c_fs9 : Con := ⟨(List Feat) × (List Feat), (List Str), 38, fun a => [.ro (List.map (eFeat false) a.1), .ro (List.map (eFeat false) a.2)], fun a => gf_fs9 a.1 a.2, fun a r => ⟨[(false, [sl true 49 (List.map eStr r)])], []⟩, fun a => []⟩
def if_fq9 : IFn := ⟨20, [.inl 4],
 (Rs [Ki 0 4]
 (.seq (Rs [Ki 0 5]
 (blkC 0 (.loop (.seq (Rs (sq 6 [Mv 5, Mv 0, Ln 7, Bb .lss 6 8] [])
 (Ct 9 .skip
 (.exit 0)))
 (.seq (.block 1 (Rs (sq 12 [Mv 0, Mv 5, Ia 4 12 13, Fa 0 14, Ld 1 15, Mv 1, Bb .eql 16 17] [])
 (Ct 18 (Rs [Mv 5 19, Mv 19 4]
 .ret)
 .skip)))
 (.reg (sq 10 [Mv 5, Bk .add 10 1] [Mv 11 5])))))))
 (Rs [Ki (-1) 4]
 .ret))), lcF []⟩
def ks_fq9 : List (List (Option Nat)) := [[none]]
def gl_fq9_1 (a1 : Str) : List Feat → Nat → Option (Int ⊕ Unit)
 | [], k10 => some (.inr ())
 | x11 :: l12, k10 => if (seq x11.id a1) = true then (some (.inl ((k10 : Int)))) else (gl_fq9_1 a1 l12 (k10 + 1) )
def gf_fq9 (a0 : (List Feat)) (a1 : Str) : Option Int := if fits a0.length = true then ((gl_fq9_1 a1 a0 0 ).bind fun q => match q with | .inl r => some r | .inr q8 => some ((-1))) else none
def c_fq9 : Con := ⟨(List Feat) × Str, Int, 39, fun a => [.ro (List.map (eFeat false) a.1), .v (.string a.2)], fun a => gf_fq9 a.1 a.2, fun a r => ⟨[(false, [.v (.int .i64 r)])], []⟩, fun a => []⟩
def if_fg9 : IFn := ⟨10, [.inl 4],
 (Rs [Ki 0 4]
 (.seq (Rs (sq 5 [Mv 0, Mv 1, Bb .gtr 5 6] [])
 (Ct 7 (Rs [Mv 0 8, Mv 8 4]
 .ret)
 .skip))
 (Rs [Mv 1 9, Mv 9 4]
 .ret))), lcF []⟩
def ks_fg9 : List (List (Option Nat)) := [[none]]
def gf_fg9 (a0 : Int) (a1 : Int) : Option Int := if (decide (a0 > a1)) = true then (some (a0)) else (some (a1))
def c_fg9 : Con := ⟨Int × Int, Int, 40, fun a => [.v (.int .i64 a.1), .v (.int .i64 a.2)], fun a => gf_fg9 a.1 a.2, fun a r => ⟨[(false, [.v (.int .i64 r)])], []⟩, fun a => []⟩
def if_fv9 : IFn := ⟨13, [.inl 4],
 (Rs [Kb false 4]
 (Rs (sq 5 [Mv 0, Ln 5, Bk .leq 6 12, Mv 7] (Sg 8 9 [Mv 1, Ln 9, Bk .leq 10 12] [Pf 8 11 12, Mv 12 4]))
 .ret)), lcF []⟩
def ks_fv9 : List (List (Option Nat)) := [[none]]
def gf_fv9 (a0 : (List Pt)) (a1 : (List Pt)) : Option Bool := if (decide ((a0.length : Int) ≤ 12)) = true then (some ((decide ((a1.length : Int) ≤ 12)))) else (some (false))
def c_fv9 : Con := ⟨(List Pt) × (List Pt), Bool, 41, fun a => [.ro (List.map ePt a.1), .ro (List.map ePt a.2)], fun a => gf_fv9 a.1 a.2, fun a r => ⟨[(false, [.v (.bool r)])], []⟩, fun a => []⟩
def if_fw9 : IFn := ⟨66, [.inl 4],
 (Rs [Ki 0 4]
 (Rs (sq 9 [Mv 1, Ln 9, Bk .add 10 1, Io (.mks 17 [.v (.int .i64 0)] (.t 11) (.t 11))] [Io (.ren 2000005 17 (.mv (.t 12))) 5])
 (.seq (Rs (sq 13 [Mv 0, Ln 13, Bk .sub 14 1] [Mv 15 6])
 (blkC 0 (.loop (.seq (Rs (sq 16 [Mv 6, Bk .geq 16 0] [])
 (Ct 17 .skip
 (.exit 0)))
 (.seq (.block 1 (Rs (sq 20 [Mv 1, Ln 20, Bk .add 21 1, Io (.mks 17 [.v (.int .i64 0)] (.t 22) (.t 22))] [Mv 23 7])
 (.seq (Rs (sq 24 [Mv 1, Ln 24, Bk .sub 25 1] [Mv 26 8])
 (blkC 2 (.loop (.seq (Rs (sq 27 [Mv 8, Bk .geq 27 0] [])
 (Ct 28 .skip
 (.exit 2)))
 (.seq (.block 3 (.seq (.drw (sq 31 [Mv 0, Mv 6, Ia 2 31 32, La 2 33, Mv 1, Mv 8, Ia 2 35 36, La 2 37, Io (.eqs false true [0, 0] (.t 34) (.t 38))] []) [(3, 7)])
 (Ct 39 (.reg (sq 40 [Mv 7, Mv 8, Mv 5, Mv 8, Bk .add 43 1, Ia 1 42 44, Ld 1 45, Bk .add 46 1, Ia 1 40 41] [Sv [none] 48 47]))
 (.drw (sq 49 [Mv 7, Mv 8, Mv 5, Mv 8, Ia 1 51 52, Ld 1 53, Mv 7, Mv 8, Bk .add 56 1, Ia 1 55 57, Ld 1 58, Ca 40 [54, 59], Ia 1 49 50] [Sv [none] 61 60]) [(5, 10)]))))
 (.reg (sq 29 [Mv 8, Bk .sub 29 1] [Mv 30 8])))))))
 (.reg [Mv 7 62, Io (.ren 2000005 17 (.mv (.t 62))) 5]))))
 (.reg (sq 18 [Mv 6, Bk .sub 18 1] [Mv 19 6])))))))
 (Rs (sq 63 [Mv 5, Ik 1 63 0, Ld 1 64] [Mv 65 4])
 .ret)))), lcF []⟩
def ks_fw9 : List (List (Option Nat)) := [[none]]
def gl_fw9_5 (a0 : (List Pt)) (v247 : Int) (a1 : (List Pt)) (v248 : (List Int)) : Nat → Int → (List Int) → Option (List Int)
 | 0, _, _ => none
 | n312 + 1, v308, v309 => if (decide (v308 ≥ 0)) = true then ((idx a0 v247).bind fun x313 => (idx a1 v308).bind fun x315 => if ((x313.x == x315.x) && ((x313.y == x315.y) && true)) = true then ((idx v248 (IntKind.i64.wrap (v308 + 1))).bind fun x317 => (idx v309 v308).bind fun x319 => gl_fw9_5 a0 v247 a1 v248 n312 (IntKind.i64.wrap (v308 - 1)) (List.set v309 v308.toNat (IntKind.i64.wrap (x317 + 1)))) else ((idx v248 v308).bind fun x321 => (idx v309 (IntKind.i64.wrap (v308 + 1))).bind fun x323 => (gf_fg9 x321 x323).bind fun x325 => (idx v309 v308).bind fun x327 => gl_fw9_5 a0 v247 a1 v248 n312 (IntKind.i64.wrap (v308 - 1)) (List.set v309 v308.toNat x325))) else (some v309)
def gl_fw9_4 (a1 : (List Pt)) (a0 : (List Pt)) : Nat → Int → (List Int) → Option (List Int)
 | 0, _, _ => none
 | n251 + 1, v247, v248 => if (decide (v247 ≥ 0)) = true then (if (decide (0 ≤ (IntKind.i64.wrap ((a1.length : Int) + 1))) && fits ((IntKind.i64.wrap ((a1.length : Int) + 1))).toNat) = true then (gl_fw9_5 a0 v247 a1 v248 rounds (IntKind.i64.wrap ((a1.length : Int) - 1)) (List.replicate ((IntKind.i64.wrap ((a1.length : Int) + 1))).toNat 0)).bind fun q307 => gl_fw9_4 a1 a0 n251 (IntKind.i64.wrap (v247 - 1)) q307 else none) else (some v248)
def gf_fw9 (a0 : (List Pt)) (a1 : (List Pt)) : Option Int := if (decide (0 ≤ (IntKind.i64.wrap ((a1.length : Int) + 1))) && fits ((IntKind.i64.wrap ((a1.length : Int) + 1))).toNat) = true then (gl_fw9_4 a1 a0 rounds (IntKind.i64.wrap ((a0.length : Int) - 1)) (List.replicate ((IntKind.i64.wrap ((a1.length : Int) + 1))).toNat 0)).bind fun q246 => (idx q246 0).bind fun x335 => some (x335) else none
def c_fw9 : Con := ⟨(List Pt) × (List Pt), Int, 42, fun a => [.ro (List.map ePt a.1), .ro (List.map ePt a.2)], fun a => gf_fw9 a.1 a.2, fun a r => ⟨[(false, [.v (.int .i64 r)])], []⟩, fun a => []⟩
def if_ey9 : IFn := ⟨67, [.inl 4],
 (Rs [Io (.mv (.c (.slice none 0 0))) 4]
 (Rs [Io (.lit 194 [none, none] [.v (.int .i64 0), .v (.int .i64 0)] 0 []) 8, Mv 8 5]
 (Rs [Ki 0 6]
 (Rs [Ki 0 7]
 (seqC (.block 0 (.loop (.seq (Rs (sq 9 [Mv 6, Mv 0, Ln 10, Bb .lss 9 11, Mv 12] (Sg 13 14 [Mv 7, Mv 1, Ln 15, Bb .lss 14 16] (sq 18 [Pf 13 17, Mv 18] (Sg 19 20 [Mv 0, Mv 1, Ca 41 [20, 21]] [Pf 19 22 23]))))
 (Ct 23 .skip
 (.exit 0)))
 (.block 1 (.block 2 (.seq (.drw (sq 27 [Mv 0, Mv 6, Ia 2 27 28, La 2 29, Mv 1, Mv 7, Ia 2 31 32, La 2 33, Io (.eqs false true [0, 0] (.t 30) (.t 34))] [Mv 35 26]) [(3, 7)])
 (Ct 26 (Rs (sq 36 [Mv 5, Mv 6, Mv 7, Io (.build [.v (.int .i64 0), .v (.int .i64 0)] [(0, 1, .t 37), (1, 1, .t 38)]), Io (.lit 194 [none, none] [.v (.int .i64 0), .v (.int .i64 0)] 1 [(0, .t 39)]), Io (.app 194 true (.t 36) (.t 40))] [Mv 41 5])
 (Rs (sq 42 [Mv 6, Bk .add 42 1] [Mv 43 6])
 (.reg (sq 44 [Mv 7, Bk .add 44 1] [Mv 45 7]))))
 (.seq (.drw (sq 47 [Mv 0, Mv 6, Bk .add 48 1, Io (.sls 2 (.t 47) (some (.t 49)) none), Mv 1, Mv 7, Io (.sls 2 (.t 51) (some (.t 52)) none), Ca 42 [50, 53], Mv 0, Mv 6, Io (.sls 2 (.t 55) (some (.t 56)) none), Mv 1, Mv 7, Bk .add 59 1, Io (.sls 2 (.t 58) (some (.t 60)) none), Ca 42 [57, 61], Bb .geq 54 62] [Mv 63 46]) [])
 (Ct 46 (.reg (sq 64 [Mv 6, Bk .add 64 1] [Mv 65 6]))
 (.reg (sq 24 [Mv 7, Bk .add 24 1] [Mv 25 7])))))))))))
 (Rs [Mv 5 66, Mv 66 4]
 .ret)))))), lcF []⟩
def ks_ey9 : List (List (Option Nat)) := [[some 194]]
def gl_ey9_1 (a0 : (List Pt)) (a1 : (List Pt)) : Nat → Int → Int → (List Pair) → Option (List Pair)
 | 0, _, _, _ => none
 | n57 + 1, v52, v53, v54 => if (decide (v52 < (a0.length : Int))) = true then (if (decide (v53 < (a1.length : Int))) = true then ((gf_fv9 a0 a1).bind fun x58 => if x58 = true then ((idx a0 v52).bind fun x60 => (idx a1 v53).bind fun x62 => if ((x60.x == x62.x) && ((x60.y == x62.y) && true)) = true then (if fits (v54 ++ ([(⟨v52, v53⟩ : Pair)] : (List Pair))).length = true then gl_ey9_1 a0 a1 n57 (IntKind.i64.wrap (v52 + 1)) (IntKind.i64.wrap (v53 + 1)) (v54 ++ ([(⟨v52, v53⟩ : Pair)] : (List Pair))) else none) else ((slc a0 (IntKind.i64.wrap (v52 + 1)) (a0.length : Int)).bind fun x68 => (slc a1 v53 (a1.length : Int)).bind fun x70 => (gf_fw9 x68 x70).bind fun x72 => (slc a0 v52 (a0.length : Int)).bind fun x74 => (slc a1 (IntKind.i64.wrap (v53 + 1)) (a1.length : Int)).bind fun x76 => (gf_fw9 x74 x76).bind fun x78 => if (decide (x72 ≥ x78)) = true then (gl_ey9_1 a0 a1 n57 (IntKind.i64.wrap (v52 + 1)) v53 v54) else (gl_ey9_1 a0 a1 n57 v52 (IntKind.i64.wrap (v53 + 1)) v54))) else (some v54)) else (some v54)) else (some v54)
def gf_ey9 (a0 : (List Pt)) (a1 : (List Pt)) : Option (List Pair) := (gl_ey9_1 a0 a1 rounds 0 0 []).bind fun q51 => some (q51)
def c_ey9 : Con := ⟨(List Pt) × (List Pt), (List Pair), 43, fun a => [.ro (List.map ePt a.1), .ro (List.map ePt a.2)], fun a => gf_ey9 a.1 a.2, fun a r => ⟨[(false, [sl true 194 (List.map ePair r)])], []⟩, fun a => []⟩
def if_fu9 : IFn := ⟨24, [.inl 4],
 (Rs [Ki 0 4]
 (.seq (Rs [Ki 0 5]
 (blkC 0 (.loop (.seq (Rs (sq 6 [Mv 5, Mv 0, Ln 7, Bb .lss 6 8] [])
 (Ct 9 .skip
 (.exit 0)))
 (.seq (.block 1 (Rs (sq 12 [Mv 0, Mv 5, Ia 2 12 13, Fa 0 14, Ld 1 15, Mv 1, Bb .eql 16 17] [])
 (Ct 18 (Rs (sq 19 [Mv 0, Mv 5, Ia 2 19 20, Fa 1 21, Ld 1 22] [Mv 23 4])
 .ret)
 .skip)))
 (.reg (sq 10 [Mv 5, Bk .add 10 1] [Mv 11 5])))))))
 (Rs [Ki (-1) 4]
 .ret))), lcF []⟩
def ks_fu9 : List (List (Option Nat)) := [[none]]
def gl_fu9_1 (a1 : Int) : List Pair → Nat → Option (Int ⊕ Unit)
 | [], k10 => some (.inr ())
 | x11 :: l12, k10 => if (x11.a == a1) = true then (some (.inl (x11.b))) else (gl_fu9_1 a1 l12 (k10 + 1) )
def gf_fu9 (a0 : (List Pair)) (a1 : Int) : Option Int := if fits a0.length = true then ((gl_fu9_1 a1 a0 0 ).bind fun q => match q with | .inl r => some r | .inr q8 => some ((-1))) else none
def c_fu9 : Con := ⟨(List Pair) × Int, Int, 44, fun a => [.ro (List.map ePair a.1), .v (.int .i64 a.2)], fun a => gf_fu9 a.1 a.2, fun a r => ⟨[(false, [.v (.int .i64 r)])], []⟩, fun a => []⟩
def if_fy9 : IFn := ⟨23, [.inl 6, .inl 7],
 (Rs (sq 6 [Io (.mv (.zr)), Kb false] [])
 (.seq (.block 0 (Rs (sq 9 [Mv 1, Mv 0, Ca 18 [9, 10]] [Mv 11 8])
 (Ct 8 (Rs (Mv 2 12 :: (sq 6 [Mv 12, Kb true] []))
 .ret)
 (Rs (sq 14 [Mv 2, Mv 0, Ca 18 [14, 15]] [Mv 16 13])
 (Ct 13 (Rs (Mv 1 17 :: (sq 6 [Mv 17, Kb true] []))
 .ret)
 (Rs (sq 19 [Mv 1, Mv 2, Ca 18 [19, 20]] [Mv 21 18])
 (Ct 18 (Rs (Mv 1 22 :: (sq 6 [Mv 22, Kb true] []))
 .ret)
 .skip)))))))
 (Rs (sq 6 [Io (.mv (.zr)), Kb false] [])
 .ret))), lcF []⟩
def ks_fy9 : List (List (Option Nat)) := [[some 66], [none]]
def gf_fy9 (a0 : (List Pt)) (a1 : (List Pt)) (a2 : (List Pt)) : Option ((List Pt) × Bool) := (gf_fj9 a1 a0).bind fun x1 => if x1 = true then (some (a2, true)) else ((gf_fj9 a2 a0).bind fun x3 => if x3 = true then (some (a1, true)) else ((gf_fj9 a1 a2).bind fun x5 => if x5 = true then (some (a1, true)) else (some (([] : (List Pt)), false))))
def c_fy9 : Con := ⟨(List Pt) × (List Pt) × (List Pt), ((List Pt) × Bool), 45, fun a => [.ro (List.map ePt a.1), .ro (List.map ePt a.2.1), .ro (List.map ePt a.2.2)], fun a => gf_fy9 a.1 a.2.1 a.2.2, fun a r => ⟨[(false, [sl false 66 (List.map ePt r.1)]), (false, [.v (.bool r.2)])], []⟩, fun a => []⟩
def if_fx9 : IFn := ⟨91, [.inl 6, .inl 7],
 (Rs (sq 6 [Io (.mv (.c (.slice none 0 0))), Kb false] [])
 (Rs (sq 19 [Mv 0, Mv 1, Ca 43 [19, 20]] [Mv 21 8])
 (Rs (sq 22 [Mv 0, Mv 2, Ca 43 [22, 23]] [Mv 24 9])
 (Rs [Io (.lit 66 [none, none] [.v (.int .i64 0), .v (.int .i64 0)] 0 []) 25, Mv 25 10]
 (Rs [Ki 0 11]
 (Rs [Ki 0 12]
 (Rs [Ki 0 13]
 (.seq (Rs [Ki 0 14]
 (blkC 0 (.loop (.seq (Rs (sq 26 [Mv 14, Mv 0, Ln 27, Bb .leq 26 28] [])
 (Ct 29 .skip
 (.exit 0)))
 (seqC (.block 1 (Rs (sq 32 [Mv 1, Ln 32] [Mv 33 15])
 (Rs (sq 34 [Mv 2, Ln 34] [Mv 35 16])
 (.seq (Rs (sq 36 [Mv 14, Mv 0, Ln 37, Bb .lss 36 38] [])
 (Ct 39 (Rs (sq 40 [Mv 8, Mv 14, Ca 44 [40, 41]] [Mv 42 15])
 (Rs (sq 43 [Mv 9, Mv 14, Ca 44 [43, 44]] [Mv 45 16])
 (Rs (sq 46 [Mv 15, Bk .lss 46 0, Mv 47] (Sf 48 49 [Mv 16, Bk .lss 49 0] [Pk 48 50 51]))
 (Ct 51 (.exit 1)
 .skip))))
 .skip))
 (.seq (.drw (sq 53 [Mv 0, Mv 11, Mv 14, Io (.sls 2 (.t 53) (some (.t 54)) (some (.t 55))), Mv 1, Mv 12, Mv 15, Io (.sls 2 (.t 57) (some (.t 58)) (some (.t 59))), Mv 2, Mv 13, Mv 16, Io (.sls 2 (.t 61) (some (.t 62)) (some (.t 63))), Ca 45 [56, 60, 64]] (Mv 65 52 :: (sq 66 [Xt 52 0, Xt 52 1] (sq 17 [Mv 66, Mv 67] [])))) [])
 (.seq (Rs (sq 68 [Mv 18, Nt 68] [])
 (Ct 69 (Rs (sq 6 [Io (.mv (.c (.slice none 0 0))), Kb false] [])
 .ret)
 .skip))
 (Rs (sq 70 [Mv 10, Mv 17, Io (.app 66 false (.t 70) (.t 71))] [Mv 72 10])
 (.seq (Rs (sq 73 [Mv 14, Mv 0, Ln 74, Bb .lss 73 75] [])
 (Ct 76 (.reg (sq 77 [Mv 10, Mv 0, Mv 14, Ia 2 78 79, La 2 80, Io (.lit 66 [none, none] [.v (.int .i64 0), .v (.int .i64 0)] 1 [(0, .t 81)]), Io (.app 66 true (.t 77) (.t 82))] [Mv 83 10]))
 .skip))
 (Rs (sq 84 [Mv 14, Bk .add 84 1] [Mv 85 11])
 (Rs (sq 86 [Mv 15, Bk .add 86 1] [Mv 87 12])
 (.reg (sq 88 [Mv 16, Bk .add 88 1] [Mv 89 13]))))))))))))
 (.reg (sq 30 [Mv 14, Bk .add 30 1] [Mv 31 14])))))))
 (Rs (Mv 10 90 :: (sq 6 [Mv 90, Kb true] []))
 .ret))))))))), lcF []⟩
def ks_fx9 : List (List (Option Nat)) := [[some 66], [none]]
def gl_fx9_1 (a0 : (List Pt)) (x1 : (List Pair)) (x5 : (List Pair)) (a1 : (List Pt)) (a2 : (List Pt)) : Nat → Int → Int → Int → Int → (List Pt) → Option (((List Pt) × Bool) ⊕ (List Pt))
 | 0, _, _, _, _, _ => none
 | n274 + 1, v267, v268, v269, v270, v271 => if (decide (v270 ≤ (a0.length : Int))) = true then (((if (decide (v270 < (a0.length : Int))) = true then ((gf_fu9 x1 v270).bind fun x314 => (gf_fu9 x5 v270).bind fun x316 => if (decide (x314 < 0)) = true then (some (.inr (v267, v268, v269, v271))) else (if (decide (x316 < 0)) = true then (some (.inr (v267, v268, v269, v271))) else ((slc a0 v267 v270).bind fun x318 => (slc a1 v268 x314).bind fun x320 => (slc a2 v269 x316).bind fun x322 => (gf_fy9 x318 x320 x322).bind fun x324 => if (!x324.2) = true then (some (.inl (([] : (List Pt)), false))) else (if fits (v271 ++ x324.1).length = true then if (decide (v270 < (a0.length : Int))) = true then ((idx a0 v270).bind fun x329 => if fits ((v271 ++ x324.1) ++ ([x329] : (List Pt))).length = true then some (.inr ((IntKind.i64.wrap (v270 + 1)), (IntKind.i64.wrap (x314 + 1)), (IntKind.i64.wrap (x316 + 1)), ((v271 ++ x324.1) ++ ([x329] : (List Pt))))) else none) else (some (.inr ((IntKind.i64.wrap (v270 + 1)), (IntKind.i64.wrap (x314 + 1)), (IntKind.i64.wrap (x316 + 1)), (v271 ++ x324.1)))) else none)))) else ((slc a0 v267 v270).bind fun x335 => (slc a1 v268 (a1.length : Int)).bind fun x337 => (slc a2 v269 (a2.length : Int)).bind fun x339 => (gf_fy9 x335 x337 x339).bind fun x341 => if (!x341.2) = true then (some (.inl (([] : (List Pt)), false))) else (if fits (v271 ++ x341.1).length = true then if (decide (v270 < (a0.length : Int))) = true then ((idx a0 v270).bind fun x346 => if fits ((v271 ++ x341.1) ++ ([x346] : (List Pt))).length = true then some (.inr ((IntKind.i64.wrap (v270 + 1)), (IntKind.i64.wrap ((a1.length : Int) + 1)), (IntKind.i64.wrap ((a2.length : Int) + 1)), ((v271 ++ x341.1) ++ ([x346] : (List Pt))))) else none) else (some (.inr ((IntKind.i64.wrap (v270 + 1)), (IntKind.i64.wrap ((a1.length : Int) + 1)), (IntKind.i64.wrap ((a2.length : Int) + 1)), (v271 ++ x341.1)))) else none)) : Option (((List Pt) × Bool) ⊕ (Int × Int × Int × (List Pt))))).bind fun q => match q with | .inl r => some (.inl r) | .inr q313 => gl_fx9_1 a0 x1 x5 a1 a2 n274 q313.1 q313.2.1 q313.2.2.1 (IntKind.i64.wrap (v270 + 1)) q313.2.2.2) else (some (.inr v271))
def gf_fx9 (a0 : (List Pt)) (a1 : (List Pt)) (a2 : (List Pt)) : Option ((List Pt) × Bool) := (gf_ey9 a0 a1).bind fun x1 => (gf_ey9 a0 a2).bind fun x5 => (gl_fx9_1 a0 x1 x5 a1 a2 rounds 0 0 0 0 []).bind fun q => match q with | .inl r => some r | .inr q266 => some (q266, true)
def c_fx9 : Con := ⟨(List Pt) × (List Pt) × (List Pt), ((List Pt) × Bool), 46, fun a => [.ro (List.map ePt a.1), .ro (List.map ePt a.2.1), .ro (List.map ePt a.2.2)], fun a => gf_fx9 a.1 a.2.1 a.2.2, fun a r => ⟨[(false, [sl true 66 (List.map ePt r.1)]), (false, [.v (.bool r.2)])], []⟩, fun a => []⟩
def if_fm9 : IFn := ⟨57, [.inl 6],
 (Rs [Io (.mv (.c (.slice none 0 0))) 6]
 (Rs [Io (.lit 82 [none, none] [.v (.string ⟨#[]⟩), .v (.string ⟨#[]⟩)] 0 []) 10, Mv 10 7]
 (Rs [Kb false 8]
 (.seq (Rs [Ki 0 9]
 (blkC 0 (.loop (.seq (Rs (sq 11 [Mv 9, Mv 0, Ln 12, Bb .lss 11 13] [])
 (Ct 14 .skip
 (.exit 0)))
 (.seq (.block 1 (seqC (Rs (sq 17 [Mv 8, Nt 17, Mv 18] (Sg 19 20 [Mv 0, Mv 9, Ia 2 20 21, Fa 0 22, Ld 1 23, Mv 1, Bb .geq 24 25] [Pf 19 26 27]))
 (Ct 27 (Rs (sq 28 [Mv 7, Mv 1, Mv 2, Io (.build [.v (.string ⟨#[]⟩), .v (.string ⟨#[]⟩)] [(0, 1, .t 29), (1, 1, .t 30)]), Io (.lit 82 [none, none] [.v (.string ⟨#[]⟩), .v (.string ⟨#[]⟩)] 1 [(0, .t 31)]), Io (.app 82 true (.t 28) (.t 32))] [Mv 33 7])
 (.reg [Kb true 8]))
 .skip))
 (Rs (sq 34 [Mv 0, Mv 9, Ia 2 34 35, Fa 0 36, Ld 1 37, Mv 1, Bb .neq 38 39] [])
 (Ct 40 (.reg (sq 41 [Mv 7, Mv 0, Mv 9, Ia 2 42 43, La 2 44, Io (.lit 82 [none, none] [.v (.string ⟨#[]⟩), .v (.string ⟨#[]⟩)] 1 [(0, .t 45)]), Io (.app 82 true (.t 41) (.t 46))] [Mv 47 7]))
 .skip))))
 (.reg (sq 15 [Mv 9, Bk .add 15 1] [Mv 16 9])))))))
 (.seq (Rs (sq 48 [Mv 8, Nt 48] [])
 (Ct 49 (.reg (sq 50 [Mv 7, Mv 1, Mv 2, Io (.build [.v (.string ⟨#[]⟩), .v (.string ⟨#[]⟩)] [(0, 1, .t 51), (1, 1, .t 52)]), Io (.lit 82 [none, none] [.v (.string ⟨#[]⟩), .v (.string ⟨#[]⟩)] 1 [(0, .t 53)]), Io (.app 82 true (.t 50) (.t 54))] [Mv 55 7]))
 .skip))
 (Rs [Mv 7 56, Mv 56 6]
 .ret)))))), lcF []⟩
def ks_fm9 : List (List (Option Nat)) := [[some 82]]
def gl_fm9_1 (a1 : Str) (a2 : Str) : List Tag → Nat → Bool → (List Tag) → Option (Bool × (List Tag))
 | [], k84, v79, v81 => some (v79, v81)
 | x85 :: l86, k84, v79, v81 => ((if (!v79) = true then (if (!slt x85.key a1) = true then (if fits (v81 ++ ([(⟨a1, a2⟩ : Tag)] : (List Tag))).length = true then some (true, (v81 ++ ([(⟨a1, a2⟩ : Tag)] : (List Tag)))) else none) else (some (v79, v81))) else (some (v79, v81)) : Option (Bool × (List Tag)))).bind fun q97 => if (!seq x85.key a1) = true then (if fits (q97.2 ++ ([x85] : (List Tag))).length = true then gl_fm9_1 a1 a2 l86 (k84 + 1) q97.1 (q97.2 ++ ([x85] : (List Tag))) else none) else (gl_fm9_1 a1 a2 l86 (k84 + 1) q97.1 q97.2)
def gf_fm9 (a0 : (List Tag)) (a1 : Str) (a2 : Str) : Option (List Tag) := if fits a0.length = true then ((gl_fm9_1 a1 a2 a0 0 false []).bind fun q78 => if (!q78.1) = true then (if fits (q78.2 ++ ([(⟨a1, a2⟩ : Tag)] : (List Tag))).length = true then some ((q78.2 ++ ([(⟨a1, a2⟩ : Tag)] : (List Tag)))) else none) else (some (q78.2))) else none
def c_fm9 : Con := ⟨(List Tag) × Str × Str, (List Tag), 47, fun a => [.ro (List.map eTag a.1), .v (.string a.2.1), .v (.string a.2.2)], fun a => gf_fm9 a.1 a.2.1 a.2.2, fun a r => ⟨[(false, [sl true 82 (List.map eTag r)])], []⟩, fun a => []⟩
def if_fl9 : IFn := ⟨25, [.inl 4, .inl 5],
 (Rs (sq 4 [Io (.mv (.c (.string ⟨#[]⟩))), Kb false] [])
 (.seq (Rs [Ki 0 6]
 (blkC 0 (.loop (.seq (Rs (sq 7 [Mv 6, Mv 0, Ln 8, Bb .lss 7 9] [])
 (Ct 10 .skip
 (.exit 0)))
 (.seq (.block 1 (Rs (sq 13 [Mv 0, Mv 6, Ia 2 13 14, Fa 0 15, Ld 1 16, Mv 1, Bb .eql 17 18] [])
 (Ct 19 (Rs (sq 20 [Mv 0, Mv 6, Ia 2 20 21, Fa 1 22, Ld 1 23] (sq 4 [Mv 24, Kb true] []))
 .ret)
 .skip)))
 (.reg (sq 11 [Mv 6, Bk .add 11 1] [Mv 12 6])))))))
 (Rs (sq 4 [Io (.mv (.c (.string ⟨#[]⟩))), Kb false] [])
 .ret))), lcF []⟩
def ks_fl9 : List (List (Option Nat)) := [[none], [none]]
def gl_fl9_1 (a1 : Str) : List Tag → Nat → Option ((Str × Bool) ⊕ Unit)
 | [], k10 => some (.inr ())
 | x11 :: l12, k10 => if (seq x11.key a1) = true then (some (.inl (x11.val, true))) else (gl_fl9_1 a1 l12 (k10 + 1) )
def gf_fl9 (a0 : (List Tag)) (a1 : Str) : Option (Str × Bool) := if fits a0.length = true then ((gl_fl9_1 a1 a0 0 ).bind fun q => match q with | .inl r => some r | .inr q8 => some ((⟨#[]⟩ : Str), false)) else none
def c_fl9 : Con := ⟨(List Tag) × Str, (Str × Bool), 48, fun a => [.ro (List.map eTag a.1), .v (.string a.2)], fun a => gf_fl9 a.1 a.2, fun a r => ⟨[(false, [.v (.string r.1)]), (false, [.v (.bool r.2)])], []⟩, fun a => []⟩
def if_ge9 : IFn := ⟨63, [.inr (6, 2), .inl 7],
 (Rs (sq 3 [Io (.box 226 [none, some 66] (.t 0)), Io (.box 226 [none, some 66] (.t 1)), Io (.box 226 [none, some 66] (.t 2)), Io (.alloc 226 [.v (.int .i64 0), .sl true 66 []]), Kb false] [])
 (.seq (.block 0 (Rs (sq 12 [La 2 4, La 2 3, Ca 19 [12, 13]] [Mv 14 11])
 (Ct 11 (Rs [La 2 5 15, Sv [none, some 66] 6 15, Kb true 7]
 .ret)
 (seqC (.reg (sq 17 [La 2 5, La 2 3, Ca 19 [17, 18], Mv 19] (Sf 20 21 [La 2 4, La 2 5, Ca 19 [21, 22]] [Pk 20 23 24, Mv 24 16])))
 (Ct 16 (Rs [La 2 4 25, Sv [none, some 66] 6 25, Kb true 7]
 .ret)
 (Rs (sq 27 [Fa 0 4, Ld 1 27, Fa 0 5, Ld 1 29, Bb .neq 28 30, Mv 31] (Sf 32 33 [Fa 0 4, Ld 1 33, Fa 0 3, Ld 1 35, Bb .neq 34 36] [Pk 32 37 38, Mv 38 26]))
 (Ct 26 (Rs [La 2 4 39, Sv [none, some 66] 6 39, Kb false 7]
 .ret)
 .skip)))))))
 (Rs (sq 41 [Fa 1 3, Ld 1 41, Fa 1 4, Ld 1 43, Fa 1 5, Ld 1 45, Io (.frz (.call 46 [(false, .t 42), (false, .t 44), (false, .t 46)]))] (Mv 47 40 :: (sq 48 [Xt 40 0, Xt 40 1] (sq 8 [Mv 48, Mv 49] []))))
 (Rs (sq 50 [Fa 0 4, Ld 1 50, Mv 8, Io (.build [.v (.int .i64 0), .nil] [(0, 1, .t 51), (1, 1, .t 52)])] [Io (.alloc 226 [.v (.int .i64 0), .sl true 66 []]) 10, Sv [none, some 66] 10 53])
 (.seq (Rs (sq 54 [Mv 9, Nt 54, Mv 55] (Sf 56 57 [La 2 10, Ca 15 [57], Nt 58] [Pk 56 59 60]))
 (Ct 60 (Rs [La 2 4 61, Sv [none, some 66] 6 61, Kb false 7]
 .ret)
 .skip))
 (Rs [La 2 10 62, Sv [none, some 66] 6 62, Kb true 7]
 .ret)))))), lcF []⟩
def ks_ge9 : List (List (Option Nat)) := [[none, some 66], [none]]
def gf_ge9 (a0 : Shape) (a1 : Shape) (a2 : Shape) : Option (Shape × Bool) := (gf_fa9 a1 a0).bind fun x5 => if x5 = true then (some (a2, true)) else ((((gf_fa9 a2 a0).bind fun x8 => if x8 = true then (some true) else ((gf_fa9 a1 a2).bind fun x10 => some x10) : Option Bool)).bind fun q7 => if q7 = true then (some (a1, true)) else (if (a1.kind != a2.kind) = true then (some (a1, false)) else (if (a1.kind != a0.kind) = true then (some (a1, false)) else ((gf_fx9 a0.pts a1.pts a2.pts).bind fun x13 => if (!x13.2) = true then (some (a1, false)) else ((gf_ez9 (⟨a1.kind, x13.1⟩ : Shape)).bind fun x18 => if (!x18) = true then (some (a1, false)) else (some ((⟨a1.kind, x13.1⟩ : Shape), true)))))))
def c_ge9 : Con := ⟨Shape × Shape × Shape, (Shape × Bool), 49, fun a => [.agg [.v (.int .i64 a.1.kind), .ro (List.map ePt a.1.pts)], .agg [.v (.int .i64 a.2.1.kind), .ro (List.map ePt a.2.1.pts)], .agg [.v (.int .i64 a.2.2.kind), .ro (List.map ePt a.2.2.pts)]], fun a => gf_ge9 a.1 a.2.1 a.2.2, fun a r => ⟨[(true, eShape false r.1), (false, [.v (.bool r.2)])], []⟩, fun a => []⟩
def if_gc9 : IFn := ⟨49, [.inl 6],
 (Rs [Io (.mv (.c (.slice none 0 0))) 6]
 (Rs (sq 12 [Io (.lit 82 [none, none] [.v (.string ⟨#[]⟩), .v (.string ⟨#[]⟩)] 0 []), Mv 0, Io (.app 82 false (.t 12) (.t 13)), Mv 1, Io (.app 82 false (.t 14) (.t 15)), Mv 2, Io (.app 82 false (.t 16) (.t 17))] [Mv 18 7])
 (Rs [Io (.lit 82 [none, none] [.v (.string ⟨#[]⟩), .v (.string ⟨#[]⟩)] 0 []) 19, Io (.ren 2000008 82 (.mv (.t 19))) 8]
 (.seq (Rs [Ki 0 9]
 (blkC 0 (.loop (.seq (Rs (sq 20 [Mv 9, Mv 7, Ln 21, Bb .lss 20 22] [])
 (Ct 23 .skip
 (.exit 0)))
 (.seq (.block 1 (.reg (sq 26 [Mv 8, Mv 7, Mv 9, Ia 2 27 28, Fa 0 29, Ld 1 30, Io (.call 47 [(false, .t 26), (false, .t 31), (false, .c (.string ⟨#[97]⟩))])] [Io (.ren 2000008 82 (.mv (.t 32))) 8])))
 (.reg (sq 24 [Mv 9, Bk .add 24 1] [Mv 25 9])))))))
 (Rs [Io (.lit 49 [none] [.v (.string ⟨#[]⟩)] 0 []) 33, Mv 33 10]
 (.seq (Rs [Ki 0 11]
 (blkC 2 (.loop (.seq (Rs (sq 34 [Mv 11, Mv 8, Ln 35, Bb .lss 34 36] [])
 (Ct 37 .skip
 (.exit 2)))
 (.seq (.block 3 (.reg (sq 40 [Mv 10, Mv 8, Mv 11, Ia 2 41 42, Fa 0 43, Ld 1 44, Io (.lit 49 [none] [.v (.string ⟨#[]⟩)] 1 [(0, .t 45)]), Io (.app 49 true (.t 40) (.t 46))] [Mv 47 10])))
 (.reg (sq 38 [Mv 11, Bk .add 38 1] [Mv 39 11])))))))
 (Rs [Mv 10 48, Mv 48 6]
 .ret))))))), lcF []⟩
def ks_gc9 : List (List (Option Nat)) := [[some 49]]
def gl_gc9_1 : List Tag → Nat → (List Tag) → Option (List Tag)
 | [], k39, v36 => some v36
 | x40 :: l41, k39, v36 => (gf_fm9 v36 x40.key (⟨#[97]⟩ : Str)).bind fun x48 => gl_gc9_1 l41 (k39 + 1) x48
def gl_gc9_2 : List Tag → Nat → (List Str) → Option (List Str)
 | [], k83, v80 => some v80
 | x84 :: l85, k83, v80 => if fits (v80 ++ ([x84.key] : (List Str))).length = true then gl_gc9_2 l85 (k83 + 1) (v80 ++ ([x84.key] : (List Str))) else none
def gf_gc9 (a0 : (List Tag)) (a1 : (List Tag)) (a2 : (List Tag)) : Option (List Str) := if fits ([] ++ a0).length = true then if fits (([] ++ a0) ++ a1).length = true then if fits ((([] ++ a0) ++ a1) ++ a2).length = true then if fits ((([] ++ a0) ++ a1) ++ a2).length = true then ((gl_gc9_1 ((([] ++ a0) ++ a1) ++ a2) 0 []).bind fun q34 => if fits q34.length = true then ((gl_gc9_2 q34 0 []).bind fun q78 => some (q78)) else none) else none else none else none else none
def c_gc9 : Con := ⟨(List Tag) × (List Tag) × (List Tag), (List Str), 50, fun a => [.ro (List.map eTag a.1), .ro (List.map eTag a.2.1), .ro (List.map eTag a.2.2)], fun a => gf_gc9 a.1 a.2.1 a.2.2, fun a r => ⟨[(false, [sl true 49 (List.map eStr r)])], []⟩, fun a => []⟩
def if_gf9 : IFn := ⟨71, [.inl 8, .inl 9, .inl 10],
 (Rs (sq 8 [Io (.mv (.c (.string ⟨#[]⟩))), Kb false, Kb false] [])
 (Rs (sq 18 [Mv 0, Mv 3, Ca 48 [18, 19]] (Mv 20 17 :: (sq 21 [Xt 17 0, Xt 17 1] (sq 11 [Mv 21, Mv 22] []))))
 (Rs (sq 24 [Mv 1, Mv 3, Ca 48 [24, 25]] (Mv 26 23 :: (sq 27 [Xt 23 0, Xt 23 1] (sq 13 [Mv 27, Mv 28] []))))
 (Rs (sq 30 [Mv 2, Mv 3, Ca 48 [30, 31]] (Mv 32 29 :: (sq 33 [Xt 29 0, Xt 29 1] (sq 15 [Mv 33, Mv 34] []))))
 (seqC (.block 0 (Rs (sq 36 [Mv 13, Mv 11, Bb .eql 36 37, Mv 38] (Sg 39 40 [Mv 14, Mv 12, Io (.eqs false false [1] (.t 40) (.t 41))] [Pf 39 42 43, Mv 43 35]))
 (Ct 35 (Rs (sq 44 [Mv 15, Mv 16] (sq 8 [Mv 44, Mv 45, Kb true] []))
 .ret)
 (Rs (sq 47 [Mv 15, Mv 11, Bb .eql 47 48, Mv 49] (Sg 50 51 [Mv 16, Mv 12, Io (.eqs false false [1] (.t 51) (.t 52))] (sq 54 [Pf 50 53, Mv 54] (Sf 55 56 [Mv 13, Mv 15, Bb .eql 56 57, Mv 58] (Sg 59 60 [Mv 14, Mv 16, Io (.eqs false false [1] (.t 60) (.t 61))] [Gf 55 (Pf 59 62 63), Pk 55 63 64, Mv 64 46])))))
 (Ct 46 (Rs (sq 65 [Mv 13, Mv 14] (sq 8 [Mv 65, Mv 66, Kb true] []))
 .ret)
 (Rs [Mv 14 68, Mv 68 67]
 (Ct 67 (Rs (Mv 13 69 :: (sq 8 [Mv 69, Kb true, Kb false] []))
 .ret)
 .skip)))))))
 (Rs (Mv 15 70 :: (sq 8 [Mv 70, Kb true, Kb false] []))
 .ret)))))), lcF []⟩
def ks_gf9 : List (List (Option Nat)) := [[none], [none], [none]]
def gf_gf9 (a0 : (List Tag)) (a1 : (List Tag)) (a2 : (List Tag)) (a3 : Str) : Option (Str × Bool × Bool) := (gf_fl9 a0 a3).bind fun x1 => (gf_fl9 a1 a3).bind fun x3 => (gf_fl9 a2 a3).bind fun x5 => ((if (seq x3.1 x1.1) = true then (if (x3.2 == x1.2) = true then (some (.inl (x5.1, x5.2, true))) else (if (seq x5.1 x1.1) = true then (if (x5.2 == x1.2) = true then (some (.inl (x3.1, x3.2, true))) else (if (seq x3.1 x5.1) = true then (if (x3.2 == x5.2) = true then (some (.inl (x3.1, x3.2, true))) else (if x3.2 = true then (some (.inl (x3.1, true, false))) else (some (.inr ())))) else (if x3.2 = true then (some (.inl (x3.1, true, false))) else (some (.inr ()))))) else (if (seq x3.1 x5.1) = true then (if (x3.2 == x5.2) = true then (some (.inl (x3.1, x3.2, true))) else (if x3.2 = true then (some (.inl (x3.1, true, false))) else (some (.inr ())))) else (if x3.2 = true then (some (.inl (x3.1, true, false))) else (some (.inr ())))))) else (if (seq x5.1 x1.1) = true then (if (x5.2 == x1.2) = true then (some (.inl (x3.1, x3.2, true))) else (if (seq x3.1 x5.1) = true then (if (x3.2 == x5.2) = true then (some (.inl (x3.1, x3.2, true))) else (if x3.2 = true then (some (.inl (x3.1, true, false))) else (some (.inr ())))) else (if x3.2 = true then (some (.inl (x3.1, true, false))) else (some (.inr ()))))) else (if (seq x3.1 x5.1) = true then (if (x3.2 == x5.2) = true then (some (.inl (x3.1, x3.2, true))) else (if x3.2 = true then (some (.inl (x3.1, true, false))) else (some (.inr ())))) else (if x3.2 = true then (some (.inl (x3.1, true, false))) else (some (.inr ()))))) : Option ((Str × Bool × Bool) ⊕ Unit))).bind fun q => match q with | .inl r => some r | .inr q7 => some (x5.1, true, false)
def c_gf9 : Con := ⟨(List Tag) × (List Tag) × (List Tag) × Str, (Str × Bool × Bool), 51, fun a => [.ro (List.map eTag a.1), .ro (List.map eTag a.2.1), .ro (List.map eTag a.2.2.1), .v (.string a.2.2.2)], fun a => gf_gf9 a.1 a.2.1 a.2.2.1 a.2.2.2, fun a r => ⟨[(false, [.v (.string r.1)]), (false, [.v (.bool r.2.1)]), (false, [.v (.bool r.2.2)])], []⟩, fun a => []⟩
def if_ft9 : IFn := ⟨18, [.inr (4, 4), .inl 5],
 (Rs (sq 4 [Io (.alloc 100 [.v (.string ⟨#[]⟩), .v (.int .i64 0), .sl true 66 [], .sl true 82 []]), Kb false] [])
 (Rs (sq 7 [Mv 0, Mv 1, Ca 39 [7, 8]] [Mv 9 6])
 (.seq (Rs (sq 10 [Mv 6, Bk .lss 10 0] [])
 (Ct 11 (Rs [Io (.build [.v (.string ⟨#[]⟩), .v (.int .i64 0), .nil, .nil] []) 12, Sv [none, none, some 66, some 82] 4 12, Kb false 5]
 .ret)
 .skip))
 (Rs (sq 13 [Mv 0, Mv 6, Ia 4 13 14, La 4 15, Ca 30 [16]] [Sv [none, none, some 66, some 82] 4 17, Kb true 5])
 .ret)))), lcF []⟩
def ks_ft9 : List (List (Option Nat)) := [[none, none, some 66, some 82], [none]]
def gf_ft9 (a0 : (List Feat)) (a1 : Str) : Option (Feat × Bool) := (gf_fq9 a0 a1).bind fun x2 => if (decide (x2 < 0)) = true then (some ((⟨(⟨#[]⟩ : Str), ⟨0, []⟩, []⟩ : Feat), false)) else ((idx a0 x2).bind fun x4 => (gf_fk9 x4).bind fun x6 => some (x6, true))
def c_ft9 : Con := ⟨(List Feat) × Str, (Feat × Bool), 52, fun a => [.ro (List.map (eFeat false) a.1), .v (.string a.2)], fun a => gf_ft9 a.1 a.2, fun a r => ⟨[(true, eFeat true r.1), (false, [.v (.bool r.2)])], []⟩, fun a => []⟩
def if_fz9 : IFn := ⟨96, [.inr (6, 4), .inl 7],
 (Rs (sq 3 [Io (.box 100 [none, none, some 66, some 82] (.t 0)), Io (.box 100 [none, none, some 66, some 82] (.t 1)), Io (.box 100 [none, none, some 66, some 82] (.t 2)), Io (.alloc 100 [.v (.string ⟨#[]⟩), .v (.int .i64 0), .sl true 66 [], .sl true 82 []]), Io (.mv (.c (.slice none 0 0)))] [])
 (Rs [Io (.lit 49 [none] [.v (.string ⟨#[]⟩)] 0 []) 17, Mv 17 8]
 (seqC (.reg (sq 19 [Fa 1 3, La 2 19, Fa 1 4, La 2 21, Fa 1 5, La 2 23, Ca 49 [20, 22, 24]] (Mv 25 18 :: (sq 26 [Xt 18 0, Xt 18 1] [Io (.alloc 226 [.v (.int .i64 0), .sl true 66 []]) 9, Sv [none, some 66] 9 26, Mv 27 10]))))
 (seqC (Rs (sq 28 [Mv 10, Nt 28] [])
 (Ct 29 (.reg (sq 30 [Mv 8, Io (.lit 49 [none] [.v (.string ⟨#[]⟩)] 1 [(0, .c (.string ⟨#[115, 104, 97, 112, 101]⟩))]), Io (.app 49 true (.t 30) (.t 31))] [Mv 32 8]))
 .skip))
 (.seq (.drw (sq 33 [Fa 0 4, Ld 1 33, La 2 9, Ca 29 [35], Io (.build [.v (.string ⟨#[]⟩), .v (.int .i64 0), .nil, .nil] [(0, 1, .t 34), (1, 2, .t 36)])] [Io (.alloc 100 [.v (.string ⟨#[]⟩), .v (.int .i64 0), .sl true 66 [], .sl true 82 []]) 11, Sv [none, none, some 66, some 82] 11 37]) [(1, 2), (1, 3), (1, 5), (2, 5), (3, 5)])
 (Rs (sq 38 [Fa 3 3, Ld 1 38, Fa 3 4, Ld 1 40, Fa 3 5, Ld 1 42, Ca 50 [39, 41, 43]] [Mv 44 12])
 (.seq (Rs [Ki 0 13]
 (blkC 0 (.loop (.seq (Rs (sq 45 [Mv 13, Mv 12, Ln 46, Bb .lss 45 47] [])
 (Ct 48 .skip
 (.exit 0)))
 (.seq (.block 1 (.seq (.drw (sq 52 [Fa 3 3, Ld 1 52, Fa 3 4, Ld 1 54, Fa 3 5, Ld 1 56, Mv 12, Mv 13, Ia 1 58 59, Ld 1 60, Ca 51 [53, 55, 57, 61]] (Mv 62 51 :: (sq 63 [Xt 51 0, Xt 51 1, Xt 51 2] (sq 14 [Mv 63, Mv 64, Mv 65] [])))) [(1, 3), (1, 5), (3, 5), (1, 9), (3, 9), (5, 9)])
 (.seq (Rs (sq 66 [Mv 16, Nt 66] [])
 (Ct 67 (.reg (sq 68 [Mv 8, Mv 12, Mv 13, Ia 1 69 70, Ld 1 71, Io (.bin .add (.c (.string ⟨#[116, 97, 103, 32]⟩)) (.t 72)), Io (.lit 49 [none] [.v (.string ⟨#[]⟩)] 1 [(0, .t 73)]), Io (.app 49 true (.t 68) (.t 74))] [Mv 75 8]))
 .skip))
 (Rs [Mv 15 76]
 (Ct 76 (.drw (sq 77 [Fa 3 11, Ld 1 77, Mv 12, Mv 13, Ia 1 79 80, Ld 1 81, Mv 14, Io (.build [.v (.string ⟨#[]⟩), .v (.string ⟨#[]⟩)] [(0, 1, .t 82), (1, 1, .t 83)]), Io (.lit 82 [none, none] [.v (.string ⟨#[]⟩), .v (.string ⟨#[]⟩)] 1 [(0, .t 84)]), Io (.app 82 true (.t 78) (.t 85)), Fa 3 11] [Sv [some 82] 87 86]) [(1, 5), (1, 8)])
 .skip)))))
 (.reg (sq 49 [Mv 13, Bk .add 49 1] [Mv 50 13])))))))
 (.seq (Rs (sq 88 [La 4 11, Ca 17 [88], Nt 89] [])
 (Ct 90 (Rs (sq 91 [La 4 4, Ca 30 [91], Io (.lit 49 [none] [.v (.string ⟨#[]⟩)] 1 [(0, .c (.string ⟨#[109, 117, 99, 104]⟩))])] [Sv [none, none, some 66, some 82] 6 92, Mv 93 7])
 .ret)
 .skip))
 (Rs (sq 94 [La 4 11, Mv 8] [Sv [none, none, some 66, some 82] 6 94, Mv 95 7])
 .ret))))))))), lcF []⟩
def ks_fz9 : List (List (Option Nat)) := [[none, none, some 66, some 82], [some 49]]
def gl_fz9_1 (a0 : Feat) (a1 : Feat) (a2 : Feat) : List Str → Nat → (List Str) → (List Tag) → Option ((List Str) × (List Tag))
 | [], k106, v99, v102 => some (v99, v102)
 | x107 :: l108, k106, v99, v102 => (gf_gf9 a0.tags a1.tags a2.tags x107).bind fun x115 => if (!x115.2.2) = true then ((cat (⟨#[116, 97, 103, 32]⟩ : Str) x107).bind fun x117 => if fits (v99 ++ ([x117] : (List Str))).length = true then if x115.2.1 = true then (if fits (v102 ++ ([(⟨x107, x115.1⟩ : Tag)] : (List Tag))).length = true then gl_fz9_1 a0 a1 a2 l108 (k106 + 1) (v99 ++ ([x117] : (List Str))) (v102 ++ ([(⟨x107, x115.1⟩ : Tag)] : (List Tag))) else none) else (gl_fz9_1 a0 a1 a2 l108 (k106 + 1) (v99 ++ ([x117] : (List Str))) v102) else none) else (if x115.2.1 = true then (if fits (v102 ++ ([(⟨x107, x115.1⟩ : Tag)] : (List Tag))).length = true then gl_fz9_1 a0 a1 a2 l108 (k106 + 1) v99 (v102 ++ ([(⟨x107, x115.1⟩ : Tag)] : (List Tag))) else none) else (gl_fz9_1 a0 a1 a2 l108 (k106 + 1) v99 v102))
def gf_fz9 (a0 : Feat) (a1 : Feat) (a2 : Feat) : Option (Feat × (List Str)) := (((gf_ge9 a0.shape a1.shape a2.shape).bind fun x7 => some (x7.2, x7.1.kind, x7.1.pts) : Option (Bool × Int × (List Pt)))).bind fun q6 => ((if (!q6.1) = true then (if fits ([] ++ ([(⟨#[115, 104, 97, 112, 101]⟩ : Str)] : (List Str))).length = true then some ([] ++ ([(⟨#[115, 104, 97, 112, 101]⟩ : Str)] : (List Str))) else none) else (some []) : Option (List Str))).bind fun q18 => (gf_ff9 (⟨q6.2.1, q6.2.2⟩ : Shape)).bind fun x26 => (gf_gc9 a0.tags a1.tags a2.tags).bind fun x31 => if fits x31.length = true then ((gl_fz9_1 a0 a1 a2 x31 0 q18 []).bind fun q97 => (gf_es9 (⟨a1.id, x26, q97.2⟩ : Feat)).bind fun x138 => if (!x138) = true then ((gf_fk9 a1).bind fun x140 => some (x140, ([(⟨#[109, 117, 99, 104]⟩ : Str)] : (List Str)))) else (some ((⟨a1.id, x26, q97.2⟩ : Feat), q97.1))) else none
def c_fz9 : Con := ⟨Feat × Feat × Feat, (Feat × (List Str)), 53, fun a => [.agg [.v (.string a.1.id), .v (.int .i64 a.1.shape.kind), .ro (List.map ePt a.1.shape.pts), .ro (List.map eTag a.1.tags)], .agg [.v (.string a.2.1.id), .v (.int .i64 a.2.1.shape.kind), .ro (List.map ePt a.2.1.shape.pts), .ro (List.map eTag a.2.1.tags)], .agg [.v (.string a.2.2.id), .v (.int .i64 a.2.2.shape.kind), .ro (List.map ePt a.2.2.shape.pts), .ro (List.map eTag a.2.2.tags)]], fun a => gf_fz9 a.1 a.2.1 a.2.2, fun a r => ⟨[(true, eFeat true r.1), (false, [sl true 49 (List.map eStr r.2)])], []⟩, fun a => []⟩
def if_ga9 : IFn := ⟨25, [.inl 6],
 (Rs [Io (.mv (.c (.slice none 0 0))) 6]
 (Rs [Mv 0 9, Mv 9 7]
 (.seq (Rs [Ki 0 8]
 (blkC 0 (.loop (.seq (Rs (sq 10 [Mv 8, Mv 1, Ln 11, Bb .lss 10 12] [])
 (Ct 13 .skip
 (.exit 0)))
 (.seq (.block 1 (.reg (sq 16 [Mv 7, Mv 1, Mv 8, Ia 4 17 18, La 4 19, Io (.frz (.call 37 [(false, .t 16), (false, .t 20)]))] [Mv 21 7])))
 (.reg (sq 14 [Mv 8, Bk .add 14 1] [Mv 15 8])))))))
 (Rs (sq 22 [Mv 7, Mv 2, Ca 38 [22, 23]] [Mv 24 6])
 .ret)))), lcF []⟩
def ks_ga9 : List (List (Option Nat)) := [[some 49]]
def gl_ga9_1 : List Feat → Nat → (List Feat) → Option (List Feat)
 | [], k24, v22 => some v22
 | x25 :: l26, k24, v22 => (gf_fr9 v22 x25).bind fun x33 => gl_ga9_1 l26 (k24 + 1) x33
def gf_ga9 (a0 : (List Feat)) (a1 : (List Feat)) (a2 : (List Feat)) : Option (List Str) := if fits a1.length = true then ((gl_ga9_1 a1 0 a0).bind fun q21 => (gf_fs9 q21 a2).bind fun x38 => some (x38)) else none
def c_ga9 : Con := ⟨(List Feat) × (List Feat) × (List Feat), (List Str), 54, fun a => [.ro (List.map (eFeat false) a.1), .ro (List.map (eFeat false) a.2.1), .ro (List.map (eFeat false) a.2.2)], fun a => gf_ga9 a.1 a.2.1 a.2.2, fun a r => ⟨[(false, [sl true 49 (List.map eStr r)])], []⟩, fun a => []⟩
def if_gd9 : IFn := ⟨97, [.inr (8, 4), .inl 9, .inl 10],
 (Rs (sq 8 [Io (.alloc 100 [.v (.string ⟨#[]⟩), .v (.int .i64 0), .sl true 66 [], .sl true 82 []]), Kb false, Io (.mv (.c (.slice none 0 0)))] [])
 (Rs (sq 21 [Mv 0, Mv 3, Ca 52 [21, 22]] (Mv 23 20 :: (sq 24 [Xt 20 0, Xt 20 1] [Io (.alloc 100 [.v (.string ⟨#[]⟩), .v (.int .i64 0), .sl true 66 [], .sl true 82 []]) 11, Sv [none, none, some 66, some 82] 11 24, Mv 25 12])))
 (seqC (.reg (sq 27 [Mv 1, Mv 3, Ca 52 [27, 28]] (Mv 29 26 :: (sq 30 [Xt 26 0, Xt 26 1] [Io (.alloc 100 [.v (.string ⟨#[]⟩), .v (.int .i64 0), .sl true 66 [], .sl true 82 []]) 13, Sv [none, none, some 66, some 82] 13 30, Mv 31 14]))))
 (Rs (sq 33 [Mv 2, Mv 3, Ca 52 [33, 34]] (Mv 35 32 :: (sq 36 [Xt 32 0, Xt 32 1] [Io (.alloc 100 [.v (.string ⟨#[]⟩), .v (.int .i64 0), .sl true 66 [], .sl true 82 []]) 15, Sv [none, none, some 66, some 82] 15 36, Mv 37 16])))
 (Rs [Io (.lit 49 [none] [.v (.string ⟨#[]⟩)] 0 []) 38, Mv 38 17]
 (seqC (.block 0 (Rs (sq 40 [Mv 14, Mv 12, Io (.eqs false false [1] (.t 40) (.t 41)), Mv 42] (Sg 43 44 [La 4 13, La 4 11, Ca 21 [44, 45]] [Pf 43 46 47, Mv 47 39]))
 (Ct 39 (Rs (sq 48 [La 4 15, Mv 16, Mv 17] (Sv [none, none, some 66, some 82] 8 48 :: (sq 9 [Mv 49, Mv 50] [])))
 .ret)
 (seqC (.reg (sq 52 [Mv 16, Mv 12, Io (.eqs false false [1] (.t 52) (.t 53)), Mv 54] (Sg 55 56 [La 4 15, La 4 11, Ca 21 [56, 57]] (sq 59 [Pf 55 58, Mv 59] (Sf 60 61 [Mv 14, Mv 16, Io (.eqs false false [1] (.t 61) (.t 62)), Mv 63] (Sg 64 65 [La 4 13, La 4 15, Ca 21 [65, 66]] [Gf 60 (Pf 64 67 68), Pk 60 68 69, Mv 69 51]))))))
 (Ct 51 (Rs (sq 70 [La 4 13, Mv 14, Mv 17] (Sv [none, none, some 66, some 82] 8 70 :: (sq 9 [Mv 71, Mv 72] [])))
 .ret)
 (Rs (sq 74 [Mv 14, Nt 74] [Mv 75 73])
 (Ct 73 (Rs (sq 76 [La 4 15, Io (.lit 49 [none] [.v (.string ⟨#[]⟩)] 1 [(0, .c (.string ⟨#[103, 111, 110, 101]⟩))])] (Sv [none, none, some 66, some 82] 8 76 :: (sq 9 [Kb true, Mv 77] [])))
 .ret)
 (Rs (sq 79 [Mv 16, Nt 79] [Mv 80 78])
 (Ct 78 (Rs (sq 81 [La 4 13, Io (.lit 49 [none] [.v (.string ⟨#[]⟩)] 1 [(0, .c (.string ⟨#[103, 111, 110, 101]⟩))])] (Sv [none, none, some 66, some 82] 8 81 :: (sq 9 [Kb true, Mv 82] [])))
 .ret)
 (Rs (sq 84 [Mv 12, Nt 84] [Mv 85 83])
 (Ct 83 (Rs (sq 86 [La 4 13, Io (.lit 49 [none] [.v (.string ⟨#[]⟩)] 1 [(0, .c (.string ⟨#[98, 111, 116, 104]⟩))])] (Sv [none, none, some 66, some 82] 8 86 :: (sq 9 [Kb true, Mv 87] [])))
 .ret)
 .skip)))))))))))
 (Rs (sq 89 [La 4 11, La 4 13, La 4 15, Ca 53 [89, 90, 91]] (Mv 92 88 :: (sq 93 [Xt 88 0, Xt 88 1] [Io (.alloc 100 [.v (.string ⟨#[]⟩), .v (.int .i64 0), .sl true 66 [], .sl true 82 []]) 18, Sv [none, none, some 66, some 82] 18 93, Mv 94 19])))
 (Rs (sq 95 [La 4 18, Mv 19] (Sv [none, none, some 66, some 82] 8 95 :: (sq 9 [Kb true, Mv 96] [])))
 .ret)))))))), lcF []⟩
def ks_gd9 : List (List (Option Nat)) := [[none, none, some 66, some 82], [none], [some 49]]
def gf_gd9 (a0 : (List Feat)) (a1 : (List Feat)) (a2 : (List Feat)) (a3 : Str) : Option (Feat × Bool × (List Str)) := (gf_ft9 a0 a3).bind fun x2 => (((gf_ft9 a1 a3).bind fun x10 => some (x10.2, x10.1.shape.pts, x10.1.tags, x10.1.id, x10.1.shape.kind) : Option (Bool × (List Pt) × (List Tag) × Str × Int))).bind fun q9 => (gf_ft9 a2 a3).bind fun x37 => ((if (q9.1 == x2.2) = true then ((gf_et9 (⟨q9.2.2.2.1, ⟨q9.2.2.2.2, q9.2.1⟩, q9.2.2.1⟩ : Feat) x2.1).bind fun x114 => if x114 = true then (some (.inl (x37.1, x37.2, ([] : (List Str))))) else (((if (x37.2 == x2.2) = true then ((gf_et9 x37.1 x2.1).bind fun x117 => if x117 = true then (some true) else (if (q9.1 == x37.2) = true then ((gf_et9 (⟨q9.2.2.2.1, ⟨q9.2.2.2.2, q9.2.1⟩, q9.2.2.1⟩ : Feat) x37.1).bind fun x119 => some x119) else (some false))) else (if (q9.1 == x37.2) = true then ((gf_et9 (⟨q9.2.2.2.1, ⟨q9.2.2.2.2, q9.2.1⟩, q9.2.2.1⟩ : Feat) x37.1).bind fun x121 => some x121) else (some false)) : Option Bool)).bind fun q116 => if q116 = true then (some (.inl ((⟨q9.2.2.2.1, ⟨q9.2.2.2.2, q9.2.1⟩, q9.2.2.1⟩ : Feat), q9.1, ([] : (List Str))))) else (if (!q9.1) = true then (some (.inl (x37.1, true, ([(⟨#[103, 111, 110, 101]⟩ : Str)] : (List Str))))) else (if (!x37.2) = true then (some (.inl ((⟨q9.2.2.2.1, ⟨q9.2.2.2.2, q9.2.1⟩, q9.2.2.1⟩ : Feat), true, ([(⟨#[103, 111, 110, 101]⟩ : Str)] : (List Str))))) else (if (!x2.2) = true then (some (.inl ((⟨q9.2.2.2.1, ⟨q9.2.2.2.2, q9.2.1⟩, q9.2.2.1⟩ : Feat), true, ([(⟨#[98, 111, 116, 104]⟩ : Str)] : (List Str))))) else (some (.inr ()))))))) else (((if (x37.2 == x2.2) = true then ((gf_et9 x37.1 x2.1).bind fun x150 => if x150 = true then (some true) else (if (q9.1 == x37.2) = true then ((gf_et9 (⟨q9.2.2.2.1, ⟨q9.2.2.2.2, q9.2.1⟩, q9.2.2.1⟩ : Feat) x37.1).bind fun x152 => some x152) else (some false))) else (if (q9.1 == x37.2) = true then ((gf_et9 (⟨q9.2.2.2.1, ⟨q9.2.2.2.2, q9.2.1⟩, q9.2.2.1⟩ : Feat) x37.1).bind fun x154 => some x154) else (some false)) : Option Bool)).bind fun q149 => if q149 = true then (some (.inl ((⟨q9.2.2.2.1, ⟨q9.2.2.2.2, q9.2.1⟩, q9.2.2.1⟩ : Feat), q9.1, ([] : (List Str))))) else (if (!q9.1) = true then (some (.inl (x37.1, true, ([(⟨#[103, 111, 110, 101]⟩ : Str)] : (List Str))))) else (if (!x37.2) = true then (some (.inl ((⟨q9.2.2.2.1, ⟨q9.2.2.2.2, q9.2.1⟩, q9.2.2.1⟩ : Feat), true, ([(⟨#[103, 111, 110, 101]⟩ : Str)] : (List Str))))) else (if (!x2.2) = true then (some (.inl ((⟨q9.2.2.2.1, ⟨q9.2.2.2.2, q9.2.1⟩, q9.2.2.1⟩ : Feat), true, ([(⟨#[98, 111, 116, 104]⟩ : Str)] : (List Str))))) else (some (.inr ())))))) : Option ((Feat × Bool × (List Str)) ⊕ Unit))).bind fun q => match q with | .inl r => some r | .inr q113 => (gf_fz9 x2.1 (⟨q9.2.2.2.1, ⟨q9.2.2.2.2, q9.2.1⟩, q9.2.2.1⟩ : Feat) x37.1).bind fun x202 => some (x202.1, true, x202.2)
def c_gd9 : Con := ⟨(List Feat) × (List Feat) × (List Feat) × Str, (Feat × Bool × (List Str)), 55, fun a => [.ro (List.map (eFeat false) a.1), .ro (List.map (eFeat false) a.2.1), .ro (List.map (eFeat false) a.2.2.1), .v (.string a.2.2.2)], fun a => gf_gd9 a.1 a.2.1 a.2.2.1 a.2.2.2, fun a r => ⟨[(true, eFeat true r.1), (false, [.v (.bool r.2.1)]), (false, [sl true 49 (List.map eStr r.2.2)])], []⟩, fun a => []⟩
def if_gb9 : IFn := ⟨69, [.inl 6, .inl 7, .inl 8],
 (Rs (sq 6 [Io (.mv (.c (.slice none 0 0))), Io (.mv (.c (.slice none 0 0))), Kb false] [])
 (Rs [Io (.lit 100 [none, none, some 66, some 82] [.v (.string ⟨#[]⟩), .v (.int .i64 0), .sl true 66 [], .sl true 82 []] 0 []) 17, Mv 17 9]
 (Rs [Io (.lit 178 [none, none] [.v (.string ⟨#[]⟩), .v (.string ⟨#[]⟩)] 0 []) 18, Mv 18 10]
 (Rs (sq 19 [Mv 0, Mv 1, Mv 2, Ca 54 [19, 20, 21]] [Mv 22 11])
 (.seq (Rs [Ki 0 12]
 (blkC 0 (.loop (.seq (Rs (sq 23 [Mv 12, Mv 11, Ln 24, Bb .lss 23 25] [])
 (Ct 26 .skip
 (.exit 0)))
 (.seq (.block 1 (Rs (sq 30 [Mv 0, Mv 1, Mv 2, Mv 11, Mv 12, Ia 1 33 34, Ld 1 35, Ca 55 [30, 31, 32, 36]] (Mv 37 29 :: (sq 38 [Xt 29 0, Xt 29 1, Xt 29 2] (Io (.alloc 100 [.v (.string ⟨#[]⟩), .v (.int .i64 0), .sl true 66 [], .sl true 82 []]) 13 :: (Sv [none, none, some 66, some 82] 13 38 :: (sq 14 [Mv 39, Mv 40] []))))))
 (seqC (Rs [Mv 14 41]
 (Ct 41 (.reg (sq 42 [Mv 9, La 4 13, Io (.lit 100 [none, none, some 66, some 82] [.v (.string ⟨#[]⟩), .v (.int .i64 0), .sl true 66 [], .sl true 82 []] 1 [(0, .t 43)]), Io (.app 100 true (.t 42) (.t 44))] [Mv 45 9]))
 .skip))
 (Rs [Ki 0 16]
 (blkC 2 (.loop (.seq (Rs (sq 46 [Mv 16, Mv 15, Ln 47, Bb .lss 46 48] [])
 (Ct 49 .skip
 (.exit 2)))
 (.seq (.block 3 (.drw (sq 52 [Mv 10, Mv 11, Mv 12, Ia 1 53 54, Ld 1 55, Mv 15, Mv 16, Ia 1 57 58, Ld 1 59, Io (.build [.v (.string ⟨#[]⟩), .v (.string ⟨#[]⟩)] [(0, 1, .t 56), (1, 1, .t 60)]), Io (.lit 178 [none, none] [.v (.string ⟨#[]⟩), .v (.string ⟨#[]⟩)] 1 [(0, .t 61)]), Io (.app 178 true (.t 52) (.t 62))] [Mv 63 10]) [(4, 8)]))
 (.reg (sq 50 [Mv 16, Bk .add 50 1] [Mv 51 16]))))))))))
 (.reg (sq 27 [Mv 12, Bk .add 27 1] [Mv 28 12])))))))
 (Rs (sq 64 [Mv 9, Ca 31 [64], Mv 10, Mv 9, Ca 26 [67]] (sq 6 [Mv 65, Mv 66, Mv 68] []))
 .ret)))))), lcF []⟩
def ks_gb9 : List (List (Option Nat)) := [[some 100], [some 178], [none]]
def gl_gb9_5 (x221 : Str) : List Str → Nat → (List Clash) → Option (List Clash)
 | [], k277, v274 => some v274
 | x278 :: l279, k277, v274 => if fits (v274 ++ ([(⟨x221, x278⟩ : Clash)] : (List Clash))).length = true then gl_gb9_5 x221 l279 (k277 + 1) (v274 ++ ([(⟨x221, x278⟩ : Clash)] : (List Clash))) else none
def gl_gb9_4 (a0 : (List Feat)) (a1 : (List Feat)) (a2 : (List Feat)) : List Str → Nat → (List Feat) → (List Clash) → Option ((List Feat) × (List Clash))
 | [], k220, v214, v217 => some (v214, v217)
 | x221 :: l222, k220, v214, v217 => (gf_gd9 a0 a1 a2 x221).bind fun x229 => ((if x229.2.1 = true then (if fits (v214 ++ ([x229.1] : (List Feat))).length = true then some (v214 ++ ([x229.1] : (List Feat))) else none) else (some v214) : Option (List Feat))).bind fun q242 => if fits x229.2.2.length = true then ((gl_gb9_5 x221 x229.2.2 0 v217).bind fun q272 => gl_gb9_4 a0 a1 a2 l222 (k220 + 1) q242 q272) else none
def gf_gb9 (a0 : (List Feat)) (a1 : (List Feat)) (a2 : (List Feat)) : Option ((List Feat) × (List Clash) × Bool) := (gf_ga9 a0 a1 a2).bind fun x3 => if fits x3.length = true then ((gl_gb9_4 a0 a1 a2 x3 0 [] []).bind fun q212 => (gf_fp9 q212.1).bind fun x299 => (gf_fc9 q212.1).bind fun x303 => some (x299, q212.2, x303)) else none
def c_gb9 : Con := ⟨(List Feat) × (List Feat) × (List Feat), ((List Feat) × (List Clash) × Bool), 56, fun a => [.ro (List.map (eFeat false) a.1), .ro (List.map (eFeat false) a.2.1), .ro (List.map (eFeat false) a.2.2)], fun a => gf_gb9 a.1 a.2.1 a.2.2, fun a r => ⟨[(false, [sl true 100 (List.map (eFeat true) r.1)]), (false, [sl true 178 (List.map eClash r.2.1)]), (false, [.v (.bool r.2.2)])], []⟩, fun a => []⟩
def if_eu9 : IFn := ⟨18, [.inl 6],
 (Rs [Io (.box 210 [some 115, some 130] (.t 0)) 3, Ki 0 6]
 (Rs (sq 8 [La 2 3, Mv 1, Mv 2, Ca 36 [8, 9, 10]] [Mv 11 7])
 (.seq (Rs (sq 12 [Mv 7, Ln 12, Bk .eql 13 0] [])
 (Ct 14 (Rs [Ki (-1) 6]
 .ret)
 .skip))
 (Rs (sq 15 [Mv 7, Ik 1 15 0, Ld 1 16] [Mv 17 6])
 .ret)))), lcF []⟩
def ks_eu9 : List (List (Option Nat)) := [[none]]
def gf_eu9 (a0 : Repo) (a1 : Int) (a2 : Int) : Option Int := (gf_ew9 a0 a1 a2).bind fun x2 => if ((x2.length : Int) == 0) = true then (some ((-1))) else ((idx x2 0).bind fun x6 => some (x6))
def c_eu9 : Con := ⟨Repo × Int × Int, Int, 57, fun a => [.agg [.ro (List.map (eCommit false) a.1.commits), .ro (List.map eHead a.1.heads)], .v (.int .i64 a.2.1), .v (.int .i64 a.2.2)], fun a => gf_eu9 a.1 a.2.1 a.2.2, fun a r => ⟨[(false, [.v (.int .i64 r)])], []⟩, fun a => []⟩
def if_fb9 : IFn := ⟨41, [.inl 6, .inl 7, .inl 8],
 (Rs (sq 6 [Io (.mv (.c (.slice none 0 0))), Io (.mv (.c (.slice none 0 0))), Kb false] [])
 (.seq (Rs (sq 12 [Mv 0, Ca 26 [12], Nt 13, Mv 14] (Sf 15 16 [Mv 1, Ca 26 [16], Nt 17] (sq 19 [Pk 15 18, Mv 19] (Sf 20 21 [Mv 2, Ca 26 [21], Nt 22] [Pk 20 23 24]))))
 (Ct 24 (Rs (sq 25 [Io (.lit 100 [none, none, some 66, some 82] [.v (.string ⟨#[]⟩), .v (.int .i64 0), .sl true 66 [], .sl true 82 []] 0 []), Io (.lit 178 [none, none] [.v (.string ⟨#[]⟩), .v (.string ⟨#[]⟩)] 0 [])] (sq 6 [Mv 25, Mv 26, Kb false] []))
 .ret)
 .skip))
 (Rs (sq 28 [Mv 0, Mv 1, Mv 2, Ca 56 [28, 29, 30]] (Mv 31 27 :: (sq 32 [Xt 27 0, Xt 27 1, Xt 27 2] (sq 9 [Mv 32, Mv 33, Mv 34] []))))
 (.seq (Rs (sq 35 [Mv 11, Nt 35] [])
 (Ct 36 (Rs (sq 37 [Io (.lit 100 [none, none, some 66, some 82] [.v (.string ⟨#[]⟩), .v (.int .i64 0), .sl true 66 [], .sl true 82 []] 0 []), Io (.lit 178 [none, none] [.v (.string ⟨#[]⟩), .v (.string ⟨#[]⟩)] 0 [])] (sq 6 [Mv 37, Mv 38, Kb false] []))
 .ret)
 .skip))
 (Rs (sq 39 [Mv 9, Mv 10] (sq 6 [Mv 39, Mv 40, Kb true] []))
 .ret))))), lcF []⟩
def ks_fb9 : List (List (Option Nat)) := [[some 100], [some 178], [none]]
def gf_fb9 (a0 : (List Feat)) (a1 : (List Feat)) (a2 : (List Feat)) : Option ((List Feat) × (List Clash) × Bool) := (gf_fc9 a0).bind fun x1 => if (!x1) = true then (some (([] : (List Feat)), ([] : (List Clash)), false)) else ((gf_fc9 a1).bind fun x3 => if (!x3) = true then (some (([] : (List Feat)), ([] : (List Clash)), false)) else ((gf_fc9 a2).bind fun x5 => if (!x5) = true then (some (([] : (List Feat)), ([] : (List Clash)), false)) else ((gf_gb9 a0 a1 a2).bind fun x13 => if (!x13.2.2) = true then (some (([] : (List Feat)), ([] : (List Clash)), false)) else (some (x13.1, x13.2.1, true)))))
def c_fb9 : Con := ⟨(List Feat) × (List Feat) × (List Feat), ((List Feat) × (List Clash) × Bool), 58, fun a => [.ro (List.map (eFeat false) a.1), .ro (List.map (eFeat false) a.2.1), .ro (List.map (eFeat false) a.2.2)], fun a => gf_fb9 a.1 a.2.1 a.2.2, fun a r => ⟨[(false, [sl true 100 (List.map (eFeat true) r.1)]), (false, [sl true 178 (List.map eClash r.2.1)]), (false, [.v (.bool r.2.2)])], []⟩, fun a => []⟩
def if_ev9 : IFn := ⟨40, [.inl 6, .inl 7, .inl 8],
 (Rs (Io (.box 210 [some 115, some 130] (.t 0)) 3 :: (sq 6 [Io (.mv (.c (.slice none 0 0))), Io (.mv (.c (.slice none 0 0))), Kb false] []))
 (Rs (sq 10 [La 2 3, Mv 1, Mv 2, Ca 57 [10, 11, 12]] [Mv 13 9])
 (.seq (Rs (sq 14 [Mv 9, Bk .lss 14 0] [])
 (Ct 15 (Rs (sq 16 [Io (.lit 100 [none, none, some 66, some 82] [.v (.string ⟨#[]⟩), .v (.int .i64 0), .sl true 66 [], .sl true 82 []] 0 []), Io (.lit 178 [none, none] [.v (.string ⟨#[]⟩), .v (.string ⟨#[]⟩)] 0 [])] (sq 6 [Mv 16, Mv 17, Kb false] []))
 .ret)
 .skip))
 (.seq (.drw (sq 18 [Fa 0 3, Ld 1 18, Mv 9, Ia 3 19 20, Fa 1 21, Ld 1 22, Fa 0 3, Ld 1 24, Mv 1, Ia 3 25 26, Fa 1 27, Ld 1 28, Fa 0 3, Ld 1 30, Mv 2, Ia 3 31 32, Fa 1 33, Ld 1 34, Ca 58 [23, 29, 35], Xt 36 0, Xt 36 1, Xt 36 2] (sq 6 [Mv 37, Mv 38, Mv 39] [])) [(1, 7), (5, 7), (1, 11), (5, 11), (1, 13), (5, 13), (7, 13), (11, 13), (1, 17), (5, 17), (7, 17), (11, 17)])
 .ret)))), lcF []⟩
def ks_ev9 : List (List (Option Nat)) := [[some 100], [some 178], [none]]
def gf_ev9 (a0 : Repo) (a1 : Int) (a2 : Int) : Option ((List Feat) × (List Clash) × Bool) := (gf_eu9 a0 a1 a2).bind fun x2 => if (decide (x2 < 0)) = true then (some (([] : (List Feat)), ([] : (List Clash)), false)) else ((idx a0.commits x2).bind fun x6 => (idx a0.commits a1).bind fun x8 => (idx a0.commits a2).bind fun x10 => (gf_fb9 x6.sheet x8.sheet x10.sheet).bind fun x12 => some (x12.1, x12.2.1, x12.2.2))
def c_ev9 : Con := ⟨Repo × Int × Int, ((List Feat) × (List Clash) × Bool), 59, fun a => [.agg [.ro (List.map (eCommit false) a.1.commits), .ro (List.map eHead a.1.heads)], .v (.int .i64 a.2.1), .v (.int .i64 a.2.2)], fun a => gf_ev9 a.1 a.2.1 a.2.2, fun a r => ⟨[(false, [sl true 100 (List.map (eFeat true) r.1)]), (false, [sl true 178 (List.map eClash r.2.1)]), (false, [.v (.bool r.2.2)])], []⟩, fun a => []⟩
def if_dp9 : IFn := ⟨11, [.inr (2, 2)],
 (Rs (sq 1 [Io (.box 338 [none, none] (.t 0)), Io (.alloc 66 [.v (.int .i64 0), .v (.int .i64 0)])] [])
 (Rs [Io (.alloc 66 [.v (.int .i64 0), .v (.int .i64 0)]) 3]
 (Rs (sq 4 [Fa 0 1, Ld 1 4, Fa 0 3] [Sv [none] 6 5])
 (Rs (sq 7 [Fa 1 1, Ld 1 7, Fa 1 3] [Sv [none] 9 8])
 (Rs [La 2 3 10, Sv [none, none] 2 10]
 .ret))))), lcF []⟩
def ks_dp9 : List (List (Option Nat)) := [[none, none]]
def gf_dp9 (a0 : Pt) : Option Pt := some (a0)
def c_dp9 : Con := ⟨Pt, Pt, 64, fun a => [.agg [.v (.int .i64 a.x), .v (.int .i64 a.y)]], fun a => gf_dp9 a, fun a r => ⟨[(true, ePt r)], []⟩, fun a => []⟩
def if_dq9 : IFn := ⟨23, [.inl 2],
 (Rs [Io (.mv (.c (.slice none 0 0))) 2]
 (Rs (sq 5 [Mv 0, Ln 5, Io (.mks 66 [.v (.int .i64 0), .v (.int .i64 0)] (.t 6) (.t 6))] [Mv 7 3])
 (.seq (Rs [Ki 0 4]
 (blkC 0 (.loop (.seq (Rs (sq 8 [Mv 4, Mv 0, Ln 9, Bb .lss 8 10] [])
 (Ct 11 .skip
 (.exit 0)))
 (.seq (.block 1 (.reg (sq 14 [Mv 3, Mv 4, Mv 0, Mv 4, Ia 2 16 17, La 2 18, Ca 64 [19], Ia 2 14 15] [Sv [none, none] 21 20])))
 (.reg (sq 12 [Mv 4, Bk .add 12 1] [Mv 13 4])))))))
 (Rs [Mv 3 22, Mv 22 2]
 .ret)))), lcF []⟩
def ks_dq9 : List (List (Option Nat)) := [[some 66]]
def gl_dq9_1 : List Pt → Nat → (List Pt) → Option (List Pt)
 | [], k31, v28 => some v28
 | x32 :: l33, k31, v28 => (gf_dp9 x32).bind fun x40 => (idx v28 (k31 : Int)).bind fun x42 => gl_dq9_1 l33 (k31 + 1) (List.set v28 (k31 : Int).toNat x40)
def gf_dq9 (a0 : (List Pt)) : Option (List Pt) := if (decide (0 ≤ (a0.length : Int)) && fits ((a0.length : Int)).toNat) = true then if fits a0.length = true then ((gl_dq9_1 a0 0 (List.replicate ((a0.length : Int)).toNat (⟨0, 0⟩ : Pt))).bind fun q26 => some (q26)) else none else none
def c_dq9 : Con := ⟨(List Pt), (List Pt), 65, fun a => [.ro (List.map ePt a)], fun a => gf_dq9 a, fun a r => ⟨[(false, [sl true 66 (List.map ePt r)])], []⟩, fun a => []⟩
def if_dt9 : IFn := ⟨11, [.inr (2, 2)],
 (Rs (sq 1 [Io (.box 354 [none, none] (.t 0)), Io (.alloc 82 [.v (.string ⟨#[]⟩), .v (.string ⟨#[]⟩)])] [])
 (Rs [Io (.alloc 82 [.v (.string ⟨#[]⟩), .v (.string ⟨#[]⟩)]) 3]
 (Rs (sq 4 [Fa 0 1, Ld 1 4, Fa 0 3] [Sv [none] 6 5])
 (Rs (sq 7 [Fa 1 1, Ld 1 7, Fa 1 3] [Sv [none] 9 8])
 (Rs [La 2 3 10, Sv [none, none] 2 10]
 .ret))))), lcF []⟩
def ks_dt9 : List (List (Option Nat)) := [[none, none]]
def gf_dt9 (a0 : Tag) : Option Tag := some (a0)
def c_dt9 : Con := ⟨Tag, Tag, 66, fun a => [.agg [.v (.string a.key), .v (.string a.val)]], fun a => gf_dt9 a, fun a r => ⟨[(true, eTag r)], []⟩, fun a => []⟩
def if_ds9 : IFn := ⟨12, [.inr (2, 2)],
 (Rs (sq 1 [Io (.box 482 [none, some 338] (.t 0)), Io (.alloc 226 [.v (.int .i64 0), .sl true 66 []])] [])
 (Rs [Io (.alloc 226 [.v (.int .i64 0), .sl true 66 []]) 3]
 (Rs (sq 4 [Fa 0 1, Ld 1 4, Fa 0 3] [Sv [none] 6 5])
 (Rs (sq 7 [Fa 1 1, Ld 1 7, Ca 65 [8], Fa 1 3] [Sv [some 66] 10 9])
 (Rs [La 2 3 11, Sv [none, some 66] 2 11]
 .ret))))), lcF []⟩
def ks_ds9 : List (List (Option Nat)) := [[none, some 66]]
def gf_ds9 (a0 : Shape) : Option Shape := (gf_dq9 a0.pts).bind fun x4 => some ((⟨a0.kind, x4⟩ : Shape))
def c_ds9 : Con := ⟨Shape, Shape, 67, fun a => [.agg [.v (.int .i64 a.kind), .ro (List.map ePt a.pts)]], fun a => gf_ds9 a, fun a r => ⟨[(true, eShape true r)], []⟩, fun a => []⟩
def if_du9 : IFn := ⟨23, [.inl 2],
 (Rs [Io (.mv (.c (.slice none 0 0))) 2]
 (Rs (sq 5 [Mv 0, Ln 5, Io (.mks 82 [.v (.string ⟨#[]⟩), .v (.string ⟨#[]⟩)] (.t 6) (.t 6))] [Mv 7 3])
 (.seq (Rs [Ki 0 4]
 (blkC 0 (.loop (.seq (Rs (sq 8 [Mv 4, Mv 0, Ln 9, Bb .lss 8 10] [])
 (Ct 11 .skip
 (.exit 0)))
 (.seq (.block 1 (.reg (sq 14 [Mv 3, Mv 4, Mv 0, Mv 4, Ia 2 16 17, La 2 18, Ca 66 [19], Ia 2 14 15] [Sv [none, none] 21 20])))
 (.reg (sq 12 [Mv 4, Bk .add 12 1] [Mv 13 4])))))))
 (Rs [Mv 3 22, Mv 22 2]
 .ret)))), lcF []⟩
def ks_du9 : List (List (Option Nat)) := [[some 82]]
def gl_du9_1 : List Tag → Nat → (List Tag) → Option (List Tag)
 | [], k31, v28 => some v28
 | x32 :: l33, k31, v28 => (gf_dt9 x32).bind fun x40 => (idx v28 (k31 : Int)).bind fun x42 => gl_du9_1 l33 (k31 + 1) (List.set v28 (k31 : Int).toNat x40)
def gf_du9 (a0 : (List Tag)) : Option (List Tag) := if (decide (0 ≤ (a0.length : Int)) && fits ((a0.length : Int)).toNat) = true then if fits a0.length = true then ((gl_du9_1 a0 0 (List.replicate ((a0.length : Int)).toNat (⟨(⟨#[]⟩ : Str), (⟨#[]⟩ : Str)⟩ : Tag))).bind fun q26 => some (q26)) else none else none
def c_du9 : Con := ⟨(List Tag), (List Tag), 68, fun a => [.ro (List.map eTag a)], fun a => gf_du9 a, fun a r => ⟨[(false, [sl true 82 (List.map eTag r)])], []⟩, fun a => []⟩
def if_dk9 : IFn := ⟨16, [.inr (2, 4)],
 (Rs (sq 1 [Io (.box 372 [none, none, some 338, some 354] (.t 0)), Io (.alloc 100 [.v (.string ⟨#[]⟩), .v (.int .i64 0), .sl true 66 [], .sl true 82 []])] [])
 (Rs [Io (.alloc 100 [.v (.string ⟨#[]⟩), .v (.int .i64 0), .sl true 66 [], .sl true 82 []]) 3]
 (Rs (sq 4 [Fa 0 1, Ld 1 4, Fa 0 3] [Sv [none] 6 5])
 (seqC (.reg (sq 7 [Fa 1 1, La 2 7, Ca 67 [8], Fa 1 3] [Sv [none, some 66] 10 9]))
 (Rs (sq 11 [Fa 3 1, Ld 1 11, Ca 68 [12], Fa 3 3] [Sv [some 82] 14 13])
 (Rs [La 4 3 15, Sv [none, none, some 66, some 82] 2 15]
 .ret)))))), lcF []⟩
def ks_dk9 : List (List (Option Nat)) := [[none, none, some 66, some 82]]
def gf_dk9 (a0 : Feat) : Option Feat := (((gf_ds9 a0.shape).bind fun x5 => some (x5.pts, x5.kind) : Option ((List Pt) × Int))).bind fun q4 => (gf_du9 a0.tags).bind fun x14 => some ((⟨a0.id, ⟨q4.2, q4.1⟩, x14⟩ : Feat))
def c_dk9 : Con := ⟨Feat, Feat, 69, fun a => [.agg [.v (.string a.id), .v (.int .i64 a.shape.kind), .ro (List.map ePt a.shape.pts), .ro (List.map eTag a.tags)]], fun a => gf_dk9 a, fun a r => ⟨[(true, eFeat true r)], []⟩, fun a => []⟩
def if_do9 : IFn := ⟨22, [.inl 2],
 (Rs [Io (.mv (.c (.slice none 0 0))) 2]
 (Rs (sq 5 [Mv 0, Ln 5, Io (.mks 17 [.v (.int .i64 0)] (.t 6) (.t 6))] [Mv 7 3])
 (.seq (Rs [Ki 0 4]
 (blkC 0 (.loop (.seq (Rs (sq 8 [Mv 4, Mv 0, Ln 9, Bb .lss 8 10] [])
 (Ct 11 .skip
 (.exit 0)))
 (.seq (.block 1 (.reg (sq 14 [Mv 3, Mv 4, Mv 0, Mv 4, Ia 1 16 17, Ld 1 18, Ia 1 14 15] [Sv [none] 20 19])))
 (.reg (sq 12 [Mv 4, Bk .add 12 1] [Mv 13 4])))))))
 (Rs [Mv 3 21, Mv 21 2]
 .ret)))), lcF []⟩
def ks_do9 : List (List (Option Nat)) := [[some 17]]
def gl_do9_1 : List Int → Nat → (List Int) → Option (List Int)
 | [], k25, v22 => some v22
 | x26 :: l27, k25, v22 => (idx v22 (k25 : Int)).bind fun x34 => gl_do9_1 l27 (k25 + 1) (List.set v22 (k25 : Int).toNat x26)
def gf_do9 (a0 : (List Int)) : Option (List Int) := if (decide (0 ≤ (a0.length : Int)) && fits ((a0.length : Int)).toNat) = true then if fits a0.length = true then ((gl_do9_1 a0 0 (List.replicate ((a0.length : Int)).toNat 0)).bind fun q20 => some (q20)) else none else none
def c_do9 : Con := ⟨(List Int), (List Int), 70, fun a => [.ro (List.map eInt a)], fun a => gf_do9 a, fun a r => ⟨[(false, [sl true 17 (List.map eInt r)])], []⟩, fun a => []⟩
def if_dl9 : IFn := ⟨23, [.inl 2],
 (Rs [Io (.mv (.c (.slice none 0 0))) 2]
 (Rs (sq 5 [Mv 0, Ln 5, Io (.mks 100 [.v (.string ⟨#[]⟩), .v (.int .i64 0), .sl true 66 [], .sl true 82 []] (.t 6) (.t 6))] [Mv 7 3])
 (.seq (Rs [Ki 0 4]
 (blkC 0 (.loop (.seq (Rs (sq 8 [Mv 4, Mv 0, Ln 9, Bb .lss 8 10] [])
 (Ct 11 .skip
 (.exit 0)))
 (.seq (.block 1 (.reg (sq 14 [Mv 3, Mv 4, Mv 0, Mv 4, Ia 4 16 17, La 4 18, Ca 69 [19], Ia 4 14 15] [Sv [none, none, some 66, some 82] 21 20])))
 (.reg (sq 12 [Mv 4, Bk .add 12 1] [Mv 13 4])))))))
 (Rs [Mv 3 22, Mv 22 2]
 .ret)))), lcF []⟩
def ks_dl9 : List (List (Option Nat)) := [[some 100]]
def gl_dl9_1 : List Feat → Nat → (List Feat) → Option (List Feat)
 | [], k43, v40 => some v40
 | x44 :: l45, k43, v40 => (gf_dk9 x44).bind fun x52 => (idx v40 (k43 : Int)).bind fun x58 => gl_dl9_1 l45 (k43 + 1) (List.set v40 (k43 : Int).toNat x52)
def gf_dl9 (a0 : (List Feat)) : Option (List Feat) := if (decide (0 ≤ (a0.length : Int)) && fits ((a0.length : Int)).toNat) = true then if fits a0.length = true then ((gl_dl9_1 a0 0 (List.replicate ((a0.length : Int)).toNat (⟨(⟨#[]⟩ : Str), ⟨0, []⟩, []⟩ : Feat))).bind fun q38 => some (q38)) else none else none
def c_dl9 : Con := ⟨(List Feat), (List Feat), 71, fun a => [.ro (List.map (eFeat false) a)], fun a => gf_dl9 a, fun a r => ⟨[(false, [sl true 100 (List.map (eFeat true) r)])], []⟩, fun a => []⟩
def if_di9 : IFn := ⟨16, [.inr (2, 3)],
 (Rs (sq 1 [Io (.box 387 [some 17, some 372, none] (.t 0)), Io (.alloc 115 [.sl true 17 [], .sl true 100 [], .v (.string ⟨#[]⟩)])] [])
 (Rs [Io (.alloc 115 [.sl true 17 [], .sl true 100 [], .v (.string ⟨#[]⟩)]) 3]
 (seqC (.reg (sq 4 [Fa 0 1, Ld 1 4, Ca 70 [5], Fa 0 3] [Sv [some 17] 7 6]))
 (Rs (sq 8 [Fa 1 1, Ld 1 8, Ca 71 [9], Fa 1 3] [Sv [some 100] 11 10])
 (Rs (sq 12 [Fa 2 1, Ld 1 12, Fa 2 3] [Sv [none] 14 13])
 (Rs [La 3 3 15, Sv [some 17, some 100, none] 2 15]
 .ret)))))), lcF []⟩
def ks_di9 : List (List (Option Nat)) := [[some 17, some 100, none]]
def gf_di9 (a0 : Commit) : Option Commit := (((gf_do9 a0.up).bind fun x5 => some x5 : Option (List Int))).bind fun q4 => (gf_dl9 a0.sheet).bind fun x13 => some ((⟨q4, x13, a0.note⟩ : Commit))
def c_di9 : Con := ⟨Commit, Commit, 72, fun a => [.agg [.ro (List.map eInt a.up), .ro (List.map (eFeat false) a.sheet), .v (.string a.note)]], fun a => gf_di9 a, fun a r => ⟨[(true, eCommit true r)], []⟩, fun a => []⟩
def if_dm9 : IFn := ⟨11, [.inr (2, 2)],
 (Rs (sq 1 [Io (.box 402 [none, none] (.t 0)), Io (.alloc 130 [.v (.string ⟨#[]⟩), .v (.int .i64 0)])] [])
 (Rs [Io (.alloc 130 [.v (.string ⟨#[]⟩), .v (.int .i64 0)]) 3]
 (Rs (sq 4 [Fa 0 1, Ld 1 4, Fa 0 3] [Sv [none] 6 5])
 (Rs (sq 7 [Fa 1 1, Ld 1 7, Fa 1 3] [Sv [none] 9 8])
 (Rs [La 2 3 10, Sv [none, none] 2 10]
 .ret))))), lcF []⟩
def ks_dm9 : List (List (Option Nat)) := [[none, none]]
def gf_dm9 (a0 : Head) : Option Head := some (a0)
def c_dm9 : Con := ⟨Head, Head, 73, fun a => [.agg [.v (.string a.name), .v (.int .i64 a.at_)]], fun a => gf_dm9 a, fun a r => ⟨[(true, eHead r)], []⟩, fun a => []⟩
def if_dj9 : IFn := ⟨23, [.inl 2],
 (Rs [Io (.mv (.c (.slice none 0 0))) 2]
 (Rs (sq 5 [Mv 0, Ln 5, Io (.mks 115 [.sl true 17 [], .sl true 100 [], .v (.string ⟨#[]⟩)] (.t 6) (.t 6))] [Mv 7 3])
 (.seq (Rs [Ki 0 4]
 (blkC 0 (.loop (.seq (Rs (sq 8 [Mv 4, Mv 0, Ln 9, Bb .lss 8 10] [])
 (Ct 11 .skip
 (.exit 0)))
 (.seq (.block 1 (.reg (sq 14 [Mv 3, Mv 4, Mv 0, Mv 4, Ia 3 16 17, La 3 18, Ca 72 [19], Ia 3 14 15] [Sv [some 17, some 100, none] 21 20])))
 (.reg (sq 12 [Mv 4, Bk .add 12 1] [Mv 13 4])))))))
 (Rs [Mv 3 22, Mv 22 2]
 .ret)))), lcF []⟩
def ks_dj9 : List (List (Option Nat)) := [[some 115]]
def gl_dj9_1 : List Commit → Nat → (List Commit) → Option (List Commit)
 | [], k43, v40 => some v40
 | x44 :: l45, k43, v40 => (gf_di9 x44).bind fun x52 => (idx v40 (k43 : Int)).bind fun x58 => gl_dj9_1 l45 (k43 + 1) (List.set v40 (k43 : Int).toNat x52)
def gf_dj9 (a0 : (List Commit)) : Option (List Commit) := if (decide (0 ≤ (a0.length : Int)) && fits ((a0.length : Int)).toNat) = true then if fits a0.length = true then ((gl_dj9_1 a0 0 (List.replicate ((a0.length : Int)).toNat (⟨[], [], (⟨#[]⟩ : Str)⟩ : Commit))).bind fun q38 => some (q38)) else none else none
def c_dj9 : Con := ⟨(List Commit), (List Commit), 74, fun a => [.ro (List.map (eCommit false) a)], fun a => gf_dj9 a, fun a r => ⟨[(false, [sl true 115 (List.map (eCommit true) r)])], []⟩, fun a => []⟩
def if_dn9 : IFn := ⟨23, [.inl 2],
 (Rs [Io (.mv (.c (.slice none 0 0))) 2]
 (Rs (sq 5 [Mv 0, Ln 5, Io (.mks 130 [.v (.string ⟨#[]⟩), .v (.int .i64 0)] (.t 6) (.t 6))] [Mv 7 3])
 (.seq (Rs [Ki 0 4]
 (blkC 0 (.loop (.seq (Rs (sq 8 [Mv 4, Mv 0, Ln 9, Bb .lss 8 10] [])
 (Ct 11 .skip
 (.exit 0)))
 (.seq (.block 1 (.reg (sq 14 [Mv 3, Mv 4, Mv 0, Mv 4, Ia 2 16 17, La 2 18, Ca 73 [19], Ia 2 14 15] [Sv [none, none] 21 20])))
 (.reg (sq 12 [Mv 4, Bk .add 12 1] [Mv 13 4])))))))
 (Rs [Mv 3 22, Mv 22 2]
 .ret)))), lcF []⟩
def ks_dn9 : List (List (Option Nat)) := [[some 130]]
def gl_dn9_1 : List Head → Nat → (List Head) → Option (List Head)
 | [], k31, v28 => some v28
 | x32 :: l33, k31, v28 => (gf_dm9 x32).bind fun x40 => (idx v28 (k31 : Int)).bind fun x42 => gl_dn9_1 l33 (k31 + 1) (List.set v28 (k31 : Int).toNat x40)
def gf_dn9 (a0 : (List Head)) : Option (List Head) := if (decide (0 ≤ (a0.length : Int)) && fits ((a0.length : Int)).toNat) = true then if fits a0.length = true then ((gl_dn9_1 a0 0 (List.replicate ((a0.length : Int)).toNat (⟨(⟨#[]⟩ : Str), 0⟩ : Head))).bind fun q26 => some (q26)) else none else none
def c_dn9 : Con := ⟨(List Head), (List Head), 75, fun a => [.ro (List.map eHead a)], fun a => gf_dn9 a, fun a r => ⟨[(false, [sl true 130 (List.map eHead r)])], []⟩, fun a => []⟩
def if_bs9 : IFn := ⟨15, [.inl 6],
 (Rs [Kb false 6]
 (Rs (sq 7 [Mv 0, Mv 1, Bb .geq 7 8, Mv 9] (Sg 10 11 [Mv 0, Mv 2, Bb .leq 11 12] [Pf 10 13 14, Mv 14 6]))
 .ret)), lcF []⟩
def ks_bs9 : List (List (Option Nat)) := [[none]]
def gf_bs9 (a0 : Int) (a1 : Int) (a2 : Int) : Option Bool := if (decide (a0 ≥ a1)) = true then (some ((decide (a0 ≤ a2)))) else (some (false))
def c_bs9 : Con := ⟨Int × Int × Int, Bool, 76, fun a => [.v (.int .i64 a.1), .v (.int .i64 a.2.1), .v (.int .i64 a.2.2)], fun a => gf_bs9 a.1 a.2.1 a.2.2, fun a r => ⟨[(false, [.v (.bool r)])], []⟩, fun a => []⟩
def if_bm9 : IFn := ⟨11, [.inl 2],
 (Rs (sq 1 [Io (.box 66 [none, none] (.t 0)), Kb false] [])
 (Rs (sq 3 [Fa 0 1, Ld 1 3, Io (.call 76 [(false, .t 4), (false, .c (.int .i64 (-1000))), (false, .c (.int .i64 1000))]), Mv 5] (Sg 6 7 [Fa 1 1, Ld 1 7, Io (.call 76 [(false, .t 8), (false, .c (.int .i64 (-1000))), (false, .c (.int .i64 1000))])] [Pf 6 9 10, Mv 10 2]))
 .ret)), lcF []⟩
def ks_bm9 : List (List (Option Nat)) := [[none]]
def gf_bm9 (a0 : Pt) : Option Bool := (gf_bs9 a0.x (-1000) 1000).bind fun x2 => if x2 = true then ((gf_bs9 a0.y (-1000) 1000).bind fun x4 => some (x4)) else (some (false))
def c_bm9 : Con := ⟨Pt, Bool, 79, fun a => [.agg [.v (.int .i64 a.x), .v (.int .i64 a.y)]], fun a => gf_bm9 a, fun a r => ⟨[(false, [.v (.bool r)])], []⟩, fun a => []⟩
def if_ay9 : IFn := ⟨23, [.inl 2],
 (Rs [Kb false 2]
 (.seq (Rs (sq 4 [Mv 0, Ls 4, Ki 0] [])
 (blkC 0 (.loop (Rs [Bb .lss 6 5 7]
 (.seq (Ct 7 .skip
 (.exit 0))
 (.seq (.block 1 (Rs [Mv 6 8, Mv 8 3]
 (Rs (sq 9 [Mv 0, Mv 3, Si 9 10, Io (.bin .lss (.t 11) (.c (.int .u8 97))), Mv 12] (Sf 13 14 [Mv 0, Mv 3, Si 14 15, Io (.bin .gtr (.t 16) (.c (.int .u8 122)))] [Pk 13 17 18]))
 (Ct 18 (Rs [Kb false 2]
 .ret)
 .skip))))
 (.reg [Bk .add 6 1 19, Mv 19 6])))))))
 (Rs (sq 20 [Mv 0, Ls 20, Io (.call 76 [(false, .t 21), (false, .c (.int .i64 1)), (false, .c (.int .i64 6))])] [Mv 22 2])
 .ret))), lcF []⟩
def ks_ay9 : List (List (Option Nat)) := [[none]]
def gl_ay9_1 : List UInt8 → Nat → Option (Bool ⊕ Unit)
 | [], k10 => some (.inr ())
 | x11 :: l12, k10 => if (decide ((x11.toNat : Int) < 97)) = true then (some (.inl (false))) else (if (decide ((x11.toNat : Int) > 122)) = true then (some (.inl (false))) else (gl_ay9_1 l12 (k10 + 1) ))
def gf_ay9 (a0 : Str) : Option Bool := if fits a0.size = true then ((gl_ay9_1 a0.data.toList 0 ).bind fun q => match q with | .inl r => some r | .inr q8 => (gf_bs9 (a0.size : Int) 1 6).bind fun x19 => some (x19)) else none
def c_ay9 : Con := ⟨Str, Bool, 80, fun a => [.v (.string a)], fun a => gf_ay9 a, fun a r => ⟨[(false, [.v (.bool r)])], []⟩, fun a => []⟩
def if_at9 : IFn := ⟨62, [.inl 2],
 (Rs (sq 1 [Io (.box 226 [none, some 66] (.t 0)), Kb false] [])
 (.seq (Rs (sq 6 [Fa 1 1, Ld 1 6, Ln 7, Ki 0] [])
 (blkC 0 (.loop (Rs [Bb .lss 9 8 10]
 (.seq (Ct 10 .skip
 (.exit 0))
 (.seq (.block 1 (Rs (sq 11 [Mv 9, Ia 2 7 9, La 2 12] [Io (.alloc 66 [.v (.int .i64 0), .v (.int .i64 0)]) 4, Mv 11 3, Sv [none, none] 4 13])
 (.seq (.drw (sq 14 [La 2 4, Ca 79 [14], Nt 15, Mv 16] (Sf 17 18 [Mv 3, Bk .gtr 18 0, Mv 19] (Sg 20 21 [Fa 1 1, Ld 1 21, Mv 3, Bk .sub 23 1, Ia 2 22 24, La 2 25, La 2 4, Io (.eqs false true [0, 0] (.t 26) (.t 27))] [Gf 17 (Pf 20 28 29), Pk 17 29 30]))) [(8, 13), (12, 13)])
 (Ct 30 (Rs [Kb false 2]
 .ret)
 .skip))))
 (.reg [Bk .add 9 1 31, Mv 31 9])))))))
 (Rs (sq 32 [Fa 1 1, Ld 1 32, Ln 33] [Mv 34 5])
 (.seq (Rs (sq 35 [Fa 0 1, Ld 1 35] [])
 (.block 2 (Rs [Bk .eql 36 1 38, Mv 38 37]
 (Ct 37 (Rs (sq 39 [Mv 5, Bk .eql 39 1] [Mv 40 2])
 .ret)
 (Rs [Bk .eql 36 2 42, Mv 42 41]
 (Ct 41 (Rs (sq 43 [Mv 5, Io (.call 76 [(false, .t 43), (false, .c (.int .i64 2)), (false, .c (.int .i64 6))])] [Mv 44 2])
 .ret)
 (Rs [Bk .eql 36 3 46, Mv 46 45]
 (Ct 45 (.seq (.drw (sq 47 [Mv 5, Io (.call 76 [(false, .t 47), (false, .c (.int .i64 3)), (false, .c (.int .i64 6))]), Mv 48] (Sg 49 50 [Fa 1 1, Ld 1 50, Ik 2 51 0, La 2 52, Fa 1 1, Ld 1 54, Mv 5, Bk .sub 56 1, Ia 2 55 57, La 2 58, Io (.eqs true true [0, 0] (.t 53) (.t 59))] [Pf 49 60 61, Mv 61 2])) [(4, 8), (6, 8), (4, 12), (6, 12)])
 .ret)
 .skip))))))))
 (Rs [Kb false 2]
 .ret))))), lcF []⟩
def ks_at9 : List (List (Option Nat)) := [[none]]
def gl_at9_1 (a0 : Shape) : List Pt → Nat → Option (Bool ⊕ Unit)
 | [], k24 => some (.inr ())
 | x25 :: l26, k24 => (gf_bm9 x25).bind fun x34 => if (!x34) = true then (some (.inl (false))) else (if (decide ((k24 : Int) > 0)) = true then ((idx a0.pts (IntKind.i64.wrap ((k24 : Int) - 1))).bind fun x36 => if ((x36.x == x25.x) && ((x36.y == x25.y) && true)) = true then (some (.inl (false))) else (gl_at9_1 a0 l26 (k24 + 1) )) else (gl_at9_1 a0 l26 (k24 + 1) ))
def gf_at9 (a0 : Shape) : Option Bool := if fits a0.pts.length = true then ((gl_at9_1 a0 a0.pts 0 ).bind fun q => match q with | .inl r => some r | .inr q22 => if (a0.kind == 1) = true then (some (((a0.pts.length : Int) == 1))) else (if (a0.kind == 2) = true then ((gf_bs9 (a0.pts.length : Int) 2 6).bind fun x38 => some (x38)) else (if (a0.kind == 3) = true then ((gf_bs9 (a0.pts.length : Int) 3 6).bind fun x40 => if x40 = true then ((idx a0.pts 0).bind fun x42 => (idx a0.pts (IntKind.i64.wrap ((a0.pts.length : Int) - 1))).bind fun x44 => some ((!((x42.x == x44.x) && ((x42.y == x44.y) && true))))) else (some (false))) else (some (false))))) else none
def c_at9 : Con := ⟨Shape, Bool, 81, fun a => [.agg [.v (.int .i64 a.kind), .ro (List.map ePt a.pts)]], fun a => gf_at9 a, fun a r => ⟨[(false, [.v (.bool r)])], []⟩, fun a => []⟩
def if_ac9 : IFn := ⟨54, [.inl 2],
 (Rs (sq 1 [Io (.box 100 [none, none, some 66, some 82] (.t 0)), Kb false] [])
 (.seq (Rs (sq 5 [Fa 3 1, Ld 1 5, Ln 6, Ki 0] [])
 (blkC 0 (.loop (Rs [Bb .lss 8 7 9]
 (.seq (Ct 9 .skip
 (.exit 0))
 (.seq (.block 1 (Rs (sq 10 [Mv 8, Ia 2 6 8, La 2 11] [Io (.alloc 82 [.v (.string ⟨#[]⟩), .v (.string ⟨#[]⟩)]) 4, Mv 10 3, Sv [none, none] 4 12])
 (.seq (.drw (sq 13 [Fa 0 4, Ld 1 13, Ca 80 [14], Nt 15, Mv 16] (Sf 17 18 [Fa 1 4, Ld 1 18, Ca 80 [19], Nt 20] (sq 22 [Pk 17 21, Mv 22] (Sf 23 24 [Mv 3, Bk .gtr 24 0, Mv 25] (Sg 26 27 [Fa 3 1, Ld 1 27, Mv 3, Bk .sub 29 1, Ia 2 28 30, Fa 0 31, Ld 1 32, Fa 0 4, Ld 1 34, Bb .geq 33 35] [Gf 23 (Pf 26 36 37), Pk 23 37 38]))))) [(15, 22), (20, 22)])
 (Ct 38 (Rs [Kb false 2]
 .ret)
 .skip))))
 (.reg [Bk .add 8 1 39, Mv 39 8])))))))
 (Rs (sq 40 [Fa 0 1, Ld 1 40, Ca 80 [41], Mv 42] (Sg 43 44 [Fa 1 1, La 2 44, Ca 81 [45]] (sq 47 [Pf 43 46, Mv 47] (Sg 48 49 [Fa 3 1, Ld 1 49, Ln 50, Bk .leq 51 4] [Pf 48 52 53, Mv 53 2]))))
 .ret))), lcF []⟩
def ks_ac9 : List (List (Option Nat)) := [[none]]
def gl_ac9_1 (a0 : Feat) : List Tag → Nat → Option (Bool ⊕ Unit)
 | [], k30 => some (.inr ())
 | x31 :: l32, k30 => (gf_ay9 x31.key).bind fun x40 => if (!x40) = true then (some (.inl (false))) else ((gf_ay9 x31.val).bind fun x42 => if (!x42) = true then (some (.inl (false))) else (if (decide ((k30 : Int) > 0)) = true then ((idx a0.tags (IntKind.i64.wrap ((k30 : Int) - 1))).bind fun x44 => if (!slt x44.key x31.key) = true then (some (.inl (false))) else (gl_ac9_1 a0 l32 (k30 + 1) )) else (gl_ac9_1 a0 l32 (k30 + 1) )))
def gf_ac9 (a0 : Feat) : Option Bool := if fits a0.tags.length = true then ((gl_ac9_1 a0 a0.tags 0 ).bind fun q => match q with | .inl r => some r | .inr q28 => (gf_ay9 a0.id).bind fun x46 => if x46 = true then ((gf_at9 a0.shape).bind fun x48 => if x48 = true then (some ((decide ((a0.tags.length : Int) ≤ 4)))) else (some (false))) else (some (false))) else none
def c_ac9 : Con := ⟨Feat, Bool, 82, fun a => [.agg [.v (.string a.id), .v (.int .i64 a.shape.kind), .ro (List.map ePt a.shape.pts), .ro (List.map eTag a.tags)]], fun a => gf_ac9 a, fun a r => ⟨[(false, [.v (.bool r)])], []⟩, fun a => []⟩
def if_ec9 : IFn := ⟨26, [.inl 4],
 (Rs [Kb false 4]
 (.seq (Rs (sq 6 [Mv 0, Ln 6, Mv 1, Ln 8, Bb .neq 7 9] [])
 (Ct 10 (Rs [Kb false 4]
 .ret)
 .skip))
 (.seq (Rs (sq 11 [Mv 0, Ln 11, Ki 0] [])
 (blkC 0 (.loop (Rs [Bb .lss 13 12 14]
 (.seq (Ct 14 .skip
 (.exit 0))
 (.seq (.block 1 (Rs [Mv 13 15, Mv 15 5]
 (.seq (.drw (sq 16 [Mv 0, Mv 5, Ia 2 16 17, La 2 18, Mv 1, Mv 5, Ia 2 20 21, La 2 22, Io (.eqs true true [0, 0] (.t 19) (.t 23))] []) [(3, 7)])
 (Ct 24 (Rs [Kb false 4]
 .ret)
 .skip))))
 (.reg [Bk .add 13 1 25, Mv 25 13])))))))
 (Rs [Kb true 4]
 .ret)))), lcF []⟩
def ks_ec9 : List (List (Option Nat)) := [[none]]
def gl_ec9_1 (a1 : (List Pt)) : List Pt → Nat → Option (Bool ⊕ Unit)
 | [], k16 => some (.inr ())
 | x17 :: l18, k16 => (idx a1 (k16 : Int)).bind fun x25 => if (!((x17.x == x25.x) && ((x17.y == x25.y) && true))) = true then (some (.inl (false))) else (gl_ec9_1 a1 l18 (k16 + 1) )
def gf_ec9 (a0 : (List Pt)) (a1 : (List Pt)) : Option Bool := if ((a0.length : Int) != (a1.length : Int)) = true then (some (false)) else (if fits a0.length = true then ((gl_ec9_1 a1 a0 0 ).bind fun q => match q with | .inl r => some r | .inr q14 => some (true)) else none)
def c_ec9 : Con := ⟨(List Pt) × (List Pt), Bool, 127, fun a => [.ro (List.map ePt a.1), .ro (List.map ePt a.2)], fun a => gf_ec9 a.1 a.2, fun a r => ⟨[(false, [.v (.bool r)])], []⟩, fun a => []⟩
def if_au9 : IFn := ⟨17, [.inl 4],
 (Rs (sq 2 [Io (.box 226 [none, some 66] (.t 0)), Io (.box 226 [none, some 66] (.t 1)), Kb false] [])
 (Rs (sq 5 [Fa 0 2, Ld 1 5, Fa 0 3, Ld 1 7, Bb .eql 6 8, Mv 9] (Sg 10 11 [Fa 1 2, Ld 1 11, Fa 1 3, Ld 1 13, Ca 127 [12, 14]] [Pf 10 15 16, Mv 16 4]))
 .ret)), lcF []⟩
def ks_au9 : List (List (Option Nat)) := [[none]]
def gf_au9 (a0 : Shape) (a1 : Shape) : Option Bool := if (a0.kind == a1.kind) = true then ((gf_ec9 a0.pts a1.pts).bind fun x3 => some (x3)) else (some (false))
def c_au9 : Con := ⟨Shape × Shape, Bool, 128, fun a => [.agg [.v (.int .i64 a.1.kind), .ro (List.map ePt a.1.pts)], .agg [.v (.int .i64 a.2.kind), .ro (List.map ePt a.2.pts)]], fun a => gf_au9 a.1 a.2, fun a r => ⟨[(false, [.v (.bool r)])], []⟩, fun a => []⟩
def if_ed9 : IFn := ⟨26, [.inl 4],
 (Rs [Kb false 4]
 (.seq (Rs (sq 6 [Mv 0, Ln 6, Mv 1, Ln 8, Bb .neq 7 9] [])
 (Ct 10 (Rs [Kb false 4]
 .ret)
 .skip))
 (.seq (Rs (sq 11 [Mv 0, Ln 11, Ki 0] [])
 (blkC 0 (.loop (Rs [Bb .lss 13 12 14]
 (.seq (Ct 14 .skip
 (.exit 0))
 (.seq (.block 1 (Rs [Mv 13 15, Mv 15 5]
 (.seq (.drw (sq 16 [Mv 0, Mv 5, Ia 2 16 17, La 2 18, Mv 1, Mv 5, Ia 2 20 21, La 2 22, Io (.eqs true true [2, 2] (.t 19) (.t 23))] []) [(3, 7)])
 (Ct 24 (Rs [Kb false 4]
 .ret)
 .skip))))
 (.reg [Bk .add 13 1 25, Mv 25 13])))))))
 (Rs [Kb true 4]
 .ret)))), lcF []⟩
def ks_ed9 : List (List (Option Nat)) := [[none]]
def gl_ed9_1 (a1 : (List Tag)) : List Tag → Nat → Option (Bool ⊕ Unit)
 | [], k16 => some (.inr ())
 | x17 :: l18, k16 => (idx a1 (k16 : Int)).bind fun x25 => if (!((x17.key == x25.key) && ((x17.val == x25.val) && true))) = true then (some (.inl (false))) else (gl_ed9_1 a1 l18 (k16 + 1) )
def gf_ed9 (a0 : (List Tag)) (a1 : (List Tag)) : Option Bool := if ((a0.length : Int) != (a1.length : Int)) = true then (some (false)) else (if fits a0.length = true then ((gl_ed9_1 a1 a0 0 ).bind fun q => match q with | .inl r => some r | .inr q14 => some (true)) else none)
def c_ed9 : Con := ⟨(List Tag) × (List Tag), Bool, 129, fun a => [.ro (List.map eTag a.1), .ro (List.map eTag a.2)], fun a => gf_ed9 a.1 a.2, fun a r => ⟨[(false, [.v (.bool r)])], []⟩, fun a => []⟩
def if_ad9 : IFn := ⟨24, [.inl 4],
 (Rs (sq 2 [Io (.box 100 [none, none, some 66, some 82] (.t 0)), Io (.box 100 [none, none, some 66, some 82] (.t 1)), Kb false] [])
 (Rs (sq 5 [Fa 0 2, Ld 1 5, Fa 0 3, Ld 1 7, Bb .eql 6 8, Mv 9] (Sg 10 11 [Fa 1 2, La 2 11, Fa 1 3, La 2 13, Ca 128 [12, 14]] (sq 16 [Pf 10 15, Mv 16] (Sg 17 18 [Fa 3 2, Ld 1 18, Fa 3 3, Ld 1 20, Ca 129 [19, 21]] [Pf 17 22 23, Mv 23 4]))))
 .ret)), lcF []⟩
def ks_ad9 : List (List (Option Nat)) := [[none]]
def gf_ad9 (a0 : Feat) (a1 : Feat) : Option Bool := if (seq a0.id a1.id) = true then ((gf_au9 a0.shape a1.shape).bind fun x3 => if x3 = true then ((gf_ed9 a0.tags a1.tags).bind fun x5 => some (x5)) else (some (false))) else (some (false))
def c_ad9 : Con := ⟨Feat × Feat, Bool, 130, fun a => [.agg [.v (.string a.1.id), .v (.int .i64 a.1.shape.kind), .ro (List.map ePt a.1.shape.pts), .ro (List.map eTag a.1.tags)], .agg [.v (.string a.2.id), .v (.int .i64 a.2.shape.kind), .ro (List.map ePt a.2.shape.pts), .ro (List.map eTag a.2.tags)]], fun a => gf_ad9 a.1 a.2, fun a r => ⟨[(false, [.v (.bool r)])], []⟩, fun a => []⟩
def if_ea9 : IFn := ⟨32, [.inl 6],
 (Rs [Kb false 6]
 (.seq (Rs (sq 10 [Mv 0, Ln 10, Mv 1, Ln 12, Bb .neq 11 13] [])
 (Ct 14 (Rs [Kb false 6]
 .ret)
 .skip))
 (.seq (Rs (sq 15 [Mv 0, Ln 15, Ki 0] [])
 (blkC 0 (.loop (Rs [Bb .lss 17 16 18]
 (.seq (Ct 18 .skip
 (.exit 0))
 (.seq (.block 1 (Rs (sq 19 [Mv 17, Ia 4 15 17, La 4 20] [Io (.alloc 100 [.v (.string ⟨#[]⟩), .v (.int .i64 0), .sl true 66 [], .sl true 82 []]) 8, Mv 19 7, Sv [none, none, some 66, some 82] 8 21])
 (Rs (sq 22 [Mv 1, Mv 7, Ia 4 22 23, La 4 24] [Io (.alloc 100 [.v (.string ⟨#[]⟩), .v (.int .i64 0), .sl true 66 [], .sl true 82 []]) 9, Sv [none, none, some 66, some 82] 9 25])
 (Rs (sq 26 [Mv 2, La 4 8, La 4 9, Io (.calld (.t 26) [(false, .t 27), (false, .t 28)]), Nt 29] [])
 (Ct 30 (Rs [Kb false 6]
 .ret)
 .skip)))))
 (.reg [Bk .add 17 1 31, Mv 31 17])))))))
 (Rs [Kb true 6]
 .ret)))), lcF []⟩
def ks_ea9 : List (List (Option Nat)) := [[none]]
def gl_eb9_1 (a1 : (List Feat)) : List Feat → Nat → Option (Bool ⊕ Unit)
 | [], k28 => some (.inr ())
 | x29 :: l30, k28 => (idx a1 (k28 : Int)).bind fun x38 => (gf_ad9 x29 x38).bind fun x41 => if (!x41) = true then (some (.inl (false))) else (gl_eb9_1 a1 l30 (k28 + 1) )
def gf_eb9 (a0 : (List Feat)) (a1 : (List Feat)) : Option Bool := if ((a0.length : Int) != (a1.length : Int)) = true then (some (false)) else (if fits a0.length = true then ((gl_eb9_1 a1 a0 0 ).bind fun q => match q with | .inl r => some r | .inr q26 => some (true)) else none)
def c_eb9 : Con := ⟨(List Feat) × (List Feat), Bool, 325, fun a => [.ro (List.map (eFeat false) a.1), .ro (List.map (eFeat false) a.2), .fn 130 []], fun a => gf_eb9 a.1 a.2, fun a r => ⟨[(false, [.v (.bool r)])], []⟩, fun a => []⟩
def if_ax9 : IFn := ⟨8, [.inl 4],
 (Rs [Kb false 4]
 (Rs (sq 5 [Mv 0, Mv 1, Io (.call 325 [(false, .t 5), (false, .t 6), (false, .f 130)])] [Mv 7 4])
 .ret)), lcF []⟩
def ks_ax9 : List (List (Option Nat)) := [[none]]
def gf_ax9 (a0 : (List Feat)) (a1 : (List Feat)) : Option Bool := (gf_eb9 a0 a1).bind fun x1 => some (x1)
def c_ax9 : Con := ⟨(List Feat) × (List Feat), Bool, 220, fun a => [.ro (List.map (eFeat false) a.1), .ro (List.map (eFeat false) a.2)], fun a => gf_ax9 a.1 a.2, fun a r => ⟨[(false, [.v (.bool r)])], []⟩, fun a => []⟩
def if_ee9 : IFn := ⟨26, [.inl 4],
 (Rs [Kb false 4]
 (.seq (Rs (sq 6 [Mv 0, Ln 6, Mv 1, Ln 8, Bb .neq 7 9] [])
 (Ct 10 (Rs [Kb false 4]
 .ret)
 .skip))
 (.seq (Rs (sq 11 [Mv 0, Ln 11, Ki 0] [])
 (blkC 0 (.loop (Rs [Bb .lss 13 12 14]
 (.seq (Ct 14 .skip
 (.exit 0))
 (.seq (.block 1 (Rs [Mv 13 15, Mv 15 5]
 (.seq (.drw (sq 16 [Mv 0, Mv 5, Ia 1 16 17, Ld 1 18, Mv 1, Mv 5, Ia 1 20 21, Ld 1 22, Bb .neq 19 23] []) [(3, 7)])
 (Ct 24 (Rs [Kb false 4]
 .ret)
 .skip))))
 (.reg [Bk .add 13 1 25, Mv 25 13])))))))
 (Rs [Kb true 4]
 .ret)))), lcF []⟩
def ks_ee9 : List (List (Option Nat)) := [[none]]
def gl_ee9_1 (a1 : (List Int)) : List Int → Nat → Option (Bool ⊕ Unit)
 | [], k16 => some (.inr ())
 | x17 :: l18, k16 => (idx a1 (k16 : Int)).bind fun x25 => if (x17 != x25) = true then (some (.inl (false))) else (gl_ee9_1 a1 l18 (k16 + 1) )
def gf_ee9 (a0 : (List Int)) (a1 : (List Int)) : Option Bool := if ((a0.length : Int) != (a1.length : Int)) = true then (some (false)) else (if fits a0.length = true then ((gl_ee9_1 a1 a0 0 ).bind fun q => match q with | .inl r => some r | .inr q14 => some (true)) else none)
def c_ee9 : Con := ⟨(List Int) × (List Int), Bool, 358, fun a => [.ro (List.map eInt a.1), .ro (List.map eInt a.2)], fun a => gf_ee9 a.1 a.2, fun a r => ⟨[(false, [.v (.bool r)])], []⟩, fun a => []⟩
def if_bn9 : IFn := ⟨24, [.inl 4],
 (Rs (sq 2 [Io (.box 115 [some 17, some 100, none] (.t 0)), Io (.box 115 [some 17, some 100, none] (.t 1)), Kb false] [])
 (Rs (sq 5 [Fa 0 2, Ld 1 5, Fa 0 3, Ld 1 7, Ca 358 [6, 8], Mv 9] (Sg 10 11 [Fa 1 2, Ld 1 11, Fa 1 3, Ld 1 13, Ca 220 [12, 14]] (sq 16 [Pf 10 15, Mv 16] (Sg 17 18 [Fa 2 2, Ld 1 18, Fa 2 3, Ld 1 20, Bb .eql 19 21] [Pf 17 22 23, Mv 23 4]))))
 .ret)), lcF []⟩
def ks_bn9 : List (List (Option Nat)) := [[none]]
def gf_bn9 (a0 : Commit) (a1 : Commit) : Option Bool := (gf_ee9 a0.up a1.up).bind fun x3 => if x3 = true then ((gf_ax9 a0.sheet a1.sheet).bind fun x5 => if x5 = true then (some ((seq a0.note a1.note))) else (some (false))) else (some (false))
def c_bn9 : Con := ⟨Commit × Commit, Bool, 330, fun a => [.agg [.ro (List.map eInt a.1.up), .ro (List.map (eFeat false) a.1.sheet), .v (.string a.1.note)], .agg [.ro (List.map eInt a.2.up), .ro (List.map (eFeat false) a.2.sheet), .v (.string a.2.note)]], fun a => gf_bn9 a.1 a.2, fun a r => ⟨[(false, [.v (.bool r)])], []⟩, fun a => []⟩
def if_eq9 : IFn := ⟨19, [.inl 4],
 (Rs [Ki 0 4]
 (.seq (Rs (sq 6 [Mv 0, Ln 6, Ki 0] [])
 (blkC 0 (.loop (Rs [Bb .lss 8 7 9]
 (.seq (Ct 9 .skip
 (.exit 0))
 (.seq (.block 1 (Rs [Mv 8 10, Mv 10 5]
 (Rs (sq 11 [Mv 1, Mv 0, Mv 5, Ia 1 12 13, Ld 1 14, Bb .eql 11 15] [])
 (Ct 16 (Rs [Mv 5 17, Mv 17 4]
 .ret)
 .skip))))
 (.reg [Bk .add 8 1 18, Mv 18 8])))))))
 (Rs [Ki (-1) 4]
 .ret))), lcF []⟩
def ks_eq9 : List (List (Option Nat)) := [[none]]
def gl_eq9_1 (a1 : Int) : List Int → Nat → Option (Int ⊕ Unit)
 | [], k10 => some (.inr ())
 | x11 :: l12, k10 => if (a1 == x11) = true then (some (.inl ((k10 : Int)))) else (gl_eq9_1 a1 l12 (k10 + 1) )
def gf_eq9 (a0 : (List Int)) (a1 : Int) : Option Int := if fits a0.length = true then ((gl_eq9_1 a1 a0 0 ).bind fun q => match q with | .inl r => some r | .inr q8 => some ((-1))) else none
def c_eq9 : Con := ⟨(List Int) × Int, Int, 85, fun a => [.ro (List.map eInt a.1), .v (.int .i64 a.2)], fun a => gf_eq9 a.1 a.2, fun a r => ⟨[(false, [.v (.int .i64 r)])], []⟩, fun a => []⟩
def if_aw9 : IFn := ⟨34, [.inl 2],
 (Rs [Kb false 2]
 (.seq (Rs (sq 5 [Mv 0, Ln 5, Ki 0] [])
 (blkC 0 (.loop (Rs [Bb .lss 7 6 8]
 (.seq (Ct 8 .skip
 (.exit 0))
 (.seq (.block 1 (Rs (sq 9 [Mv 7, Ia 4 5 7, La 4 10] [Io (.alloc 100 [.v (.string ⟨#[]⟩), .v (.int .i64 0), .sl true 66 [], .sl true 82 []]) 4, Mv 9 3, Sv [none, none, some 66, some 82] 4 11])
 (.seq (.drw (sq 12 [La 4 4, Ca 82 [12], Nt 13, Mv 14] (Sf 15 16 [Mv 3, Bk .gtr 16 0, Mv 17] (Sg 18 19 [Mv 0, Mv 3, Bk .sub 20 1, Ia 4 19 21, Fa 0 22, Ld 1 23, Fa 0 4, Ld 1 25, Bb .geq 24 26] [Gf 15 (Pf 18 27 28), Pk 15 28 29]))) [(12, 14)])
 (Ct 29 (Rs [Kb false 2]
 .ret)
 .skip))))
 (.reg [Bk .add 7 1 30, Mv 30 7])))))))
 (Rs (sq 31 [Mv 0, Ln 31, Bk .leq 32 8] [Mv 33 2])
 .ret))), lcF []⟩
def ks_aw9 : List (List (Option Nat)) := [[none]]
def gl_aw9_1 (a0 : (List Feat)) : List Feat → Nat → Option (Bool ⊕ Unit)
 | [], k23 => some (.inr ())
 | x24 :: l25, k23 => (gf_ac9 x24).bind fun x33 => if (!x33) = true then (some (.inl (false))) else (if (decide ((k23 : Int) > 0)) = true then ((idx a0 (IntKind.i64.wrap ((k23 : Int) - 1))).bind fun x35 => if (!slt x35.id x24.id) = true then (some (.inl (false))) else (gl_aw9_1 a0 l25 (k23 + 1) )) else (gl_aw9_1 a0 l25 (k23 + 1) ))
def gf_aw9 (a0 : (List Feat)) : Option Bool := if fits a0.length = true then ((gl_aw9_1 a0 a0 0 ).bind fun q => match q with | .inl r => some r | .inr q21 => some ((decide ((a0.length : Int) ≤ 8)))) else none
def c_aw9 : Con := ⟨(List Feat), Bool, 86, fun a => [.ro (List.map (eFeat false) a)], fun a => gf_aw9 a, fun a r => ⟨[(false, [.v (.bool r)])], []⟩, fun a => []⟩
def if_am9 : IFn := ⟨7, [.inl 3],
 (Rs (sq 2 [Io (.box 115 [some 17, some 100, none] (.t 0)), Kb false] [])
 (Rs (sq 4 [La 3 2, La 3 1, Ca 330 [4, 5]] [Mv 6 3])
 .ret)), lcF []⟩
def ks_am9 : List (List (Option Nat)) := [[none]]
def gf_am9 (a0 : Commit) (a1 : Commit) : Option Bool := (gf_bn9 a0 a1).bind fun x2 => some (x2)
def c_am9 : Con := ⟨Commit × Commit, Bool, 83, fun a => [.agg [.ro (List.map eInt a.1.up), .ro (List.map (eFeat false) a.1.sheet), .v (.string a.1.note)], .rptr [.sl false 1 (List.map eInt a.2.up), .sl false 4 (List.map (eFeat false) a.2.sheet), .v (.string a.2.note)]], fun a => gf_am9 a.1 a.2, fun a r => ⟨[(false, [.v (.bool r)])], []⟩, fun a => []⟩
def if_eg9 : IFn := ⟨19, [.inl 4],
 (Rs [Ki 0 4]
 (.seq (Rs (sq 6 [Mv 0, Ln 6, Ki 0] [])
 (blkC 0 (.loop (Rs [Bb .lss 8 7 9]
 (.seq (Ct 9 .skip
 (.exit 0))
 (.seq (.block 1 (Rs [Mv 8 10, Mv 10 5]
 (Rs (sq 11 [Mv 1, Mv 0, Mv 5, Ia 3 12 13, La 3 14, Io (.calld (.t 11) [(false, .t 15)])] [])
 (Ct 16 (Rs [Mv 5 17, Mv 17 4]
 .ret)
 .skip))))
 (.reg [Bk .add 8 1 18, Mv 18 8])))))))
 (Rs [Ki (-1) 4]
 .ret))), lcF []⟩
def ks_eg9 : List (List (Option Nat)) := [[none]]
def gl_eh9_1 (a1 : Commit) : List Commit → Nat → Option (Int ⊕ Unit)
 | [], k16 => some (.inr ())
 | x17 :: l18, k16 => (gf_am9 x17 a1).bind fun x25 => if x25 = true then (some (.inl ((k16 : Int)))) else (gl_eh9_1 a1 l18 (k16 + 1) )
def gf_eh9 (a0 : (List Commit)) (a1 : Commit) : Option Int := if fits a0.length = true then ((gl_eh9_1 a1 a0 0 ).bind fun q => match q with | .inl r => some r | .inr q14 => some ((-1))) else none
def c_eh9 : Con := ⟨(List Commit) × Commit, Int, 84, fun a => [.ro (List.map (eCommit false) a.1), .fn 83 [.rptr [.sl false 1 (List.map eInt a.2.up), .sl false 4 (List.map (eFeat false) a.2.sheet), .v (.string a.2.note)]]], fun a => gf_eh9 a.1 a.2, fun a r => ⟨[(false, [.v (.int .i64 r)])], []⟩, fun a => []⟩
def if_al9 : IFn := ⟨9, [.inl 4],
 (Rs (sq 2 [Io (.box 210 [some 115, some 130] (.t 0)), Io (.box 115 [some 17, some 100, none] (.t 1)), Ki 0] [])
 (Rs (sq 5 [Fa 0 2, Ld 1 5, Io (.mkf 83 [.t 3]), Ca 84 [6, 7]] [Mv 8 4])
 .ret)), lcF []⟩
def ks_al9 : List (List (Option Nat)) := [[none]]
def gf_al9 (a0 : Repo) (a1 : Commit) : Option Int := (gf_eh9 a0.commits a1).bind fun x3 => some (x3)
def c_al9 : Con := ⟨Repo × Commit, Int, 87, fun a => [.agg [.ro (List.map (eCommit false) a.1.commits), .ro (List.map eHead a.1.heads)], .agg [.ro (List.map eInt a.2.up), .ro (List.map (eFeat false) a.2.sheet), .v (.string a.2.note)]], fun a => gf_al9 a.1 a.2, fun a r => ⟨[(false, [.v (.int .i64 r)])], []⟩, fun a => []⟩
def if_dz9 : IFn := ⟨9, [.inl 4],
 (Rs [Kb false 4]
 (Rs (sq 5 [Mv 0, Mv 1, Ca 85 [5, 6], Bk .geq 7 0] [Mv 8 4])
 .ret)), lcF []⟩
def ks_dz9 : List (List (Option Nat)) := [[none]]
def gf_dz9 (a0 : (List Int)) (a1 : Int) : Option Bool := (gf_eq9 a0 a1).bind fun x1 => some ((decide (x1 ≥ 0)))
def c_dz9 : Con := ⟨(List Int) × Int, Bool, 88, fun a => [.ro (List.map eInt a.1), .v (.int .i64 a.2)], fun a => gf_dz9 a.1 a.2, fun a r => ⟨[(false, [.v (.bool r)])], []⟩, fun a => []⟩
def if_ao9 : IFn := ⟨8, [.inl 3],
 (Rs (sq 2 [Io (.box 130 [none, none] (.t 0)), Kb false] [])
 (Rs (sq 4 [Fa 0 2, Ld 1 4, Ld 1 1, Bb .eql 5 6] [Mv 7 3])
 .ret)), lcF []⟩
def ks_ao9 : List (List (Option Nat)) := [[none]]
def gf_ao9 (a0 : Head) (a1 : Str) : Option Bool := some ((seq a0.name a1))
def c_ao9 : Con := ⟨Head × Str, Bool, 77, fun a => [.agg [.v (.string a.1.name), .v (.int .i64 a.1.at_)], .rptr [.v (.string a.2)]], fun a => gf_ao9 a.1 a.2, fun a r => ⟨[(false, [.v (.bool r)])], []⟩, fun a => []⟩
def if_ek9 : IFn := ⟨19, [.inl 4],
 (Rs [Ki 0 4]
 (.seq (Rs (sq 6 [Mv 0, Ln 6, Ki 0] [])
 (blkC 0 (.loop (Rs [Bb .lss 8 7 9]
 (.seq (Ct 9 .skip
 (.exit 0))
 (.seq (.block 1 (Rs [Mv 8 10, Mv 10 5]
 (Rs (sq 11 [Mv 1, Mv 0, Mv 5, Ia 2 12 13, La 2 14, Io (.calld (.t 11) [(false, .t 15)])] [])
 (Ct 16 (Rs [Mv 5 17, Mv 17 4]
 .ret)
 .skip))))
 (.reg [Bk .add 8 1 18, Mv 18 8])))))))
 (Rs [Ki (-1) 4]
 .ret))), lcF []⟩
def ks_ek9 : List (List (Option Nat)) := [[none]]
def gl_el9_1 (a1 : Str) : List Head → Nat → Option (Int ⊕ Unit)
 | [], k16 => some (.inr ())
 | x17 :: l18, k16 => (gf_ao9 x17 a1).bind fun x25 => if x25 = true then (some (.inl ((k16 : Int)))) else (gl_el9_1 a1 l18 (k16 + 1) )
def gf_el9 (a0 : (List Head)) (a1 : Str) : Option Int := if fits a0.length = true then ((gl_el9_1 a1 a0 0 ).bind fun q => match q with | .inl r => some r | .inr q14 => some ((-1))) else none
def c_el9 : Con := ⟨(List Head) × Str, Int, 78, fun a => [.ro (List.map eHead a.1), .fn 77 [.rptr [.v (.string a.2)]]], fun a => gf_el9 a.1 a.2, fun a r => ⟨[(false, [.v (.int .i64 r)])], []⟩, fun a => []⟩
def if_an9 : IFn := ⟨9, [.inl 4],
 (Rs (sq 2 [Io (.box 210 [some 115, some 130] (.t 0)), Io (.box 49 [none] (.t 1)), Ki 0] [])
 (Rs (sq 5 [Fa 1 2, Ld 1 5, Io (.mkf 77 [.t 3]), Ca 78 [6, 7]] [Mv 8 4])
 .ret)), lcF []⟩
def ks_an9 : List (List (Option Nat)) := [[none]]
def gf_an9 (a0 : Repo) (a1 : Str) : Option Int := (gf_el9 a0.heads a1).bind fun x3 => some (x3)
def c_an9 : Con := ⟨Repo × Str, Int, 89, fun a => [.agg [.ro (List.map (eCommit false) a.1.commits), .ro (List.map eHead a.1.heads)], .v (.string a.2)], fun a => gf_an9 a.1 a.2, fun a r => ⟨[(false, [.v (.int .i64 r)])], []⟩, fun a => []⟩
def if_aq9 : IFn := ⟨11, [.inl 4],
 (Rs [Io (.box 210 [some 115, some 130] (.t 0)) 2, Kb false 4]
 (Rs (sq 5 [Mv 1, Fa 0 2, Ld 1 6, Ln 7, Bk .sub 8 1, Io (.call 76 [(false, .t 5), (false, .c (.int .i64 0)), (false, .t 9)])] [Mv 10 4])
 .ret)), lcF []⟩
def ks_aq9 : List (List (Option Nat)) := [[none]]
def gf_aq9 (a0 : Repo) (a1 : Int) : Option Bool := (gf_bs9 a1 0 (IntKind.i64.wrap ((a0.commits.length : Int) - 1))).bind fun x2 => some (x2)
def c_aq9 : Con := ⟨Repo × Int, Bool, 90, fun a => [.agg [.ro (List.map (eCommit false) a.1.commits), .ro (List.map eHead a.1.heads)], .v (.int .i64 a.2)], fun a => gf_aq9 a.1 a.2, fun a r => ⟨[(false, [.v (.bool r)])], []⟩, fun a => []⟩
def if_ba9 : IFn := ⟨10, [.inr (2, 2)],
 (Rs (sq 1 [Io (.box 226 [none, some 66] (.t 0)), Io (.alloc 226 [.v (.int .i64 0), .sl true 66 []])] [])
 (.seq (.drw (sq 3 [Fa 0 1, Ld 1 3, Io (.lit 66 [none, none] [.v (.int .i64 0), .v (.int .i64 0)] 0 []), Fa 1 1, Ld 1 6, Io (.app 66 false (.t 5) (.t 7)), Io (.build [.v (.int .i64 0), .nil] [(0, 1, .t 4), (1, 1, .t 8)])] [Sv [none, some 66] 2 9]) [(1, 2), (1, 4), (2, 4), (1, 5)])
 .ret)), lcF []⟩
def ks_ba9 : List (List (Option Nat)) := [[none, some 66]]
def gf_ba9 (a0 : Shape) : Option Shape := if fits ([] ++ a0.pts).length = true then some ((⟨a0.kind, ([] ++ a0.pts)⟩ : Shape)) else none
def c_ba9 : Con := ⟨Shape, Shape, 91, fun a => [.agg [.v (.int .i64 a.kind), .ro (List.map ePt a.pts)]], fun a => gf_ba9 a, fun a r => ⟨[(true, eShape true r)], []⟩, fun a => []⟩
def if_az9 : IFn := ⟨13, [.inr (2, 4)],
 (Rs (sq 1 [Io (.box 100 [none, none, some 66, some 82] (.t 0)), Io (.alloc 100 [.v (.string ⟨#[]⟩), .v (.int .i64 0), .sl true 66 [], .sl true 82 []])] [])
 (.seq (.drw (sq 3 [Fa 0 1, Ld 1 3, Fa 1 1, La 2 5, Ca 91 [6], Io (.lit 82 [none, none] [.v (.string ⟨#[]⟩), .v (.string ⟨#[]⟩)] 0 []), Fa 3 1, Ld 1 9, Io (.app 82 false (.t 8) (.t 10)), Io (.build [.v (.string ⟨#[]⟩), .v (.int .i64 0), .nil, .nil] [(0, 1, .t 4), (1, 2, .t 7), (3, 1, .t 11)])] [Sv [none, none, some 66, some 82] 2 12]) [(1, 3), (1, 4), (1, 5), (3, 5), (4, 5), (1, 7), (3, 7), (4, 7), (5, 7), (1, 8)])
 .ret)), lcF []⟩
def ks_az9 : List (List (Option Nat)) := [[none, none, some 66, some 82]]
def gf_az9 (a0 : Feat) : Option Feat := (gf_ba9 a0.shape).bind fun x3 => if fits ([] ++ a0.tags).length = true then some ((⟨a0.id, x3, ([] ++ a0.tags)⟩ : Feat)) else none
def c_az9 : Con := ⟨Feat, Feat, 92, fun a => [.agg [.v (.string a.id), .v (.int .i64 a.shape.kind), .ro (List.map ePt a.shape.pts), .ro (List.map eTag a.tags)]], fun a => gf_az9 a, fun a r => ⟨[(true, eFeat true r)], []⟩, fun a => []⟩
def if_ak9 : IFn := ⟨112, [.inl 2],
 (Rs (sq 1 [Io (.box 210 [some 115, some 130] (.t 0)), Kb false] [])
 (.seq (Rs (sq 9 [Fa 0 1, Ld 1 9, Ln 10, Io (.call 76 [(false, .t 11), (false, .c (.int .i64 1)), (false, .c (.int .i64 14))]), Nt 12, Mv 13] (Sf 14 15 [Fa 1 1, Ld 1 15, Ln 16, Io (.call 76 [(false, .t 17), (false, .c (.int .i64 1)), (false, .c (.int .i64 4))]), Nt 18] [Pk 14 19 20]))
 (Ct 20 (Rs [Kb false 2]
 .ret)
 .skip))
 (.seq (Rs (sq 21 [Fa 0 1, Ld 1 21, Ln 22, Ki 0] [])
 (blkC 0 (.loop (Rs [Bb .lss 24 23 25]
 (.seq (Ct 25 .skip
 (.exit 0))
 (.seq (.block 1 (Rs (sq 26 [Mv 24, Ia 3 22 24, La 3 27] [Io (.alloc 115 [.sl true 17 [], .sl true 100 [], .v (.string ⟨#[]⟩)]) 4, Mv 26 3, Sv [some 17, some 100, none] 4 28])
 (.seq (Rs (sq 29 [Fa 1 4, Ld 1 29, Ca 86 [30], Nt 31, Mv 32] (Sf 33 34 [Fa 2 4, Ld 1 34, Ca 80 [35], Nt 36] (sq 38 [Pk 33 37, Mv 38] (Sf 39 40 [La 2 1, La 3 4, Ca 87 [40, 41], Mv 3, Bb .neq 42 43] (sq 45 [Pk 39 44, Mv 45] (Sf 46 47 [Mv 3, Bk .eql 47 0, Fa 0 4, Ld 1 49, Ln 50, Bk .eql 51 0, Io (.eqs true false [1] (.t 48) (.t 52))] (sq 54 [Pk 46 53, Mv 54] (Sf 55 56 [Fa 0 4, Ld 1 56, Ln 57, Bk .gtr 58 2] [Pk 55 59 60]))))))))
 (Ct 60 (Rs [Kb false 2]
 .ret)
 .skip))
 (Rs (sq 61 [Fa 0 4, Ld 1 61, Ln 62, Ki 0] [])
 (blkC 2 (.loop (Rs [Bb .lss 64 63 65]
 (.seq (Ct 65 .skip
 (.exit 2))
 (.seq (.block 3 (Rs (sq 66 [Mv 64, Ia 1 62 64, Ld 1 67] (sq 5 [Mv 66, Mv 68] []))
 (Rs (sq 69 [Mv 6, Mv 3, Bk .sub 70 1, Io (.call 76 [(false, .t 69), (false, .c (.int .i64 0)), (false, .t 71)]), Nt 72, Mv 73] (Sf 74 75 [Fa 0 4, Ld 1 75, Mv 5, Io (.sls 1 (.t 76) none (some (.t 77))), Mv 6, Ca 88 [78, 79]] [Pk 74 80 81]))
 (Ct 81 (Rs [Kb false 2]
 .ret)
 .skip))))
 (.reg [Bk .add 64 1 82, Mv 82 64]))))))))))
 (.reg [Bk .add 24 1 83, Mv 83 24])))))))
 (.seq (Rs (sq 84 [Fa 1 1, Ld 1 84, Ln 85, Ki 0] [])
 (blkC 4 (.loop (Rs [Bb .lss 87 86 88]
 (.seq (Ct 88 .skip
 (.exit 4))
 (.seq (.block 5 (Rs (sq 89 [Mv 87, Ia 2 85 87, La 2 90] [Io (.alloc 130 [.v (.string ⟨#[]⟩), .v (.int .i64 0)]) 8, Mv 89 7, Sv [none, none] 8 91])
 (Rs (sq 92 [Fa 0 8, Ld 1 92, Ca 80 [93], Nt 94, Mv 95] (Sf 96 97 [La 2 1, Fa 0 8, Ld 1 98, Ca 89 [97, 99], Mv 7, Bb .neq 100 101] (sq 103 [Pk 96 102, Mv 103] (Sf 104 105 [La 2 1, Fa 1 8, Ld 1 106, Ca 90 [105, 107], Nt 108] [Pk 104 109 110]))))
 (Ct 110 (Rs [Kb false 2]
 .ret)
 .skip))))
 (.reg [Bk .add 87 1 111, Mv 111 87])))))))
 (Rs [Kb true 2]
 .ret))))), lcF []⟩
def ks_ak9 : List (List (Option Nat)) := [[none]]
def gl_ak9_5 (k162 : Nat) (x163 : Commit) : List Int → Nat → Option (Bool ⊕ Unit)
 | [], k205 => some (.inr ())
 | x206 :: l207, k205 => (gf_bs9 x206 0 (IntKind.i64.wrap ((k162 : Int) - 1))).bind fun x214 => if (!x214) = true then (some (.inl (false))) else ((slc x163.up 0 (k205 : Int)).bind fun x216 => (gf_dz9 x216 x206).bind fun x218 => if x218 = true then (some (.inl (false))) else (gl_ak9_5 k162 x163 l207 (k205 + 1) ))
def gl_ak9_4 (a0 : Repo) : List Commit → Nat → Option (Bool ⊕ Unit)
 | [], k162 => some (.inr ())
 | x163 :: l164, k162 => (gf_aw9 x163.sheet).bind fun x172 => if (!x172) = true then (some (.inl (false))) else ((gf_ay9 x163.note).bind fun x174 => if (!x174) = true then (some (.inl (false))) else ((gf_al9 a0 x163).bind fun x176 => if (x176 != (k162 : Int)) = true then (some (.inl (false))) else (if (!(((k162 : Int) == 0) == ((x163.up.length : Int) == 0))) = true then (some (.inl (false))) else (if (decide ((x163.up.length : Int) > 2)) = true then (some (.inl (false))) else (if fits x163.up.length = true then ((gl_ak9_5 k162 x163 x163.up 0 ).bind fun q => match q with | .inl r => some (.inl r) | .inr q203 => gl_ak9_4 a0 l164 (k162 + 1) ) else none)))))
def gl_ak9_6 (a0 : Repo) : List Head → Nat → Option (Bool ⊕ Unit)
 | [], k250 => some (.inr ())
 | x251 :: l252, k250 => (gf_ay9 x251.name).bind fun x260 => if (!x260) = true then (some (.inl (false))) else ((gf_an9 a0 x251.name).bind fun x262 => if (x262 != (k250 : Int)) = true then (some (.inl (false))) else ((gf_aq9 a0 x251.at_).bind fun x264 => if (!x264) = true then (some (.inl (false))) else (gl_ak9_6 a0 l252 (k250 + 1) )))
def gf_ak9 (a0 : Repo) : Option Bool := (gf_bs9 (a0.commits.length : Int) 1 14).bind fun x2 => if (!x2) = true then (some (false)) else ((gf_bs9 (a0.heads.length : Int) 1 4).bind fun x4 => if (!x4) = true then (some (false)) else (if fits a0.commits.length = true then ((gl_ak9_4 a0 a0.commits 0 ).bind fun q => match q with | .inl r => some r | .inr q160 => if fits a0.heads.length = true then ((gl_ak9_6 a0 a0.heads 0 ).bind fun q => match q with | .inl r => some r | .inr q248 => some (true)) else none) else none))
def c_ak9 : Con := ⟨Repo, Bool, 96, fun a => [.agg [.ro (List.map (eCommit false) a.commits), .ro (List.map eHead a.heads)]], fun a => gf_ak9 a, fun a r => ⟨[(false, [.v (.bool r)])], []⟩, fun a => []⟩
def if_ap9 : IFn := ⟨41, [.inl 4],
 (Rs [Io (.box 210 [some 115, some 130] (.t 0)) 2, Io (.mv (.c (.slice none 0 0))) 4]
 (Rs (sq 9 [Fa 0 2, Ld 1 9, Ln 10, Io (.mks 33 [.v (.bool false)] (.t 11) (.t 11))] [Mv 12 5])
 (Rs (sq 13 [Mv 5, Mv 1, Ia 1 13 14] [Iz (.store [none] (.t 15) (.c (.bool true)))])
 (.seq (Rs [Mv 1 16, Mv 16 6]
 (blkC 0 (.loop (.seq (Rs (sq 17 [Mv 6, Bk .geq 17 0] [])
 (Ct 18 .skip
 (.exit 0)))
 (.seq (.block 1 (Rs (sq 21 [Mv 5, Mv 6, Ia 1 21 22, Ld 1 23] [])
 (Ct 24 (Rs (sq 25 [Fa 0 2, Ld 1 25, Mv 6, Ia 3 26 27, Fa 0 28, Ld 1 29, Ln 30, Ki 0] [])
 (blkC 2 (.loop (Rs [Bb .lss 32 31 33]
 (.seq (Ct 33 .skip
 (.exit 2))
 (.seq (.block 3 (Rs (sq 34 [Ia 1 30 32, Ld 1 34] [Mv 35 8])
 (.reg (sq 36 [Mv 5, Mv 8, Ia 1 36 37] [Iz (.store [none] (.t 38) (.c (.bool true)))]))))
 (.reg [Bk .add 32 1 39, Mv 39 32])))))))
 .skip)))
 (.reg (sq 19 [Mv 6, Bk .sub 19 1] [Mv 20 6])))))))
 (Rs [Mv 5 40, Mv 40 4]
 .ret))))), lcF []⟩
def ks_ap9 : List (List (Option Nat)) := [[some 33]]
def gl_ap9_5 : List Int → Nat → (List Bool) → Option (List Bool)
 | [], k159, v156 => some v156
 | x160 :: l161, k159, v156 => (idx v156 x160).bind fun x168 => gl_ap9_5 l161 (k159 + 1) (List.set v156 x160.toNat true)
def gl_ap9_4 (a0 : Repo) : Nat → Int → (List Bool) → Option (List Bool)
 | 0, _, _ => none
 | n133 + 1, v129, v130 => if (decide (v129 ≥ 0)) = true then ((idx v130 v129).bind fun x134 => if x134 = true then ((idx a0.commits v129).bind fun x136 => if fits x136.up.length = true then ((gl_ap9_5 x136.up 0 v130).bind fun q154 => gl_ap9_4 a0 n133 (IntKind.i64.wrap (v129 - 1)) q154) else none) else (gl_ap9_4 a0 n133 (IntKind.i64.wrap (v129 - 1)) v130)) else (some v130)
def gf_ap9 (a0 : Repo) (a1 : Int) : Option (List Bool) := if (decide (0 ≤ (a0.commits.length : Int)) && fits ((a0.commits.length : Int)).toNat) = true then (idx (List.replicate ((a0.commits.length : Int)).toNat false) a1).bind fun x5 => (gl_ap9_4 a0 rounds a1 (List.set (List.replicate ((a0.commits.length : Int)).toNat false) a1.toNat true)).bind fun q128 => some (q128) else none
def c_ap9 : Con := ⟨Repo × Int, (List Bool), 97, fun a => [.agg [.ro (List.map (eCommit false) a.1.commits), .ro (List.map eHead a.1.heads)], .v (.int .i64 a.2)], fun a => gf_ap9 a.1 a.2, fun a r => ⟨[(false, [sl true 33 (List.map eBool r)])], []⟩, fun a => []⟩
def if_aj9 : IFn := ⟨11, [.inl 4],
 (Rs [Kb false 4]
 (.seq (.drw (sq 5 [La 2 1, Mv 0, Ca 97 [5, 6], Ld 1 2, Ia 1 7 8, Ld 1 9] [Mv 10 4]) [(0, 3), (2, 3)])
 .ret)), lcF []⟩
def ks_aj9 : List (List (Option Nat)) := [[none]]
def gf_aj9 (a0 : Int) (a1 : Repo) (a2 : Int) : Option Bool := (gf_ap9 a1 a0).bind fun x1 => (idx x1 a2).bind fun x5 => some (x5)
def c_aj9 : Con := ⟨Int × Repo × Int, Bool, 98, fun a => [.v (.int .i64 a.1), .rptr [.sl false 3 (List.map (eCommit false) a.2.1.commits), .sl false 2 (List.map eHead a.2.1.heads)], .rptr [.v (.int .i64 a.2.2)]], fun a => gf_aj9 a.1 a.2.1 a.2.2, fun a r => ⟨[(false, [.v (.bool r)])], []⟩, fun a => []⟩
def if_eo9 : IFn := ⟨19, [.inl 4],
 (Rs [Ki 0 4]
 (.seq (Rs (sq 6 [Mv 0, Ln 6, Ki 0] [])
 (blkC 0 (.loop (Rs [Bb .lss 8 7 9]
 (.seq (Ct 9 .skip
 (.exit 0))
 (.seq (.block 1 (Rs [Mv 8 10, Mv 10 5]
 (Rs (sq 11 [Mv 1, Mv 0, Mv 5, Ia 1 12 13, Ld 1 14, Io (.calld (.t 11) [(false, .t 15)])] [])
 (Ct 16 (Rs [Mv 5 17, Mv 17 4]
 .ret)
 .skip))))
 (.reg [Bk .add 8 1 18, Mv 18 8])))))))
 (Rs [Ki (-1) 4]
 .ret))), lcF []⟩
def ks_eo9 : List (List (Option Nat)) := [[none]]
def gl_ep9_1 (a1 : Repo) (a2 : Int) : List Int → Nat → Option (Int ⊕ Unit)
 | [], k16 => some (.inr ())
 | x17 :: l18, k16 => (gf_aj9 x17 a1 a2).bind fun x25 => if x25 = true then (some (.inl ((k16 : Int)))) else (gl_ep9_1 a1 a2 l18 (k16 + 1) )
def gf_ep9 (a0 : (List Int)) (a1 : Repo) (a2 : Int) : Option Int := if fits a0.length = true then ((gl_ep9_1 a1 a2 a0 0 ).bind fun q => match q with | .inl r => some r | .inr q14 => some ((-1))) else none
def c_ep9 : Con := ⟨(List Int) × Repo × Int, Int, 95, fun a => [.ro (List.map eInt a.1), .fn 98 [.rptr [.sl false 3 (List.map (eCommit false) a.2.1.commits), .sl false 2 (List.map eHead a.2.1.heads)], .rptr [.v (.int .i64 a.2.2)]]], fun a => gf_ep9 a.1 a.2.1 a.2.2, fun a r => ⟨[(false, [.v (.int .i64 r)])], []⟩, fun a => []⟩
def if_dx9 : IFn := ⟨9, [.inl 4],
 (Rs [Kb false 4]
 (Rs (sq 5 [Mv 0, Mv 1, Ca 95 [5, 6], Bk .geq 7 0] [Mv 8 4])
 .ret)), lcF []⟩
def ks_dx9 : List (List (Option Nat)) := [[none]]
def gf_dy9 (a0 : (List Int)) (a1 : Repo) (a2 : Int) : Option Bool := (gf_ep9 a0 a1 a2).bind fun x1 => some ((decide (x1 ≥ 0)))
def c_dy9 : Con := ⟨(List Int) × Repo × Int, Bool, 99, fun a => [.ro (List.map eInt a.1), .fn 98 [.rptr [.sl false 3 (List.map (eCommit false) a.2.1.commits), .sl false 2 (List.map eHead a.2.1.heads)], .rptr [.v (.int .i64 a.2.2)]]], fun a => gf_dy9 a.1 a.2.1 a.2.2, fun a r => ⟨[(false, [.v (.bool r)])], []⟩, fun a => []⟩
def if_ai9 : IFn := ⟨63, [.inl 6],
 (Rs [Io (.box 210 [some 115, some 130] (.t 0)) 3, Io (.mv (.c (.slice none 0 0))) 6]
 (.seq (Rs (sq 11 [La 2 3, Ca 96 [11], Nt 12, Mv 13] (Sf 14 15 [La 2 3, Mv 1, Ca 90 [15, 16], Nt 17] (sq 19 [Pk 14 18, Mv 19] (Sf 20 21 [La 2 3, Mv 2, Ca 90 [21, 22], Nt 23] [Pk 20 24 25]))))
 (Ct 25 (Rs [Io (.lit 17 [none] [.v (.int .i64 0)] 0 []) 26, Mv 26 6]
 .ret)
 .skip))
 (.seq (.drw (sq 27 [La 2 3, Mv 1, Ca 97 [27, 28], La 2 3, Mv 2, Ca 97 [30, 31]] (sq 7 [Mv 29, Mv 32] [])) [(0, 3), (2, 3)])
 (Rs [Io (.lit 17 [none] [.v (.int .i64 0)] 0 []) 33, Mv 33 9]
 (.seq (Rs (sq 34 [Mv 7, Ln 34, Bk .sub 35 1] [Io (.alloc 17 [.v (.int .i64 0)]) 10, Sv [none] 10 36])
 (blkC 0 (.loop (.seq (Rs (sq 37 [Ld 1 10, Bk .geq 37 0] [])
 (Ct 38 .skip
 (.exit 0)))
 (seqC (.block 1 (.seq (Rs (sq 41 [Mv 7, Ld 1 10, Ia 1 41 42, Ld 1 43, Nt 44, Mv 45] (Sf 46 47 [Mv 8, Ld 1 10, Ia 1 47 48, Ld 1 49, Nt 50] [Pk 46 51 52]))
 (Ct 52 (.exit 1)
 .skip))
 (Rs (sq 53 [Mv 9, Io (.mkf 98 [.t 3, .t 10]), Ca 99 [53, 54], Nt 55] [])
 (Ct 56 (.reg (sq 57 [Mv 9, Ld 1 10, Io (.lit 17 [none] [.v (.int .i64 0)] 1 [(0, .t 58)]), Io (.app 17 true (.t 57) (.t 59))] [Mv 60 9]))
 .skip))))
 (.seq (Rs [Ld 1 10 61]
 (.reg [Io (.alloc 17 [.v (.int .i64 0)]) 10, Sv [none] 10 61]))
 (.reg (sq 39 [Ld 1 10, Bk .sub 39 1] [Sv [none] 10 40]))))))))
 (Rs [Mv 9 62, Mv 62 6]
 .ret)))))), lcF []⟩
def ks_ai9 : List (List (Option Nat)) := [[some 17]]
def gl_aj9 (x11 : (List Bool)) (x15 : (List Bool)) (a0 : Repo) : Nat → (List Int) → Int → Option (List Int)
 | 0, _, _ => none
 | n82 + 1, v77, v80 => if (decide (v80 ≥ 0)) = true then ((((idx x11 v80).bind fun x94 => if (!x94) = true then (some v77) else ((idx x15 v80).bind fun x96 => if (!x96) = true then (some v77) else ((gf_dy9 v77 a0 v80).bind fun x98 => if (!x98) = true then (if fits (v77 ++ ([v80] : (List Int))).length = true then some (v77 ++ ([v80] : (List Int))) else none) else (some v77))) : Option (List Int))).bind fun q93 => gl_aj9 x11 x15 a0 n82 q93 (IntKind.i64.wrap (v80 - 1))) else (some v77)
def gf_ai9 (a0 : Repo) (a1 : Int) (a2 : Int) : Option (List Int) := (gf_ak9 a0).bind fun x2 => if (!x2) = true then (some (([] : (List Int)))) else ((gf_aq9 a0 a1).bind fun x4 => if (!x4) = true then (some (([] : (List Int)))) else ((gf_aq9 a0 a2).bind fun x6 => if (!x6) = true then (some (([] : (List Int)))) else ((gf_ap9 a0 a1).bind fun x11 => (gf_ap9 a0 a2).bind fun x15 => (gl_aj9 x11 x15 a0 rounds [] (IntKind.i64.wrap ((x11.length : Int) - 1))).bind fun q76 => some (q76))))
def c_ai9 : Con := ⟨Repo × Int × Int, (List Int), 100, fun a => [.agg [.ro (List.map (eCommit false) a.1.commits), .ro (List.map eHead a.1.heads)], .v (.int .i64 a.2.1), .v (.int .i64 a.2.2)], fun a => gf_ai9 a.1 a.2.1 a.2.2, fun a r => ⟨[(false, [sl true 17 (List.map eInt r)])], []⟩, fun a => []⟩
def gf_er9 (a0 : List Str) : Option (List Str) := sortS a0
def c_er9 : Con := sortSCon 121
theorem l_er9 {a0 r : List Str} (h : gf_er9 a0 = some r) : r.length = a0.length := sortS_len h
def gf_dv9 (a0 : List Str) : Option (List Str) := compS a0
def c_dv9 : Con := compSCon 122
def if_bc9 : IFn := ⟨8, [.inl 3],
 (Rs (sq 2 [Io (.box 100 [none, none, some 66, some 82] (.t 0)), Kb false] [])
 (Rs (sq 4 [Fa 0 2, Ld 1 4, Ld 1 1, Bb .eql 5 6] [Mv 7 3])
 .ret)), lcF []⟩
def ks_bc9 : List (List (Option Nat)) := [[none]]
def gf_bc9 (a0 : Feat) (a1 : Str) : Option Bool := some ((seq a0.id a1))
def c_bc9 : Con := ⟨Feat × Str, Bool, 123, fun a => [.agg [.v (.string a.1.id), .v (.int .i64 a.1.shape.kind), .ro (List.map ePt a.1.shape.pts), .ro (List.map eTag a.1.tags)], .rptr [.v (.string a.2)]], fun a => gf_bc9 a.1 a.2, fun a r => ⟨[(false, [.v (.bool r)])], []⟩, fun a => []⟩
def if_ei9 : IFn := ⟨19, [.inl 4],
 (Rs [Ki 0 4]
 (.seq (Rs (sq 6 [Mv 0, Ln 6, Ki 0] [])
 (blkC 0 (.loop (Rs [Bb .lss 8 7 9]
 (.seq (Ct 9 .skip
 (.exit 0))
 (.seq (.block 1 (Rs [Mv 8 10, Mv 10 5]
 (Rs (sq 11 [Mv 1, Mv 0, Mv 5, Ia 4 12 13, La 4 14, Io (.calld (.t 11) [(false, .t 15)])] [])
 (Ct 16 (Rs [Mv 5 17, Mv 17 4]
 .ret)
 .skip))))
 (.reg [Bk .add 8 1 18, Mv 18 8])))))))
 (Rs [Ki (-1) 4]
 .ret))), lcF []⟩
def ks_ei9 : List (List (Option Nat)) := [[none]]
def gl_ej9_1 (a1 : Str) : List Feat → Nat → Option (Int ⊕ Unit)
 | [], k16 => some (.inr ())
 | x17 :: l18, k16 => (gf_bc9 x17 a1).bind fun x25 => if x25 = true then (some (.inl ((k16 : Int)))) else (gl_ej9_1 a1 l18 (k16 + 1) )
def gf_ej9 (a0 : (List Feat)) (a1 : Str) : Option Int := if fits a0.length = true then ((gl_ej9_1 a1 a0 0 ).bind fun q => match q with | .inl r => some r | .inr q14 => some ((-1))) else none
def c_ej9 : Con := ⟨(List Feat) × Str, Int, 124, fun a => [.ro (List.map (eFeat false) a.1), .fn 123 [.rptr [.v (.string a.2)]]], fun a => gf_ej9 a.1 a.2, fun a r => ⟨[(false, [.v (.int .i64 r)])], []⟩, fun a => []⟩
def if_bb9 : IFn := ⟨8, [.inl 4],
 (Rs (sq 3 [Io (.box 49 [none] (.t 1)), Ki 0] [])
 (Rs (sq 5 [Mv 0, Io (.mkf 123 [.t 3]), Ca 124 [5, 6]] [Mv 7 4])
 .ret)), lcF []⟩
def ks_bb9 : List (List (Option Nat)) := [[none]]
def gf_bb9 (a0 : (List Feat)) (a1 : Str) : Option Int := (gf_ej9 a0 a1).bind fun x2 => some (x2)
def c_bb9 : Con := ⟨(List Feat) × Str, Int, 125, fun a => [.ro (List.map (eFeat false) a.1), .v (.string a.2)], fun a => gf_bb9 a.1 a.2, fun a r => ⟨[(false, [.v (.int .i64 r)])], []⟩, fun a => []⟩
def if_bp9 : IFn := ⟨18, [.inr (4, 4), .inl 5],
 (Rs (sq 4 [Io (.alloc 100 [.v (.string ⟨#[]⟩), .v (.int .i64 0), .sl true 66 [], .sl true 82 []]), Kb false] [])
 (Rs (sq 7 [Mv 0, Mv 1, Ca 125 [7, 8]] [Mv 9 6])
 (.seq (Rs (sq 10 [Mv 6, Bk .lss 10 0] [])
 (Ct 11 (Rs [Io (.build [.v (.string ⟨#[]⟩), .v (.int .i64 0), .nil, .nil] []) 12, Sv [none, none, some 66, some 82] 4 12, Kb false 5]
 .ret)
 .skip))
 (Rs (sq 13 [Mv 0, Mv 6, Ia 4 13 14, La 4 15, Ca 92 [16]] [Sv [none, none, some 66, some 82] 4 17, Kb true 5])
 .ret)))), lcF []⟩
def ks_bp9 : List (List (Option Nat)) := [[none, none, some 66, some 82], [none]]
def gf_bp9 (a0 : (List Feat)) (a1 : Str) : Option (Feat × Bool) := (gf_bb9 a0 a1).bind fun x2 => if (decide (x2 < 0)) = true then (some ((⟨(⟨#[]⟩ : Str), ⟨0, []⟩, []⟩ : Feat), false)) else ((idx a0 x2).bind fun x4 => (gf_az9 x4).bind fun x6 => some (x6, true))
def c_bp9 : Con := ⟨(List Feat) × Str, (Feat × Bool), 126, fun a => [.ro (List.map (eFeat false) a.1), .v (.string a.2)], fun a => gf_bp9 a.1 a.2, fun a r => ⟨[(true, eFeat true r.1), (false, [.v (.bool r.2)])], []⟩, fun a => []⟩
def gf_bd9 (a0 : List Pt) (a1 : List Pt) : Option (List (List Int)) := lensF a0 a1
def c_bd9 : Con := lensCon 131
def if_as9 : IFn := ⟨75, [.inl 4],
 (Rs [Io (.mv (.c (.slice none 0 0))) 4]
 (Rs [Io (.lit 194 [none, none] [.v (.int .i64 0), .v (.int .i64 0)] 0 []) 9, Mv 9 5]
 (.seq (Rs (sq 10 [Mv 0, Ln 10, Bk .gtr 11 12, Mv 12] (Sf 13 14 [Mv 1, Ln 14, Bk .gtr 15 12] [Pk 13 16 17]))
 (Ct 17 (Rs [Mv 5 18, Mv 18 4]
 .ret)
 .skip))
 (Rs (sq 19 [Mv 0, Mv 1, Io (.frz (.call 131 [(false, .t 19), (false, .t 20)]))] [Mv 21 6])
 (.seq (Rs (sq 7 [Ki 0, Ki 0] [])
 (blkC 0 (.loop (.seq (Rs (sq 22 [Mv 7, Mv 0, Ln 23, Bb .lss 22 24, Mv 25] (Sg 26 27 [Mv 8, Mv 1, Ln 28, Bb .lss 27 29] [Pf 26 30 31]))
 (Ct 31 .skip
 (.exit 0)))
 (.block 1 (.block 2 (.seq (.drw (sq 35 [Mv 0, Mv 7, Ia 2 35 36, La 2 37, Mv 1, Mv 8, Ia 2 39 40, La 2 41, Io (.eqs false true [0, 0] (.t 38) (.t 42))] [Mv 43 34]) [(3, 7)])
 (Ct 34 (Rs (sq 44 [Mv 5, Mv 7, Mv 8, Io (.build [.v (.int .i64 0), .v (.int .i64 0)] [(0, 1, .t 45), (1, 1, .t 46)]), Io (.lit 194 [none, none] [.v (.int .i64 0), .v (.int .i64 0)] 1 [(0, .t 47)]), Io (.app 194 true (.t 44) (.t 48))] [Mv 49 5])
 (Rs (sq 50 [Mv 7, Bk .add 50 1] [Mv 51 7])
 (.reg (sq 52 [Mv 8, Bk .add 52 1] [Mv 53 8]))))
 (.seq (.drw (sq 55 [Mv 6, Mv 7, Bk .add 56 1, Ia 1 55 57, Ld 1 58, Mv 8, Ia 1 59 60, Ld 1 61, Mv 6, Mv 7, Ia 1 63 64, Ld 1 65, Mv 8, Bk .add 67 1, Ia 1 66 68, Ld 1 69, Bb .geq 62 70] [Mv 71 54]) [(4, 11), (7, 11), (4, 15), (7, 15)])
 (Ct 54 (.reg (sq 72 [Mv 7, Bk .add 72 1] [Mv 73 7]))
 (.reg (sq 32 [Mv 8, Bk .add 32 1] [Mv 33 8]))))))))))))
 (Rs [Mv 5 74, Mv 74 4]
 .ret)))))), lcF []⟩
def ks_as9 : List (List (Option Nat)) := [[some 194]]
def gl_as9_1 (a0 : (List Pt)) (a1 : (List Pt)) (x2 : (List (List Int))) : Nat → Int → Int → (List Pair) → Option (List Pair)
 | 0, _, _, _ => none
 | n49 + 1, v44, v45, v46 => if (decide (v44 < (a0.length : Int))) = true then (if (decide (v45 < (a1.length : Int))) = true then ((idx a0 v44).bind fun x50 => (idx a1 v45).bind fun x52 => if ((x50.x == x52.x) && ((x50.y == x52.y) && true)) = true then (if fits (v46 ++ ([(⟨v44, v45⟩ : Pair)] : (List Pair))).length = true then gl_as9_1 a0 a1 x2 n49 (IntKind.i64.wrap (v44 + 1)) (IntKind.i64.wrap (v45 + 1)) (v46 ++ ([(⟨v44, v45⟩ : Pair)] : (List Pair))) else none) else ((idx x2 (IntKind.i64.wrap (v44 + 1))).bind fun x58 => (idx x58 v45).bind fun x60 => (idx x2 v44).bind fun x62 => (idx x62 (IntKind.i64.wrap (v45 + 1))).bind fun x64 => if (decide (x60 ≥ x64)) = true then (gl_as9_1 a0 a1 x2 n49 (IntKind.i64.wrap (v44 + 1)) v45 v46) else (gl_as9_1 a0 a1 x2 n49 v44 (IntKind.i64.wrap (v45 + 1)) v46))) else (some v46)) else (some v46)
def gf_as9 (a0 : (List Pt)) (a1 : (List Pt)) : Option (List Pair) := if (decide ((a0.length : Int) > 12)) = true then (some (([] : (List Pair)))) else (if (decide ((a1.length : Int) > 12)) = true then (some (([] : (List Pair)))) else ((gf_bd9 a0 a1).bind fun x2 => (gl_as9_1 a0 a1 x2 rounds 0 0 []).bind fun q43 => some (q43)))
def c_as9 : Con := ⟨(List Pt) × (List Pt), (List Pair), 132, fun a => [.ro (List.map ePt a.1), .ro (List.map ePt a.2)], fun a => gf_as9 a.1 a.2, fun a r => ⟨[(false, [sl true 194 (List.map ePair r)])], []⟩, fun a => []⟩
def if_bl9 : IFn := ⟨20, [.inl 4],
 (Rs [Ki 0 4]
 (.seq (Rs (sq 7 [Mv 0, Ln 7, Ki 0] [])
 (blkC 0 (.loop (Rs [Bb .lss 9 8 10]
 (.seq (Ct 10 .skip
 (.exit 0))
 (.seq (.block 1 (Rs (sq 11 [Ia 2 7 9, La 2 11] [Io (.alloc 194 [.v (.int .i64 0), .v (.int .i64 0)]) 6, Sv [none, none] 6 12])
 (Rs (sq 13 [Fa 0 6, Ld 1 13, Mv 1, Bb .eql 14 15] [])
 (Ct 16 (Rs (sq 17 [Fa 1 6, Ld 1 17] [Mv 18 4])
 .ret)
 .skip))))
 (.reg [Bk .add 9 1 19, Mv 19 9])))))))
 (Rs [Ki (-1) 4]
 .ret))), lcF []⟩
def ks_bl9 : List (List (Option Nat)) := [[none]]
def gl_bl9_1 (a1 : Int) : List Pair → Nat → Option (Int ⊕ Unit)
 | [], k13 => some (.inr ())
 | x14 :: l15, k13 => if (x14.a == a1) = true then (some (.inl (x14.b))) else (gl_bl9_1 a1 l15 (k13 + 1) )
def gf_bl9 (a0 : (List Pair)) (a1 : Int) : Option Int := if fits a0.length = true then ((gl_bl9_1 a1 a0 0 ).bind fun q => match q with | .inl r => some r | .inr q11 => some ((-1))) else none
def c_bl9 : Con := ⟨(List Pair) × Int, Int, 133, fun a => [.ro (List.map ePair a.1), .v (.int .i64 a.2)], fun a => gf_bl9 a.1 a.2, fun a r => ⟨[(false, [.v (.int .i64 r)])], []⟩, fun a => []⟩
def if_af9 : IFn := ⟨8, [.inl 3],
 (Rs (sq 2 [Io (.box 82 [none, none] (.t 0)), Kb false] [])
 (Rs (sq 4 [Fa 0 2, Ld 1 4, Ld 1 1, Bb .eql 5 6] [Mv 7 3])
 .ret)), lcF []⟩
def ks_af9 : List (List (Option Nat)) := [[none]]
def gf_af9 (a0 : Tag) (a1 : Str) : Option Bool := some ((seq a0.key a1))
def c_af9 : Con := ⟨Tag × Str, Bool, 134, fun a => [.agg [.v (.string a.1.key), .v (.string a.1.val)], .rptr [.v (.string a.2)]], fun a => gf_af9 a.1 a.2, fun a r => ⟨[(false, [.v (.bool r)])], []⟩, fun a => []⟩
def if_em9 : IFn := ⟨19, [.inl 4],
 (Rs [Ki 0 4]
 (.seq (Rs (sq 6 [Mv 0, Ln 6, Ki 0] [])
 (blkC 0 (.loop (Rs [Bb .lss 8 7 9]
 (.seq (Ct 9 .skip
 (.exit 0))
 (.seq (.block 1 (Rs [Mv 8 10, Mv 10 5]
 (Rs (sq 11 [Mv 1, Mv 0, Mv 5, Ia 2 12 13, La 2 14, Io (.calld (.t 11) [(false, .t 15)])] [])
 (Ct 16 (Rs [Mv 5 17, Mv 17 4]
 .ret)
 .skip))))
 (.reg [Bk .add 8 1 18, Mv 18 8])))))))
 (Rs [Ki (-1) 4]
 .ret))), lcF []⟩
def ks_em9 : List (List (Option Nat)) := [[none]]
def gl_en9_1 (a1 : Str) : List Tag → Nat → Option (Int ⊕ Unit)
 | [], k16 => some (.inr ())
 | x17 :: l18, k16 => (gf_af9 x17 a1).bind fun x25 => if x25 = true then (some (.inl ((k16 : Int)))) else (gl_en9_1 a1 l18 (k16 + 1) )
def gf_en9 (a0 : (List Tag)) (a1 : Str) : Option Int := if fits a0.length = true then ((gl_en9_1 a1 a0 0 ).bind fun q => match q with | .inl r => some r | .inr q14 => some ((-1))) else none
def c_en9 : Con := ⟨(List Tag) × Str, Int, 135, fun a => [.ro (List.map eTag a.1), .fn 134 [.rptr [.v (.string a.2)]]], fun a => gf_en9 a.1 a.2, fun a r => ⟨[(false, [.v (.int .i64 r)])], []⟩, fun a => []⟩
def if_ae9 : IFn := ⟨9, [.inl 4],
 (Rs (sq 2 [Io (.box 100 [none, none, some 66, some 82] (.t 0)), Io (.box 49 [none] (.t 1)), Ki 0] [])
 (Rs (sq 5 [Fa 3 2, Ld 1 5, Io (.mkf 134 [.t 3]), Ca 135 [6, 7]] [Mv 8 4])
 .ret)), lcF []⟩
def ks_ae9 : List (List (Option Nat)) := [[none]]
def gf_ae9 (a0 : Feat) (a1 : Str) : Option Int := (gf_en9 a0.tags a1).bind fun x3 => some (x3)
def c_ae9 : Con := ⟨Feat × Str, Int, 136, fun a => [.agg [.v (.string a.1.id), .v (.int .i64 a.1.shape.kind), .ro (List.map ePt a.1.shape.pts), .ro (List.map eTag a.1.tags)], .v (.string a.2)], fun a => gf_ae9 a.1 a.2, fun a r => ⟨[(false, [.v (.int .i64 r)])], []⟩, fun a => []⟩
def if_ar9 : IFn := ⟨117, [.inl 6, .inl 7],
 (Rs (sq 6 [Io (.mv (.c (.slice none 0 0))), Kb false] [])
 (.seq (Rs (sq 20 [Mv 0, Ln 20, Bk .gtr 21 12, Mv 22] (Sf 23 24 [Mv 1, Ln 24, Bk .gtr 25 12] (sq 27 [Pk 23 26, Mv 27] (Sf 28 29 [Mv 2, Ln 29, Bk .gtr 30 12] [Pk 28 31 32]))))
 (Ct 32 (Rs (Io (.lit 66 [none, none] [.v (.int .i64 0), .v (.int .i64 0)] 0 []) 33 :: (sq 6 [Mv 33, Kb false] []))
 .ret)
 .skip))
 (Rs (sq 34 [Mv 0, Mv 1, Ca 132 [34, 35], Mv 0, Mv 2, Ca 132 [37, 38]] (sq 8 [Mv 36, Mv 39] []))
 (Rs [Io (.lit 66 [none, none] [.v (.int .i64 0), .v (.int .i64 0)] 0 []) 40, Mv 40 10]
 (Rs (sq 11 [Ki 0, Ki 0, Ki 0] [])
 (.seq (Rs [Ki 0 14]
 (blkC 0 (.loop (.seq (Rs (sq 41 [Mv 14, Mv 0, Ln 42, Bb .leq 41 43] [])
 (Ct 44 .skip
 (.exit 0)))
 (seqC (.block 1 (Rs (sq 47 [Mv 1, Ln 47, Mv 2, Ln 49] (sq 15 [Mv 48, Mv 50] []))
 (.seq (Rs (sq 51 [Mv 14, Mv 0, Ln 52, Bb .lss 51 53] [])
 (Ct 54 (Rs (sq 55 [Mv 8, Mv 14, Ca 133 [55, 56], Mv 9, Mv 14, Ca 133 [58, 59]] (sq 15 [Mv 57, Mv 60] []))
 (Rs (sq 61 [Mv 15, Bk .lss 61 0, Mv 62] (Sf 63 64 [Mv 16, Bk .lss 64 0] [Pk 63 65 66]))
 (Ct 66 (.exit 1)
 .skip)))
 .skip))
 (.seq (.drw (sq 67 [Mv 0, Mv 11, Mv 14, Io (.sls 2 (.t 67) (some (.t 68)) (some (.t 69))), Mv 1, Mv 12, Mv 15, Io (.sls 2 (.t 71) (some (.t 72)) (some (.t 73))), Mv 2, Mv 13, Mv 16, Io (.sls 2 (.t 75) (some (.t 76)) (some (.t 77)))] (sq 17 [Mv 70, Mv 74, Mv 78] [])) [])
 (seqC (.block 2 (Rs (sq 81 [Mv 18, Mv 17, Ca 127 [81, 82]] [Mv 83 80])
 (Ct 80 (.reg (sq 84 [Mv 10, Mv 19, Io (.app 66 false (.t 84) (.t 85))] [Mv 86 10]))
 (Rs (sq 88 [Mv 19, Mv 17, Ca 127 [88, 89], Mv 90] (Sf 91 92 [Mv 18, Mv 19, Ca 127 [92, 93]] [Pk 91 94 95, Mv 95 87]))
 (Ct 87 (.reg (sq 96 [Mv 10, Mv 18, Io (.app 66 false (.t 96) (.t 97))] [Mv 98 10]))
 (Rs (Io (.lit 66 [none, none] [.v (.int .i64 0), .v (.int .i64 0)] 0 []) 79 :: (sq 6 [Mv 79, Kb false] []))
 .ret))))))
 (.seq (Rs (sq 99 [Mv 14, Mv 0, Ln 100, Bb .lss 99 101] [])
 (Ct 102 (.reg (sq 103 [Mv 10, Mv 0, Mv 14, Ia 2 104 105, La 2 106, Io (.lit 66 [none, none] [.v (.int .i64 0), .v (.int .i64 0)] 1 [(0, .t 107)]), Io (.app 66 true (.t 103) (.t 108))] [Mv 109 10]))
 .skip))
 (.reg (sq 110 [Mv 14, Bk .add 110 1, Mv 15, Bk .add 112 1, Mv 16, Bk .add 114 1] (sq 11 [Mv 111, Mv 113, Mv 115] [])))))))))
 (.reg (sq 45 [Mv 14, Bk .add 45 1] [Mv 46 14])))))))
 (Rs (Mv 10 116 :: (sq 6 [Mv 116, Kb true] []))
 .ret))))))), lcF []⟩
def ks_ar9 : List (List (Option Nat)) := [[some 66], [none]]
def gl_ar9_1 (a0 : (List Pt)) (x4 : (List Pair)) (x8 : (List Pair)) (a1 : (List Pt)) (a2 : (List Pt)) : Nat → Int → Int → Int → Int → (List Pt) → Option (((List Pt) × Bool) ⊕ (List Pt))
 | 0, _, _, _, _, _ => none
 | n649 + 1, v642, v643, v644, v645, v646 => if (decide (v645 ≤ (a0.length : Int))) = true then (((if (decide (v645 < (a0.length : Int))) = true then ((gf_bl9 x4 v645).bind fun x751 => (gf_bl9 x8 v645).bind fun x753 => if (decide (x751 < 0)) = true then (some (.inr (v642, v643, v644, v646))) else (if (decide (x753 < 0)) = true then (some (.inr (v642, v643, v644, v646))) else ((slc a0 v642 v645).bind fun x755 => (slc a1 v643 x751).bind fun x757 => (slc a2 v644 x753).bind fun x759 => (((gf_ec9 x757 x755).bind fun x778 => if x778 = true then (if fits (v646 ++ x759).length = true then some (.inr (v646 ++ x759)) else none) else ((gf_ec9 x759 x755).bind fun x783 => if x783 = true then (if fits (v646 ++ x757).length = true then some (.inr (v646 ++ x757)) else none) else ((gf_ec9 x757 x759).bind fun x785 => if x785 = true then (if fits (v646 ++ x757).length = true then some (.inr (v646 ++ x757)) else none) else (some (.inl (([] : (List Pt)), false))))) : Option (((List Pt) × Bool) ⊕ (List Pt)))).bind fun q => match q with | .inl r => some (.inl r) | .inr q777 => if (decide (v645 < (a0.length : Int))) = true then ((idx a0 v645).bind fun x797 => if fits (q777 ++ ([x797] : (List Pt))).length = true then some (.inr ((IntKind.i64.wrap (v645 + 1)), (IntKind.i64.wrap (x751 + 1)), (IntKind.i64.wrap (x753 + 1)), (q777 ++ ([x797] : (List Pt))))) else none) else (some (.inr ((IntKind.i64.wrap (v645 + 1)), (IntKind.i64.wrap (x751 + 1)), (IntKind.i64.wrap (x753 + 1)), q777)))))) else ((slc a0 v642 v645).bind fun x803 => (slc a1 v643 (a1.length : Int)).bind fun x805 => (slc a2 v644 (a2.length : Int)).bind fun x807 => (((gf_ec9 x805 x803).bind fun x826 => if x826 = true then (if fits (v646 ++ x807).length = true then some (.inr (v646 ++ x807)) else none) else ((gf_ec9 x807 x803).bind fun x831 => if x831 = true then (if fits (v646 ++ x805).length = true then some (.inr (v646 ++ x805)) else none) else ((gf_ec9 x805 x807).bind fun x833 => if x833 = true then (if fits (v646 ++ x805).length = true then some (.inr (v646 ++ x805)) else none) else (some (.inl (([] : (List Pt)), false))))) : Option (((List Pt) × Bool) ⊕ (List Pt)))).bind fun q => match q with | .inl r => some (.inl r) | .inr q825 => if (decide (v645 < (a0.length : Int))) = true then ((idx a0 v645).bind fun x845 => if fits (q825 ++ ([x845] : (List Pt))).length = true then some (.inr ((IntKind.i64.wrap (v645 + 1)), (IntKind.i64.wrap ((a1.length : Int) + 1)), (IntKind.i64.wrap ((a2.length : Int) + 1)), (q825 ++ ([x845] : (List Pt))))) else none) else (some (.inr ((IntKind.i64.wrap (v645 + 1)), (IntKind.i64.wrap ((a1.length : Int) + 1)), (IntKind.i64.wrap ((a2.length : Int) + 1)), q825)))) : Option (((List Pt) × Bool) ⊕ (Int × Int × Int × (List Pt))))).bind fun q => match q with | .inl r => some (.inl r) | .inr q750 => gl_ar9_1 a0 x4 x8 a1 a2 n649 q750.1 q750.2.1 q750.2.2.1 (IntKind.i64.wrap (v645 + 1)) q750.2.2.2) else (some (.inr v646))
def gf_ar9 (a0 : (List Pt)) (a1 : (List Pt)) (a2 : (List Pt)) : Option ((List Pt) × Bool) := if (decide ((a0.length : Int) > 12)) = true then (some (([] : (List Pt)), false)) else (if (decide ((a1.length : Int) > 12)) = true then (some (([] : (List Pt)), false)) else (if (decide ((a2.length : Int) > 12)) = true then (some (([] : (List Pt)), false)) else ((gf_as9 a0 a1).bind fun x4 => (gf_as9 a0 a2).bind fun x8 => (gl_ar9_1 a0 x4 x8 a1 a2 rounds 0 0 0 0 []).bind fun q => match q with | .inl r => some r | .inr q641 => some (q641, true))))
def c_ar9 : Con := ⟨(List Pt) × (List Pt) × (List Pt), ((List Pt) × Bool), 138, fun a => [.ro (List.map ePt a.1), .ro (List.map ePt a.2.1), .ro (List.map ePt a.2.2)], fun a => gf_ar9 a.1 a.2.1 a.2.2, fun a r => ⟨[(false, [sl true 66 (List.map ePt r.1)]), (false, [.v (.bool r.2)])], []⟩, fun a => []⟩
def gf_ef9 (a0 : Int) : Option (List Tag) := growF a0
def c_ef9 : Con := growCon 401 82 eTag
def if_dw9 : IFn := ⟨36, [.inl 2],
 (Rs [Io (.mv (.c (.slice none 0 0))) 2]
 (Rs [Ki 0 3]
 (.seq (Rs (sq 9 [Mv 0, Ln 9, Ki 0] [])
 (blkC 0 (.loop (Rs [Bb .lss 11 10 12]
 (.seq (Ct 12 .skip
 (.exit 0))
 (.seq (.block 1 (Rs (sq 13 [Ia 1 9 11, Ld 1 13] [Mv 14 5])
 (Rs (sq 15 [Mv 3, Mv 5, Ln 16, Bb .add 15 17] [Mv 18 3])
 (Rs (sq 19 [Mv 3, Bk .lss 19 0] [])
 (Ct 20 (.reg [Io (.dead) 21, Iz (.dead)])
 .skip)))))
 (.reg [Bk .add 11 1 22, Mv 22 11])))))))
 (Rs (sq 23 [Mv 3, Io (.call 401 [(false, .nl), (false, .t 23)])] [Mv 24 6])
 (.seq (Rs (sq 25 [Mv 0, Ln 25, Ki 0] [])
 (blkC 2 (.loop (Rs [Bb .lss 27 26 28]
 (.seq (Ct 28 .skip
 (.exit 2))
 (.seq (.block 3 (Rs (sq 29 [Ia 1 25 27, Ld 1 29] [Mv 30 8])
 (.reg (sq 31 [Mv 6, Mv 8, Io (.app 82 false (.t 31) (.t 32))] [Mv 33 6]))))
 (.reg [Bk .add 27 1 34, Mv 34 27])))))))
 (Rs [Mv 6 35, Mv 35 2]
 .ret)))))), lcF []⟩
def ks_dw9 : List (List (Option Nat)) := [[some 82]]
def gl_dw9_1 : List (List Tag) → Nat → Int → Option Int
 | [], k12, v10 => some v10
 | x13 :: l14, k12, v10 => if (decide ((IntKind.i64.wrap (v10 + (x13.length : Int))) < 0)) = true then (none) else (gl_dw9_1 l14 (k12 + 1) (IntKind.i64.wrap (v10 + (x13.length : Int))))
def gl_dw9_2 : List (List Tag) → Nat → (List Tag) → Option (List Tag)
 | [], k50, v47 => some v47
 | x51 :: l52, k50, v47 => if fits (v47 ++ x51).length = true then gl_dw9_2 l52 (k50 + 1) (v47 ++ x51) else none
def gf_dw9 (a0 : (List (List Tag))) : Option (List Tag) := if fits a0.length = true then ((gl_dw9_1 a0 0 0).bind fun q9 => (gf_ef9 q9).bind fun x22 => if fits a0.length = true then ((gl_dw9_2 a0 0 x22).bind fun q45 => some (q45)) else none) else none
def c_dw9 : Con := ⟨(List (List Tag)), (List Tag), 139, fun a => [.ro (List.map (eSl false 82 eTag) a)], fun a => gf_dw9 a, fun a r => ⟨[(false, [sl true 82 (List.map eTag r)])], []⟩, fun a => []⟩
def if_br9 : IFn := ⟨19, [.inr (4, 2)],
 (Rs [Io (.box 100 [none, none, some 66, some 82] (.t 0)) 2, Io (.alloc 306 [.v (.bool false), .v (.string ⟨#[]⟩)]) 4]
 (Rs (sq 6 [La 4 2, Mv 1, Ca 136 [6, 7]] [Mv 8 5])
 (.seq (Rs (sq 9 [Mv 5, Bk .lss 9 0] [])
 (Ct 10 (Rs [Io (.build [.v (.bool false), .v (.string ⟨#[]⟩)] []) 11, Sv [none, none] 4 11]
 .ret)
 .skip))
 (Rs (sq 12 [Fa 3 2, Ld 1 12, Mv 5, Ia 2 13 14, Fa 1 15, Ld 1 16, Io (.build [.v (.bool false), .v (.string ⟨#[]⟩)] [(0, 1, .c (.bool true)), (1, 1, .t 17)])] [Sv [none, none] 4 18])
 .ret)))), lcF []⟩
def ks_br9 : List (List (Option Nat)) := [[none, none]]
def gf_br9 (a0 : Feat) (a1 : Str) : Option Val := (gf_ae9 a0 a1).bind fun x3 => if (decide (x3 < 0)) = true then (some ((⟨false, (⟨#[]⟩ : Str)⟩ : Val))) else ((idx a0.tags x3).bind fun x5 => some ((⟨true, x5.val⟩ : Val)))
def c_br9 : Con := ⟨Feat × Str, Val, 140, fun a => [.agg [.v (.string a.1.id), .v (.int .i64 a.1.shape.kind), .ro (List.map ePt a.1.shape.pts), .ro (List.map eTag a.1.tags)], .v (.string a.2)], fun a => gf_br9 a.1 a.2, fun a r => ⟨[(true, eVal r)], []⟩, fun a => []⟩
def if_ab9 : IFn := ⟨8, [.inl 4],
 (Rs (sq 2 [Io (.box 306 [none, none] (.t 0)), Io (.box 306 [none, none] (.t 1)), Kb false] [])
 (Rs (sq 5 [La 2 2, La 2 3, Io (.eqs false true [1, 2] (.t 5) (.t 6))] [Mv 7 4])
 .ret)), lcF []⟩
def ks_ab9 : List (List (Option Nat)) := [[none]]
def gf_ab9 (a0 : Val) (a1 : Val) : Option Bool := some (((a0.has == a1.has) && ((a0.val == a1.val) && true)))
def c_ab9 : Con := ⟨Val × Val, Bool, 142, fun a => [.agg [.v (.bool a.1.has), .v (.string a.1.val)], .agg [.v (.bool a.2.has), .v (.string a.2.val)]], fun a => gf_ab9 a.1 a.2, fun a r => ⟨[(false, [.v (.bool r)])], []⟩, fun a => []⟩
def if_be9 : IFn := ⟨32, [.inl 2],
 (Rs [Io (.mv (.c (.slice none 0 0))) 2]
 (Rs [Io (.lit 49 [none] [.v (.string ⟨#[]⟩)] 0 []) 8, Mv 8 3]
 (.seq (Rs (sq 9 [Mv 0, Ln 9, Ki 0] [])
 (blkC 0 (.loop (Rs [Bb .lss 11 10 12]
 (.seq (Ct 12 .skip
 (.exit 0))
 (.seq (.block 1 (Rs (sq 13 [Ia 1 9 11, Ld 1 13] [Mv 14 5])
 (Rs (sq 15 [Mv 5, Ln 15, Ki 0] [])
 (blkC 2 (.loop (Rs [Bb .lss 17 16 18]
 (.seq (Ct 18 .skip
 (.exit 2))
 (.seq (.block 3 (Rs (sq 19 [Ia 4 15 17, La 4 19] [Io (.alloc 100 [.v (.string ⟨#[]⟩), .v (.int .i64 0), .sl true 66 [], .sl true 82 []]) 7, Sv [none, none, some 66, some 82] 7 20])
 (.reg (sq 21 [Mv 3, Fa 0 7, Ld 1 22, Io (.lit 49 [none] [.v (.string ⟨#[]⟩)] 1 [(0, .t 23)]), Io (.app 49 true (.t 21) (.t 24))] [Mv 25 3]))))
 (.reg [Bk .add 17 1 26, Mv 26 17])))))))))
 (.reg [Bk .add 11 1 27, Mv 27 11])))))))
 (Rs (sq 28 [Mv 3, Io (.call 121 [(true, .t 28)])] [])
 (Rs (sq 30 [Mv 3, Io (.call 122 [(true, .t 30)])] [Mv 31 2])
 .ret))))), lcF []⟩
def ks_be9 : List (List (Option Nat)) := [[some 49]]
def gl_be9_5 : List Feat → Nat → (List Str) → Option (List Str)
 | [], k197, v194 => some v194
 | x198 :: l199, k197, v194 => if fits (v194 ++ ([x198.id] : (List Str))).length = true then gl_be9_5 l199 (k197 + 1) (v194 ++ ([x198.id] : (List Str))) else none
def gl_be9_4 : List (List Feat) → Nat → (List Str) → Option (List Str)
 | [], k158, v155 => some v155
 | x159 :: l160, k158, v155 => if fits x159.length = true then ((gl_be9_5 x159 0 v155).bind fun q192 => gl_be9_4 l160 (k158 + 1) q192) else none
def gf_be9 (a0 : (List (List Feat))) : Option (List Str) := if fits a0.length = true then ((gl_be9_4 a0 0 []).bind fun q153 => (gf_er9 q153).bind fun x217 => (gf_dv9 x217).bind fun x219 => some (x219)) else none
def c_be9 : Con := ⟨(List (List Feat)), (List Str), 143, fun a => [.ro (List.map (eSl false 100 (eFeat false)) a)], fun a => gf_be9 a, fun a r => ⟨[(false, [sl true 49 (List.map eStr r)])], []⟩, fun a => []⟩
def if_bq9 : IFn := ⟨16, [.inr (4, 5)],
 (Rs [Io (.alloc 325 [.v (.bool false), .v (.string ⟨#[]⟩), .v (.int .i64 0), .sl true 66 [], .sl true 82 []]) 4]
 (Rs (sq 8 [Mv 0, Mv 1, Ca 126 [8, 9]] (Mv 10 7 :: (sq 11 [Xt 7 0, Xt 7 1] [Io (.alloc 100 [.v (.string ⟨#[]⟩), .v (.int .i64 0), .sl true 66 [], .sl true 82 []]) 5, Sv [none, none, some 66, some 82] 5 11, Mv 12 6])))
 (Rs (sq 13 [Mv 6, La 4 5, Io (.build [.v (.bool false), .v (.string ⟨#[]⟩), .v (.int .i64 0), .nil, .nil] [(0, 1, .t 13), (1, 4, .t 14)])] [Sv [none, none, none, some 66, some 82] 4 15])
 .ret))), lcF []⟩
def ks_bq9 : List (List (Option Nat)) := [[none, none, none, some 66, some 82]]
def gf_bq9 (a0 : (List Feat)) (a1 : Str) : Option Thing := (gf_bp9 a0 a1).bind fun x2 => some ((⟨x2.2, x2.1⟩ : Thing))
def c_bq9 : Con := ⟨(List Feat) × Str, Thing, 144, fun a => [.ro (List.map (eFeat false) a.1), .v (.string a.2)], fun a => gf_bq9 a.1 a.2, fun a r => ⟨[(true, eThing true r)], []⟩, fun a => []⟩
def if_bo9 : IFn := ⟨17, [.inl 4],
 (Rs (sq 2 [Io (.box 325 [none, none, none, some 66, some 82] (.t 0)), Io (.box 325 [none, none, none, some 66, some 82] (.t 1)), Kb false] [])
 (Rs (sq 5 [Fa 0 2, Ld 1 5, Fa 0 3, Ld 1 7, Io (.eqs false false [1] (.t 6) (.t 8)), Mv 9] (Sg 10 11 [Fa 1 2, La 4 11, Fa 1 3, La 4 13, Ca 130 [12, 14]] [Pf 10 15 16, Mv 16 4]))
 .ret)), lcF []⟩
def ks_bo9 : List (List (Option Nat)) := [[none]]
def gf_bo9 (a0 : Thing) (a1 : Thing) : Option Bool := if (a0.has == a1.has) = true then ((gf_ad9 a0.f a1.f).bind fun x3 => some (x3)) else (some (false))
def c_bo9 : Con := ⟨Thing × Thing, Bool, 146, fun a => [.agg [.v (.bool a.1.has), .v (.string a.1.f.id), .v (.int .i64 a.1.f.shape.kind), .ro (List.map ePt a.1.f.shape.pts), .ro (List.map eTag a.1.f.tags)], .agg [.v (.bool a.2.has), .v (.string a.2.f.id), .v (.int .i64 a.2.f.shape.kind), .ro (List.map ePt a.2.f.shape.pts), .ro (List.map eTag a.2.f.tags)]], fun a => gf_bo9 a.1 a.2, fun a r => ⟨[(false, [.v (.bool r)])], []⟩, fun a => []⟩
def if_bf9 : IFn := ⟨27, [.inr (8, 2), .inl 9],
 (Rs (sq 4 [Io (.box 226 [none, some 66] (.t 0)), Io (.box 226 [none, some 66] (.t 1)), Io (.box 226 [none, some 66] (.t 2))] (sq 8 [Io (.alloc 226 [.v (.int .i64 0), .sl true 66 []]), Kb false] []))
 (.seq (.block 0 (Rs (sq 11 [Mv 3, La 2 5, La 2 4, Io (.calld (.t 11) [(false, .t 12), (false, .t 13)])] [Mv 14 10])
 (Ct 10 (Rs [La 2 6 15, Sv [none, some 66] 8 15, Kb true 9]
 .ret)
 (.seq (Rs (sq 17 [Mv 3, La 2 6, La 2 4, Io (.calld (.t 17) [(false, .t 18), (false, .t 19)])] [Mv 20 16])
 (Ct 16 .skip
 (.reg (sq 21 [Mv 3, La 2 5, La 2 6, Io (.calld (.t 21) [(false, .t 22), (false, .t 23)])] [Mv 24 16]))))
 (Ct 16 (Rs [La 2 5 25, Sv [none, some 66] 8 25, Kb true 9]
 .ret)
 .skip)))))
 (Rs [La 2 5 26, Sv [none, some 66] 8 26, Kb false 9]
 .ret))), lcF []⟩
def ks_bf9 : List (List (Option Nat)) := [[none, some 66], [none]]
def gf_bg9 (a0 : Shape) (a1 : Shape) (a2 : Shape) : Option (Shape × Bool) := (gf_au9 a1 a0).bind fun x5 => if x5 = true then (some (a2, true)) else ((gf_au9 a2 a0).bind fun x7 => if x7 = true then (some (a1, true)) else ((gf_au9 a1 a2).bind fun x9 => if x9 = true then (some (a1, true)) else (some (a1, false))))
def c_bg9 : Con := ⟨Shape × Shape × Shape, (Shape × Bool), 137, fun a => [.agg [.v (.int .i64 a.1.kind), .ro (List.map ePt a.1.pts)], .agg [.v (.int .i64 a.2.1.kind), .ro (List.map ePt a.2.1.pts)], .agg [.v (.int .i64 a.2.2.kind), .ro (List.map ePt a.2.2.pts)], .fn 128 []], fun a => gf_bg9 a.1 a.2.1 a.2.2, fun a r => ⟨[(true, eShape false r.1), (false, [.v (.bool r.2)])], []⟩, fun a => []⟩
def if_bj9 : IFn := ⟨27, [.inr (8, 2), .inl 9],
 (Rs (sq 4 [Io (.box 306 [none, none] (.t 0)), Io (.box 306 [none, none] (.t 1)), Io (.box 306 [none, none] (.t 2))] (sq 8 [Io (.alloc 306 [.v (.bool false), .v (.string ⟨#[]⟩)]), Kb false] []))
 (.seq (.block 0 (Rs (sq 11 [Mv 3, La 2 5, La 2 4, Io (.calld (.t 11) [(false, .t 12), (false, .t 13)])] [Mv 14 10])
 (Ct 10 (Rs [La 2 6 15, Sv [none, none] 8 15, Kb true 9]
 .ret)
 (.seq (Rs (sq 17 [Mv 3, La 2 6, La 2 4, Io (.calld (.t 17) [(false, .t 18), (false, .t 19)])] [Mv 20 16])
 (Ct 16 .skip
 (.reg (sq 21 [Mv 3, La 2 5, La 2 6, Io (.calld (.t 21) [(false, .t 22), (false, .t 23)])] [Mv 24 16]))))
 (Ct 16 (Rs [La 2 5 25, Sv [none, none] 8 25, Kb true 9]
 .ret)
 .skip)))))
 (Rs [La 2 5 26, Sv [none, none] 8 26, Kb false 9]
 .ret))), lcF []⟩
def ks_bj9 : List (List (Option Nat)) := [[none, none], [none]]
def gf_bk9 (a0 : Val) (a1 : Val) (a2 : Val) : Option (Val × Bool) := (gf_ab9 a1 a0).bind fun x5 => if x5 = true then (some (a2, true)) else ((gf_ab9 a2 a0).bind fun x7 => if x7 = true then (some (a1, true)) else ((gf_ab9 a1 a2).bind fun x9 => if x9 = true then (some (a1, true)) else (some (a1, false))))
def c_bk9 : Con := ⟨Val × Val × Val, (Val × Bool), 141, fun a => [.agg [.v (.bool a.1.has), .v (.string a.1.val)], .agg [.v (.bool a.2.1.has), .v (.string a.2.1.val)], .agg [.v (.bool a.2.2.has), .v (.string a.2.2.val)], .fn 142 []], fun a => gf_bk9 a.1 a.2.1 a.2.2, fun a r => ⟨[(true, eVal r.1), (false, [.v (.bool r.2)])], []⟩, fun a => []⟩
def if_aa9 : IFn := ⟨195, [.inr (6, 4), .inl 7],
 (Rs (sq 3 [Io (.box 100 [none, none, some 66, some 82] (.t 0)), Io (.box 100 [none, none, some 66, some 82] (.t 1)), Io (.box 100 [none, none, some 66, some 82] (.t 2)), Io (.alloc 100 [.v (.string ⟨#[]⟩), .v (.int .i64 0), .sl true 66 [], .sl true 82 []]), Io (.mv (.c (.slice none 0 0)))] [])
 (Rs [Io (.lit 49 [none] [.v (.string ⟨#[]⟩)] 0 []) 25, Mv 25 8]
 (.seq (seqC (.reg (sq 26 [La 4 3, Ca 82 [26], Nt 27, Mv 28] (Sf 29 30 [La 4 4, Ca 82 [30], Nt 31] (sq 33 [Pk 29 32, Mv 33] (Sf 34 35 [La 4 5, Ca 82 [35], Nt 36] (sq 38 [Pk 34 37, Mv 38] (Sf 39 40 [Fa 0 3, Ld 1 40, Fa 0 4, Ld 1 42, Bb .neq 41 43] (sq 45 [Pk 39 44, Mv 45] (Sf 46 47 [Fa 0 3, Ld 1 47, Fa 0 5, Ld 1 49, Bb .neq 48 50] [Pk 46 51 52])))))))))
 (Ct 52 (Rs (sq 53 [Io (.build [.v (.string ⟨#[]⟩), .v (.int .i64 0), .nil, .nil] []), Mv 8] [Sv [none, none, some 66, some 82] 6 53, Mv 54 7])
 .ret)
 .skip))
 (Rs (sq 55 [Fa 0 4, Ld 1 55, Io (.lit 82 [none, none] [.v (.string ⟨#[]⟩), .v (.string ⟨#[]⟩)] 0 []), Io (.build [.v (.string ⟨#[]⟩), .v (.int .i64 0), .nil, .nil] [(0, 1, .t 56), (3, 1, .t 57)])] [Io (.alloc 100 [.v (.string ⟨#[]⟩), .v (.int .i64 0), .sl true 66 [], .sl true 82 []]) 9, Sv [none, none, some 66, some 82] 9 58])
 (seqC (.reg (sq 60 [Fa 1 3, La 2 60, Fa 1 4, La 2 62, Fa 1 5, La 2 64, Io (.call 137 [(false, .t 61), (false, .t 63), (false, .t 65), (false, .f 128)])] (Mv 66 59 :: (sq 67 [Xt 59 0, Xt 59 1] [Io (.alloc 226 [.v (.int .i64 0), .sl true 66 []]) 10, Sv [none, some 66] 10 67, Mv 68 11]))))
 (seqC (Rs (sq 69 [Mv 11, Nt 69] [])
 (Ct 70 (Rs [Kb false 12]
 (seqC (Rs (sq 71 [Fa 1 3, Fa 0 71, Ld 1 72, Fa 1 4, Fa 0 74, Ld 1 75, Bb .eql 73 76, Mv 77] (Sg 78 79 [Fa 1 3, Fa 0 79, Ld 1 80, Fa 1 5, Fa 0 82, Ld 1 83, Bb .eql 81 84] [Pf 78 85 86]))
 (Ct 86 (Rs (sq 88 [Fa 1 3, Fa 1 88, Ld 1 89, Fa 1 4, Fa 1 91, Ld 1 92, Fa 1 5, Fa 1 94, Ld 1 95, Io (.frz (.call 138 [(false, .t 90), (false, .t 93), (false, .t 96)]))] (Mv 97 87 :: (sq 98 [Xt 87 0, Xt 87 1] (sq 13 [Mv 98, Mv 99] []))))
 (Rs (sq 100 [Fa 1 4, Fa 0 100, Ld 1 101, Mv 13, Io (.build [.v (.int .i64 0), .nil] [(0, 1, .t 102), (1, 1, .t 103)])] [Io (.alloc 226 [.v (.int .i64 0), .sl true 66 []]) 15, Sv [none, some 66] 15 104])
 (Rs (sq 105 [Mv 14, Mv 105] (Sg 106 107 [La 2 15, Ca 81 [107]] [Pf 106 108 109]))
 (Ct 109 (.reg [La 2 15 110, Sv [none, some 66] 10 110, Kb true 12])
 .skip))))
 .skip))
 (Rs (sq 111 [Mv 12, Nt 111] [])
 (Ct 112 (.reg (sq 113 [Mv 8, Io (.lit 49 [none] [.v (.string ⟨#[]⟩)] 1 [(0, .c (.string ⟨#[115, 104, 97, 112, 101]⟩))]), Io (.app 49 true (.t 113) (.t 114))] [Mv 115 8]))
 .skip))))
 .skip))
 (Rs (sq 116 [La 2 10, Ca 91 [116], Fa 1 9] [Sv [none, some 66] 118 117])
 (Rs [Io (.lit 49 [none] [.v (.string ⟨#[]⟩)] 0 []) 119, Mv 119 16]
 (.seq (Rs (sq 120 [Fa 3 3, Ld 1 120, Fa 3 4, Ld 1 122, Fa 3 5, Ld 1 124, Io (.lit 529 [some 82] [.sl true 82 []] 3 [(0, .t 121), (1, .t 123), (2, .t 125)]), Ca 139 [126], Ln 127, Ki 0] [])
 (blkC 0 (.loop (Rs [Bb .lss 129 128 130]
 (.seq (Ct 130 .skip
 (.exit 0))
 (.seq (.block 1 (Rs (sq 131 [Ia 2 127 129, La 2 131] [Io (.alloc 82 [.v (.string ⟨#[]⟩), .v (.string ⟨#[]⟩)]) 18, Sv [none, none] 18 132])
 (.reg (sq 133 [Mv 16, Fa 0 18, Ld 1 134, Io (.lit 49 [none] [.v (.string ⟨#[]⟩)] 1 [(0, .t 135)]), Io (.app 49 true (.t 133) (.t 136))] [Mv 137 16]))))
 (.reg [Bk .add 129 1 138, Mv 138 129])))))))
 (Rs (sq 139 [Mv 16, Io (.call 121 [(true, .t 139)])] [])
 (.seq (Rs (sq 141 [Mv 16, Io (.call 122 [(true, .t 141)]), Ln 142, Ki 0] [])
 (blkC 2 (.loop (Rs [Bb .lss 144 143 145]
 (.seq (Ct 145 .skip
 (.exit 2))
 (.seq (.block 3 (Rs (sq 146 [Ia 1 142 144, Ld 1 146] [Mv 147 20])
 (.seq (.drw (sq 148 [La 4 4, Mv 20, Ca 140 [148, 149], La 4 5, Mv 20, Ca 140 [151, 152]] (sq 21 [Io (.alloc 306 [.v (.bool false), .v (.string ⟨#[]⟩)]), Io (.alloc 306 [.v (.bool false), .v (.string ⟨#[]⟩)])] [Sv [none, none] 21 150, Sv [none, none] 22 153])) [(0, 3), (2, 3), (0, 6), (2, 6), (3, 6), (5, 6), (0, 7), (2, 7), (3, 7), (5, 7), (6, 7)])
 (.seq (.drw (sq 155 [La 4 3, Mv 20, Ca 140 [155, 156], La 2 21, La 2 22, Io (.call 141 [(false, .t 157), (false, .t 158), (false, .t 159), (false, .f 142)])] (Mv 160 154 :: (sq 161 [Xt 154 0, Xt 154 1] [Io (.alloc 306 [.v (.bool false), .v (.string ⟨#[]⟩)]) 23, Sv [none, none] 23 161, Mv 162 24]))) [(0, 3), (2, 3), (0, 4), (2, 4), (3, 4), (0, 9), (2, 9), (3, 9), (4, 9), (5, 9)])
 (seqC (Rs (sq 163 [Mv 24, Nt 163] [])
 (Ct 164 (Rs (sq 165 [Mv 8, Mv 20, Io (.bin .add (.c (.string ⟨#[116, 97, 103, 32]⟩)) (.t 166)), Io (.lit 49 [none] [.v (.string ⟨#[]⟩)] 1 [(0, .t 167)]), Io (.app 49 true (.t 165) (.t 168))] [Mv 169 8])
 (Rs [La 2 21 170, Sv [none, none] 23 170]
 (Rs (sq 171 [Fa 0 21, Ld 1 171, Nt 172] [])
 (Ct 173 (.reg [La 2 22 174, Sv [none, none] 23 174])
 .skip))))
 .skip))
 (Rs (sq 175 [Fa 0 23, Ld 1 175] [])
 (Ct 176 (.reg (sq 177 [Fa 3 9, Ld 1 177, Mv 20, Fa 1 23, Ld 1 180, Io (.build [.v (.string ⟨#[]⟩), .v (.string ⟨#[]⟩)] [(0, 1, .t 179), (1, 1, .t 181)]), Io (.lit 82 [none, none] [.v (.string ⟨#[]⟩), .v (.string ⟨#[]⟩)] 1 [(0, .t 182)]), Io (.app 82 true (.t 178) (.t 183)), Fa 3 9] [Sv [some 82] 185 184]))
 .skip)))))))
 (.reg [Bk .add 144 1 186, Mv 186 144])))))))
 (.seq (Rs (sq 187 [La 4 9, Ca 82 [187], Nt 188] [])
 (Ct 189 (Rs (sq 190 [La 4 4, Ca 92 [190], Io (.lit 49 [none] [.v (.string ⟨#[]⟩)] 1 [(0, .c (.string ⟨#[109, 117, 99, 104]⟩))])] [Sv [none, none, some 66, some 82] 6 191, Mv 192 7])
 .ret)
 .skip))
 (Rs (sq 193 [La 4 9, Mv 8] [Sv [none, none, some 66, some 82] 6 193, Mv 194 7])
 .ret))))))))))))), lcF []⟩
def ks_aa9 : List (List (Option Nat)) := [[none, none, some 66, some 82], [some 49]]
def gl_ab9 : List Tag → Nat → (List Str) → Option (List Str)
 | [], k117, v114 => some v114
 | x118 :: l119, k117, v114 => if fits (v114 ++ ([x118.key] : (List Str))).length = true then gl_ab9 l119 (k117 + 1) (v114 ++ ([x118.key] : (List Str))) else none
def gl_aa9_2 (a1 : Feat) (a2 : Feat) (a0 : Feat) : List Str → Nat → (List Str) → (List Tag) → Option ((List Str) × (List Tag))
 | [], k265, v258, v261 => some (v258, v261)
 | x266 :: l267, k265, v258, v261 => (gf_br9 a1 x266).bind fun x274 => (gf_br9 a2 x266).bind fun x276 => (gf_br9 a0 x266).bind fun x280 => (gf_bk9 x280 x274 x276).bind fun x282 => ((if (!x282.2) = true then ((cat (⟨#[116, 97, 103, 32]⟩ : Str) x266).bind fun x292 => if fits (v258 ++ ([x292] : (List Str))).length = true then if (!x274.has) = true then (some ((v258 ++ ([x292] : (List Str))), x276.has, x276.val)) else (some ((v258 ++ ([x292] : (List Str))), x274.has, x274.val)) else none) else (some (v258, x282.1.has, x282.1.val)) : Option ((List Str) × Bool × Str))).bind fun q291 => if q291.2.1 = true then (if fits (v261 ++ ([(⟨x266, q291.2.2⟩ : Tag)] : (List Tag))).length = true then gl_aa9_2 a1 a2 a0 l267 (k265 + 1) q291.1 (v261 ++ ([(⟨x266, q291.2.2⟩ : Tag)] : (List Tag))) else none) else (gl_aa9_2 a1 a2 a0 l267 (k265 + 1) q291.1 v261)
def gf_aa9 (a0 : Feat) (a1 : Feat) (a2 : Feat) : Option (Feat × (List Str)) := (((gf_ac9 a0).bind fun x7 => if (!x7) = true then (some true) else ((gf_ac9 a1).bind fun x9 => if (!x9) = true then (some true) else ((gf_ac9 a2).bind fun x11 => if (!x11) = true then (some true) else (if (!seq a0.id a1.id) = true then (some true) else (some (!seq a0.id a2.id))))) : Option Bool)).bind fun q6 => if q6 = true then (some ((⟨(⟨#[]⟩ : Str), ⟨0, []⟩, []⟩ : Feat), ([] : (List Str)))) else ((((gf_bg9 a0.shape a1.shape a2.shape).bind fun x17 => some (x17.2, x17.1.kind, x17.1.pts) : Option (Bool × Int × (List Pt)))).bind fun q16 => ((if (!q16.1) = true then (((if (a0.shape.kind == a1.shape.kind) = true then (if (a0.shape.kind == a2.shape.kind) = true then ((gf_ar9 a0.shape.pts a1.shape.pts a2.shape.pts).bind fun x56 => if x56.2 = true then ((gf_at9 (⟨a1.shape.kind, x56.1⟩ : Shape)).bind fun x61 => if x61 = true then (some (true, a1.shape.kind, x56.1)) else (some (false, q16.2.1, q16.2.2))) else (some (false, q16.2.1, q16.2.2))) else (some (false, q16.2.1, q16.2.2))) else (some (false, q16.2.1, q16.2.2)) : Option (Bool × Int × (List Pt)))).bind fun q55 => if (!q55.1) = true then (if fits ([] ++ ([(⟨#[115, 104, 97, 112, 101]⟩ : Str)] : (List Str))).length = true then some (([] ++ ([(⟨#[115, 104, 97, 112, 101]⟩ : Str)] : (List Str))), q55.2.1, q55.2.2) else none) else (some ([], q55.2.1, q55.2.2))) else (some ([], q16.2.1, q16.2.2)) : Option ((List Str) × Int × (List Pt)))).bind fun q47 => (gf_ba9 (⟨q47.2.1, q47.2.2⟩ : Shape)).bind fun x77 => (gf_dw9 ([a0.tags, a1.tags, a2.tags] : (List (List Tag)))).bind fun x83 => if fits x83.length = true then ((gl_ab9 x83 0 []).bind fun q112 => (gf_er9 q112).bind fun x134 => (gf_dv9 x134).bind fun x136 => if fits x136.length = true then ((gl_aa9_2 a1 a2 a0 x136 0 q47.1 []).bind fun q256 => (gf_ac9 (⟨a1.id, x77, q256.2⟩ : Feat)).bind fun x315 => if (!x315) = true then ((gf_az9 a1).bind fun x317 => some (x317, ([(⟨#[109, 117, 99, 104]⟩ : Str)] : (List Str)))) else (some ((⟨a1.id, x77, q256.2⟩ : Feat), q256.1))) else none) else none)
def c_aa9 : Con := ⟨Feat × Feat × Feat, (Feat × (List Str)), 147, fun a => [.agg [.v (.string a.1.id), .v (.int .i64 a.1.shape.kind), .ro (List.map ePt a.1.shape.pts), .ro (List.map eTag a.1.tags)], .agg [.v (.string a.2.1.id), .v (.int .i64 a.2.1.shape.kind), .ro (List.map ePt a.2.1.shape.pts), .ro (List.map eTag a.2.1.tags)], .agg [.v (.string a.2.2.id), .v (.int .i64 a.2.2.shape.kind), .ro (List.map ePt a.2.2.shape.pts), .ro (List.map eTag a.2.2.tags)]], fun a => gf_aa9 a.1 a.2.1 a.2.2, fun a r => ⟨[(true, eFeat true r.1), (false, [sl true 49 (List.map eStr r.2)])], []⟩, fun a => []⟩
def if_ag9 : IFn := ⟨18, [.inl 6],
 (Rs [Io (.box 210 [some 115, some 130] (.t 0)) 3, Ki 0 6]
 (Rs (sq 8 [La 2 3, Mv 1, Mv 2, Ca 100 [8, 9, 10]] [Mv 11 7])
 (.seq (Rs (sq 12 [Mv 7, Ln 12, Bk .eql 13 0] [])
 (Ct 14 (Rs [Ki (-1) 6]
 .ret)
 .skip))
 (Rs (sq 15 [Mv 7, Ik 1 15 0, Ld 1 16] [Mv 17 6])
 .ret)))), lcF []⟩
def ks_ag9 : List (List (Option Nat)) := [[none]]
def gf_ag9 (a0 : Repo) (a1 : Int) (a2 : Int) : Option Int := (gf_ai9 a0 a1 a2).bind fun x2 => if ((x2.length : Int) == 0) = true then (some ((-1))) else ((idx x2 0).bind fun x6 => some (x6))
def c_ag9 : Con := ⟨Repo × Int × Int, Int, 148, fun a => [.agg [.ro (List.map (eCommit false) a.1.commits), .ro (List.map eHead a.1.heads)], .v (.int .i64 a.2.1), .v (.int .i64 a.2.2)], fun a => gf_ag9 a.1 a.2.1 a.2.2, fun a r => ⟨[(false, [.v (.int .i64 r)])], []⟩, fun a => []⟩
def if_bh9 : IFn := ⟨27, [.inr (8, 5), .inl 9],
 (Rs (sq 4 [Io (.box 325 [none, none, none, some 66, some 82] (.t 0)), Io (.box 325 [none, none, none, some 66, some 82] (.t 1)), Io (.box 325 [none, none, none, some 66, some 82] (.t 2))] (sq 8 [Io (.alloc 325 [.v (.bool false), .v (.string ⟨#[]⟩), .v (.int .i64 0), .sl true 66 [], .sl true 82 []]), Kb false] []))
 (.seq (.block 0 (seqC (.reg (sq 11 [Mv 3, La 5 5, La 5 4, Io (.calld (.t 11) [(false, .t 12), (false, .t 13)])] [Mv 14 10]))
 (Ct 10 (Rs [La 5 6 15, Sv [none, none, none, some 66, some 82] 8 15, Kb true 9]
 .ret)
 (.seq (Rs (sq 17 [Mv 3, La 5 6, La 5 4, Io (.calld (.t 17) [(false, .t 18), (false, .t 19)])] [Mv 20 16])
 (Ct 16 .skip
 (.reg (sq 21 [Mv 3, La 5 5, La 5 6, Io (.calld (.t 21) [(false, .t 22), (false, .t 23)])] [Mv 24 16]))))
 (Ct 16 (Rs [La 5 5 25, Sv [none, none, none, some 66, some 82] 8 25, Kb true 9]
 .ret)
 .skip)))))
 (Rs [La 5 5 26, Sv [none, none, none, some 66, some 82] 8 26, Kb false 9]
 .ret))), lcF []⟩
def ks_bh9 : List (List (Option Nat)) := [[none, none, none, some 66, some 82], [none]]
def gf_bi9 (a0 : Thing) (a1 : Thing) (a2 : Thing) : Option (Thing × Bool) := (((gf_bo9 a1 a0).bind fun x6 => some x6 : Option Bool)).bind fun q5 => if q5 = true then (some (a2, true)) else ((gf_bo9 a2 a0).bind fun x9 => if x9 = true then (some (a1, true)) else ((gf_bo9 a1 a2).bind fun x11 => if x11 = true then (some (a1, true)) else (some (a1, false))))
def c_bi9 : Con := ⟨Thing × Thing × Thing, (Thing × Bool), 145, fun a => [.agg [.v (.bool a.1.has), .v (.string a.1.f.id), .v (.int .i64 a.1.f.shape.kind), .ro (List.map ePt a.1.f.shape.pts), .ro (List.map eTag a.1.f.tags)], .agg [.v (.bool a.2.1.has), .v (.string a.2.1.f.id), .v (.int .i64 a.2.1.f.shape.kind), .ro (List.map ePt a.2.1.f.shape.pts), .ro (List.map eTag a.2.1.f.tags)], .agg [.v (.bool a.2.2.has), .v (.string a.2.2.f.id), .v (.int .i64 a.2.2.f.shape.kind), .ro (List.map ePt a.2.2.f.shape.pts), .ro (List.map eTag a.2.2.f.tags)], .fn 146 []], fun a => gf_bi9 a.1 a.2.1 a.2.2, fun a r => ⟨[(true, eThing false r.1), (false, [.v (.bool r.2)])], []⟩, fun a => []⟩
def if_av9 : IFn := ⟨137, [.inl 6, .inl 7, .inl 8],
 (Rs (sq 6 [Io (.mv (.c (.slice none 0 0))), Io (.mv (.c (.slice none 0 0))), Kb false] [])
 (Rs [Io (.lit 178 [none, none] [.v (.string ⟨#[]⟩), .v (.string ⟨#[]⟩)] 0 []) 22, Mv 22 9]
 (Rs [Io (.lit 100 [none, none, some 66, some 82] [.v (.string ⟨#[]⟩), .v (.int .i64 0), .sl true 66 [], .sl true 82 []] 0 []) 23, Mv 23 10]
 (.seq (Rs (sq 24 [Mv 0, Ca 86 [24], Nt 25, Mv 26] (Sf 27 28 [Mv 1, Ca 86 [28], Nt 29] (sq 31 [Pk 27 30, Mv 31] (Sf 32 33 [Mv 2, Ca 86 [33], Nt 34] [Pk 32 35 36]))))
 (Ct 36 (Rs (sq 37 [Mv 10, Mv 9] (sq 6 [Mv 37, Mv 38, Kb false] []))
 .ret)
 .skip))
 (.seq (Rs (sq 39 [Mv 0, Mv 1, Mv 2, Io (.lit 545 [some 100] [.sl true 100 []] 3 [(0, .t 39), (1, .t 40), (2, .t 41)]), Ca 143 [42], Ln 43, Ki 0] [])
 (blkC 0 (.loop (Rs [Bb .lss 45 44 46]
 (.seq (Ct 46 .skip
 (.exit 0))
 (.seq (.block 1 (Rs (sq 47 [Ia 1 43 45, Ld 1 47] [Mv 48 12])
 (seqC (.reg (sq 49 [Mv 0, Mv 12, Io (.frz (.call 144 [(false, .t 49), (false, .t 50)])), Mv 1, Mv 12, Io (.frz (.call 144 [(false, .t 52), (false, .t 53)])), Mv 2, Mv 12, Io (.frz (.call 144 [(false, .t 55), (false, .t 56)]))] (sq 13 [Io (.alloc 325 [.v (.bool false), .v (.string ⟨#[]⟩), .v (.int .i64 0), .sl true 66 [], .sl true 82 []]), Io (.alloc 325 [.v (.bool false), .v (.string ⟨#[]⟩), .v (.int .i64 0), .sl true 66 [], .sl true 82 []]), Io (.alloc 325 [.v (.bool false), .v (.string ⟨#[]⟩), .v (.int .i64 0), .sl true 66 [], .sl true 82 []])] [Sv [none, none, none, some 66, some 82] 13 51, Sv [none, none, none, some 66, some 82] 14 54, Sv [none, none, none, some 66, some 82] 15 57])))
 (Rs (sq 59 [La 5 13, La 5 14, La 5 15, Io (.frz (.call 145 [(false, .t 59), (false, .t 60), (false, .t 61), (false, .f 146)]))] (Mv 62 58 :: (sq 63 [Xt 58 0, Xt 58 1] [Io (.alloc 325 [.v (.bool false), .v (.string ⟨#[]⟩), .v (.int .i64 0), .sl true 66 [], .sl true 82 []]) 16, Sv [none, none, none, some 66, some 82] 16 63, Mv 64 17])))
 (seqC (.block 2 (Rs [Mv 17 91, Mv 91 90]
 (Ct 90 .skip
 (Rs (sq 93 [Fa 0 14, Ld 1 93, Nt 94, Mv 95] (Sf 96 97 [Fa 0 15, Ld 1 97, Nt 98] [Pk 96 99 100, Mv 100 92]))
 (Ct 92 (seqC (.reg [La 5 14 101, Sv [none, none, none, some 66, some 82] 16 101])
 (.seq (Rs (sq 102 [Fa 0 14, Ld 1 102, Nt 103] [])
 (Ct 104 (.reg [La 5 15 105, Sv [none, none, none, some 66, some 82] 16 105])
 .skip))
 (.reg (sq 106 [Mv 9, Mv 12, Io (.build [.v (.string ⟨#[]⟩), .v (.string ⟨#[]⟩)] [(0, 1, .t 107), (1, 1, .c (.string ⟨#[103, 111, 110, 101]⟩))]), Io (.lit 178 [none, none] [.v (.string ⟨#[]⟩), .v (.string ⟨#[]⟩)] 1 [(0, .t 108)]), Io (.app 178 true (.t 106) (.t 109))] [Mv 110 9]))))
 (Rs (sq 112 [Fa 0 13, Ld 1 112, Nt 113] [Mv 114 111])
 (Ct 111 (Rs [La 5 14 115, Sv [none, none, none, some 66, some 82] 16 115]
 (.reg (sq 116 [Mv 9, Mv 12, Io (.build [.v (.string ⟨#[]⟩), .v (.string ⟨#[]⟩)] [(0, 1, .t 117), (1, 1, .c (.string ⟨#[98, 111, 116, 104]⟩))]), Io (.lit 178 [none, none] [.v (.string ⟨#[]⟩), .v (.string ⟨#[]⟩)] 1 [(0, .t 118)]), Io (.app 178 true (.t 116) (.t 119))] [Mv 120 9])))
 (seqC (.reg (sq 66 [Fa 1 13, La 4 66, Fa 1 14, La 4 68, Fa 1 15, La 4 70, Io (.frz (.call 147 [(false, .t 67), (false, .t 69), (false, .t 71)]))] (Mv 72 65 :: (sq 73 [Xt 65 0, Xt 65 1] [Io (.alloc 100 [.v (.string ⟨#[]⟩), .v (.int .i64 0), .sl true 66 [], .sl true 82 []]) 18, Sv [none, none, some 66, some 82] 18 73, Mv 74 19]))))
 (Rs (sq 75 [La 4 18, Io (.build [.v (.bool false), .v (.string ⟨#[]⟩), .v (.int .i64 0), .nil, .nil] [(0, 1, .c (.bool true)), (1, 4, .t 75)])] [Sv [none, none, none, some 66, some 82] 16 76])
 (Rs (sq 77 [Mv 19, Ln 77, Ki 0] [])
 (blkC 3 (.loop (Rs [Bb .lss 79 78 80]
 (.seq (Ct 80 .skip
 (.exit 3))
 (.seq (.block 4 (Rs (sq 81 [Ia 1 77 79, Ld 1 81] [Mv 82 21])
 (.reg (sq 83 [Mv 9, Mv 12, Mv 21, Io (.build [.v (.string ⟨#[]⟩), .v (.string ⟨#[]⟩)] [(0, 1, .t 84), (1, 1, .t 85)]), Io (.lit 178 [none, none] [.v (.string ⟨#[]⟩), .v (.string ⟨#[]⟩)] 1 [(0, .t 86)]), Io (.app 178 true (.t 83) (.t 87))] [Mv 88 9]))))
 (.reg [Bk .add 79 1 89, Mv 89 79]))))))))))))))))
 (Rs (sq 121 [Fa 0 16, Ld 1 121] [])
 (Ct 122 (.reg (sq 123 [Mv 10, Fa 1 16, La 4 124, Ca 92 [125], Io (.lit 100 [none, none, some 66, some 82] [.v (.string ⟨#[]⟩), .v (.int .i64 0), .sl true 66 [], .sl true 82 []] 1 [(0, .t 126)]), Io (.app 100 true (.t 123) (.t 127))] [Mv 128 10]))
 .skip)))))))
 (.reg [Bk .add 45 1 129, Mv 129 45])))))))
 (.seq (Rs (sq 130 [Mv 10, Ca 86 [130], Nt 131] [])
 (Ct 132 (Rs (sq 133 [Io (.lit 100 [none, none, some 66, some 82] [.v (.string ⟨#[]⟩), .v (.int .i64 0), .sl true 66 [], .sl true 82 []] 0 []), Io (.lit 178 [none, none] [.v (.string ⟨#[]⟩), .v (.string ⟨#[]⟩)] 0 [])] (sq 6 [Mv 133, Mv 134, Kb false] []))
 .ret)
 .skip))
 (Rs (sq 135 [Mv 10, Mv 9] (sq 6 [Mv 135, Mv 136, Kb true] []))
 .ret))))))), lcF []⟩
def ks_av9 : List (List (Option Nat)) := [[some 100], [some 178], [none]]
def gl_av9_9 (x723 : Str) : List Str → Nat → (List Clash) → Option (List Clash)
 | [], k925, v922 => some v922
 | x926 :: l927, k925, v922 => if fits (v922 ++ ([(⟨x723, x926⟩ : Clash)] : (List Clash))).length = true then gl_av9_9 x723 l927 (k925 + 1) (v922 ++ ([(⟨x723, x926⟩ : Clash)] : (List Clash))) else none
def gl_av9_7 (a0 : (List Feat)) (a1 : (List Feat)) (a2 : (List Feat)) : List Str → Nat → (List Clash) → (List Feat) → Option ((List Clash) × (List Feat))
 | [], k722, v716, v719 => some (v716, v719)
 | x723 :: l724, k722, v716, v719 => (((gf_bq9 a0 x723).bind fun x732 => (gf_bq9 a1 x723).bind fun x738 => (gf_bq9 a2 x723).bind fun x744 => some (x732.has, x732.f.id, x732.f.shape.kind, x732.f.shape.pts, x732.f.tags, x738.has, x738.f.id, x738.f.shape.kind, x738.f.shape.pts, x738.f.tags, x744.has, x744.f.id, x744.f.shape.kind, x744.f.shape.pts, x744.f.tags) : Option (Bool × Str × Int × (List Pt) × (List Tag) × Bool × Str × Int × (List Pt) × (List Tag) × Bool × Str × Int × (List Pt) × (List Tag)))).bind fun q731 => (gf_bi9 (⟨q731.1, ⟨q731.2.1, ⟨q731.2.2.1, q731.2.2.2.1⟩, q731.2.2.2.2.1⟩⟩ : Thing) (⟨q731.2.2.2.2.2.1, ⟨q731.2.2.2.2.2.2.1, ⟨q731.2.2.2.2.2.2.2.1, q731.2.2.2.2.2.2.2.2.1⟩, q731.2.2.2.2.2.2.2.2.2.1⟩⟩ : Thing) (⟨q731.2.2.2.2.2.2.2.2.2.2.1, ⟨q731.2.2.2.2.2.2.2.2.2.2.2.1, ⟨q731.2.2.2.2.2.2.2.2.2.2.2.2.1, q731.2.2.2.2.2.2.2.2.2.2.2.2.2.1⟩, q731.2.2.2.2.2.2.2.2.2.2.2.2.2.2⟩⟩ : Thing)).bind fun x771 => ((if x771.2 = true then (some (v716, x771.1.has, x771.1.f.id, x771.1.f.shape.kind, x771.1.f.shape.pts, x771.1.f.tags)) else (if (!q731.2.2.2.2.2.1) = true then (((some () : Option Unit)).bind fun q858 => if (!q731.2.2.2.2.2.1) = true then (if fits (v716 ++ ([(⟨x723, (⟨#[103, 111, 110, 101]⟩ : Str)⟩ : Clash)] : (List Clash))).length = true then some ((v716 ++ ([(⟨x723, (⟨#[103, 111, 110, 101]⟩ : Str)⟩ : Clash)] : (List Clash))), q731.2.2.2.2.2.2.2.2.2.2.1, q731.2.2.2.2.2.2.2.2.2.2.2.1, q731.2.2.2.2.2.2.2.2.2.2.2.2.1, q731.2.2.2.2.2.2.2.2.2.2.2.2.2.1, q731.2.2.2.2.2.2.2.2.2.2.2.2.2.2) else none) else (if fits (v716 ++ ([(⟨x723, (⟨#[103, 111, 110, 101]⟩ : Str)⟩ : Clash)] : (List Clash))).length = true then some ((v716 ++ ([(⟨x723, (⟨#[103, 111, 110, 101]⟩ : Str)⟩ : Clash)] : (List Clash))), q731.2.2.2.2.2.1, q731.2.2.2.2.2.2.1, q731.2.2.2.2.2.2.2.1, q731.2.2.2.2.2.2.2.2.1, q731.2.2.2.2.2.2.2.2.2.1) else none)) else (if (!q731.2.2.2.2.2.2.2.2.2.2.1) = true then (((some () : Option Unit)).bind fun q868 => if (!q731.2.2.2.2.2.1) = true then (if fits (v716 ++ ([(⟨x723, (⟨#[103, 111, 110, 101]⟩ : Str)⟩ : Clash)] : (List Clash))).length = true then some ((v716 ++ ([(⟨x723, (⟨#[103, 111, 110, 101]⟩ : Str)⟩ : Clash)] : (List Clash))), q731.2.2.2.2.2.2.2.2.2.2.1, q731.2.2.2.2.2.2.2.2.2.2.2.1, q731.2.2.2.2.2.2.2.2.2.2.2.2.1, q731.2.2.2.2.2.2.2.2.2.2.2.2.2.1, q731.2.2.2.2.2.2.2.2.2.2.2.2.2.2) else none) else (if fits (v716 ++ ([(⟨x723, (⟨#[103, 111, 110, 101]⟩ : Str)⟩ : Clash)] : (List Clash))).length = true then some ((v716 ++ ([(⟨x723, (⟨#[103, 111, 110, 101]⟩ : Str)⟩ : Clash)] : (List Clash))), q731.2.2.2.2.2.1, q731.2.2.2.2.2.2.1, q731.2.2.2.2.2.2.2.1, q731.2.2.2.2.2.2.2.2.1, q731.2.2.2.2.2.2.2.2.2.1) else none)) else (if (!q731.1) = true then (if fits (v716 ++ ([(⟨x723, (⟨#[98, 111, 116, 104]⟩ : Str)⟩ : Clash)] : (List Clash))).length = true then some ((v716 ++ ([(⟨x723, (⟨#[98, 111, 116, 104]⟩ : Str)⟩ : Clash)] : (List Clash))), q731.2.2.2.2.2.1, q731.2.2.2.2.2.2.1, q731.2.2.2.2.2.2.2.1, q731.2.2.2.2.2.2.2.2.1, q731.2.2.2.2.2.2.2.2.2.1) else none) else ((((gf_aa9 (⟨q731.2.1, ⟨q731.2.2.1, q731.2.2.2.1⟩, q731.2.2.2.2.1⟩ : Feat) (⟨q731.2.2.2.2.2.2.1, ⟨q731.2.2.2.2.2.2.2.1, q731.2.2.2.2.2.2.2.2.1⟩, q731.2.2.2.2.2.2.2.2.2.1⟩ : Feat) (⟨q731.2.2.2.2.2.2.2.2.2.2.2.1, ⟨q731.2.2.2.2.2.2.2.2.2.2.2.2.1, q731.2.2.2.2.2.2.2.2.2.2.2.2.2.1⟩, q731.2.2.2.2.2.2.2.2.2.2.2.2.2.2⟩ : Feat)).bind fun x883 => some (x883.2, x883.1.id, x883.1.shape.kind, x883.1.shape.pts, x883.1.tags) : Option ((List Str) × Str × Int × (List Pt) × (List Tag)))).bind fun q882 => if fits q882.1.length = true then ((gl_av9_9 x723 q882.1 0 v716).bind fun q920 => some (q920, true, q882.2.1, q882.2.2.1, q882.2.2.2.1, q882.2.2.2.2)) else none)))) : Option ((List Clash) × Bool × Str × Int × (List Pt) × (List Tag)))).bind fun q857 => if q857.2.1 = true then ((gf_az9 (⟨q857.2.2.1, ⟨q857.2.2.2.1, q857.2.2.2.2.1⟩, q857.2.2.2.2.2⟩ : Feat)).bind fun x950 => if fits (v719 ++ ([x950] : (List Feat))).length = true then gl_av9_7 a0 a1 a2 l724 (k722 + 1) q857.1 (v719 ++ ([x950] : (List Feat))) else none) else (gl_av9_7 a0 a1 a2 l724 (k722 + 1) q857.1 v719)
def gf_av9 (a0 : (List Feat)) (a1 : (List Feat)) (a2 : (List Feat)) : Option ((List Feat) × (List Clash) × Bool) := (gf_aw9 a0).bind fun x3 => if (!x3) = true then (some (([] : (List Feat)), ([] : (List Clash)), false)) else ((gf_aw9 a1).bind fun x5 => if (!x5) = true then (some (([] : (List Feat)), ([] : (List Clash)), false)) else ((gf_aw9 a2).bind fun x7 => if (!x7) = true then (some (([] : (List Feat)), ([] : (List Clash)), false)) else ((gf_be9 ([a0, a1, a2] : (List (List Feat)))).bind fun x10 => if fits x10.length = true then ((gl_av9_7 a0 a1 a2 x10 0 [] []).bind fun q714 => (gf_aw9 q714.2).bind fun x966 => if (!x966) = true then (some (([] : (List Feat)), ([] : (List Clash)), false)) else (some (q714.2, q714.1, true))) else none)))
def c_av9 : Con := ⟨(List Feat) × (List Feat) × (List Feat), ((List Feat) × (List Clash) × Bool), 149, fun a => [.ro (List.map (eFeat false) a.1), .ro (List.map (eFeat false) a.2.1), .ro (List.map (eFeat false) a.2.2)], fun a => gf_av9 a.1 a.2.1 a.2.2, fun a r => ⟨[(false, [sl true 100 (List.map (eFeat true) r.1)]), (false, [sl true 178 (List.map eClash r.2.1)]), (false, [.v (.bool r.2.2)])], []⟩, fun a => []⟩
def if_ah9 : IFn := ⟨40, [.inl 6, .inl 7, .inl 8],
 (Rs (Io (.box 210 [some 115, some 130] (.t 0)) 3 :: (sq 6 [Io (.mv (.c (.slice none 0 0))), Io (.mv (.c (.slice none 0 0))), Kb false] []))
 (Rs (sq 10 [La 2 3, Mv 1, Mv 2, Ca 148 [10, 11, 12]] [Mv 13 9])
 (.seq (Rs (sq 14 [Mv 9, Bk .lss 14 0] [])
 (Ct 15 (Rs (sq 16 [Io (.lit 100 [none, none, some 66, some 82] [.v (.string ⟨#[]⟩), .v (.int .i64 0), .sl true 66 [], .sl true 82 []] 0 []), Io (.lit 178 [none, none] [.v (.string ⟨#[]⟩), .v (.string ⟨#[]⟩)] 0 [])] (sq 6 [Mv 16, Mv 17, Kb false] []))
 .ret)
 .skip))
 (.seq (.drw (sq 18 [Fa 0 3, Ld 1 18, Mv 9, Ia 3 19 20, Fa 1 21, Ld 1 22, Fa 0 3, Ld 1 24, Mv 1, Ia 3 25 26, Fa 1 27, Ld 1 28, Fa 0 3, Ld 1 30, Mv 2, Ia 3 31 32, Fa 1 33, Ld 1 34, Ca 149 [23, 29, 35], Xt 36 0, Xt 36 1, Xt 36 2] (sq 6 [Mv 37, Mv 38, Mv 39] [])) [(1, 7), (5, 7), (1, 11), (5, 11), (1, 13), (5, 13), (7, 13), (11, 13), (1, 17), (5, 17), (7, 17), (11, 17)])
 .ret)))), lcF []⟩
def ks_ah9 : List (List (Option Nat)) := [[some 100], [some 178], [none]]
def gf_ah9 (a0 : Repo) (a1 : Int) (a2 : Int) : Option ((List Feat) × (List Clash) × Bool) := (gf_ag9 a0 a1 a2).bind fun x2 => if (decide (x2 < 0)) = true then (some (([] : (List Feat)), ([] : (List Clash)), false)) else ((idx a0.commits x2).bind fun x6 => (idx a0.commits a1).bind fun x8 => (idx a0.commits a2).bind fun x10 => (gf_av9 x6.sheet x8.sheet x10.sheet).bind fun x12 => some (x12.1, x12.2.1, x12.2.2))
def c_ah9 : Con := ⟨Repo × Int × Int, ((List Feat) × (List Clash) × Bool), 151, fun a => [.agg [.ro (List.map (eCommit false) a.1.commits), .ro (List.map eHead a.1.heads)], .v (.int .i64 a.2.1), .v (.int .i64 a.2.2)], fun a => gf_ah9 a.1 a.2.1 a.2.2, fun a r => ⟨[(false, [sl true 100 (List.map (eFeat true) r.1)]), (false, [sl true 178 (List.map eClash r.2.1)]), (false, [.v (.bool r.2.2)])], []⟩, fun a => []⟩
def if_cd9 : IFn := ⟨15, [.inl 4],
 (Rs (sq 2 [Io (.box 66 [none, none] (.t 0)), Io (.box 66 [none, none] (.t 1)), Kb false] [])
 (.seq (Rs (sq 5 [Fa 0 2, Ld 1 5, Fa 0 3, Ld 1 7, Bb .neq 6 8] [])
 (Ct 9 (Rs [Kb false 4]
 .ret)
 .skip))
 (.seq (Rs (sq 10 [Fa 1 2, Ld 1 10, Fa 1 3, Ld 1 12, Bb .neq 11 13] [])
 (Ct 14 (Rs [Kb false 4]
 .ret)
 .skip))
 (Rs [Kb true 4]
 .ret)))), lcF []⟩
def ks_cd9 : List (List (Option Nat)) := [[none]]
def gf_cd9 (a0 : Pt) (a1 : Pt) : Option Bool := if (a0.x != a1.x) = true then (some (false)) else (if (a0.y != a1.y) = true then (some (false)) else (some (true)))
def c_cd9 : Con := ⟨Pt × Pt, Bool, 153, fun a => [.agg [.v (.int .i64 a.1.x), .v (.int .i64 a.1.y)], .agg [.v (.int .i64 a.2.x), .v (.int .i64 a.2.y)]], fun a => gf_cd9 a.1 a.2, fun a r => ⟨[(false, [.v (.bool r)])], []⟩, fun a => []⟩
def if_ce9 : IFn := ⟨27, [.inl 4],
 (Rs [Kb false 4]
 (.seq (Rs (sq 6 [Mv 0, Ln 6, Mv 1, Ln 8, Bb .neq 7 9] [])
 (Ct 10 (Rs [Kb false 4]
 .ret)
 .skip))
 (.seq (Rs [Ki 0 5]
 (blkC 0 (.loop (.seq (Rs (sq 11 [Mv 5, Mv 0, Ln 12, Bb .lss 11 13] [])
 (Ct 14 .skip
 (.exit 0)))
 (.seq (.block 1 (.seq (.drw (sq 17 [Mv 0, Mv 5, Ia 2 17 18, La 2 19, Mv 1, Mv 5, Ia 2 21 22, La 2 23, Ca 153 [20, 24], Nt 25] []) [(3, 7)])
 (Ct 26 (Rs [Kb false 4]
 .ret)
 .skip)))
 (.reg (sq 15 [Mv 5, Bk .add 15 1] [Mv 16 5])))))))
 (Rs [Kb true 4]
 .ret)))), lcF []⟩
def ks_ce9 : List (List (Option Nat)) := [[none]]
def gl_ce9_1 (a1 : (List Pt)) : List Pt → Nat → Option (Bool ⊕ Unit)
 | [], k22 => some (.inr ())
 | x23 :: l24, k22 => (idx a1 (k22 : Int)).bind fun x31 => (gf_cd9 x23 x31).bind fun x33 => if (!x33) = true then (some (.inl (false))) else (gl_ce9_1 a1 l24 (k22 + 1) )
def gf_ce9 (a0 : (List Pt)) (a1 : (List Pt)) : Option Bool := if ((a0.length : Int) != (a1.length : Int)) = true then (some (false)) else (if fits a0.length = true then ((gl_ce9_1 a1 a0 0 ).bind fun q => match q with | .inl r => some r | .inr q20 => some (true)) else none)
def c_ce9 : Con := ⟨(List Pt) × (List Pt), Bool, 154, fun a => [.ro (List.map ePt a.1), .ro (List.map ePt a.2)], fun a => gf_ce9 a.1 a.2, fun a r => ⟨[(false, [.v (.bool r)])], []⟩, fun a => []⟩
def if_ch9 : IFn := ⟨15, [.inl 4],
 (Rs (sq 2 [Io (.box 82 [none, none] (.t 0)), Io (.box 82 [none, none] (.t 1)), Kb false] [])
 (.seq (Rs (sq 5 [Fa 0 2, Ld 1 5, Fa 0 3, Ld 1 7, Bb .neq 6 8] [])
 (Ct 9 (Rs [Kb false 4]
 .ret)
 .skip))
 (.seq (Rs (sq 10 [Fa 1 2, Ld 1 10, Fa 1 3, Ld 1 12, Bb .neq 11 13] [])
 (Ct 14 (Rs [Kb false 4]
 .ret)
 .skip))
 (Rs [Kb true 4]
 .ret)))), lcF []⟩
def ks_ch9 : List (List (Option Nat)) := [[none]]
def gf_ch9 (a0 : Tag) (a1 : Tag) : Option Bool := if (!seq a0.key a1.key) = true then (some (false)) else (if (!seq a0.val a1.val) = true then (some (false)) else (some (true)))
def c_ch9 : Con := ⟨Tag × Tag, Bool, 155, fun a => [.agg [.v (.string a.1.key), .v (.string a.1.val)], .agg [.v (.string a.2.key), .v (.string a.2.val)]], fun a => gf_ch9 a.1 a.2, fun a r => ⟨[(false, [.v (.bool r)])], []⟩, fun a => []⟩
def if_cg9 : IFn := ⟨16, [.inl 4],
 (Rs (sq 2 [Io (.box 226 [none, some 66] (.t 0)), Io (.box 226 [none, some 66] (.t 1)), Kb false] [])
 (.seq (Rs (sq 5 [Fa 0 2, Ld 1 5, Fa 0 3, Ld 1 7, Bb .neq 6 8] [])
 (Ct 9 (Rs [Kb false 4]
 .ret)
 .skip))
 (.seq (Rs (sq 10 [Fa 1 2, Ld 1 10, Fa 1 3, Ld 1 12, Ca 154 [11, 13], Nt 14] [])
 (Ct 15 (Rs [Kb false 4]
 .ret)
 .skip))
 (Rs [Kb true 4]
 .ret)))), lcF []⟩
def ks_cg9 : List (List (Option Nat)) := [[none]]
def gf_cg9 (a0 : Shape) (a1 : Shape) : Option Bool := if (a0.kind != a1.kind) = true then (some (false)) else ((gf_ce9 a0.pts a1.pts).bind fun x3 => if (!x3) = true then (some (false)) else (some (true)))
def c_cg9 : Con := ⟨Shape × Shape, Bool, 156, fun a => [.agg [.v (.int .i64 a.1.kind), .ro (List.map ePt a.1.pts)], .agg [.v (.int .i64 a.2.kind), .ro (List.map ePt a.2.pts)]], fun a => gf_cg9 a.1 a.2, fun a r => ⟨[(false, [.v (.bool r)])], []⟩, fun a => []⟩
def if_ci9 : IFn := ⟨27, [.inl 4],
 (Rs [Kb false 4]
 (.seq (Rs (sq 6 [Mv 0, Ln 6, Mv 1, Ln 8, Bb .neq 7 9] [])
 (Ct 10 (Rs [Kb false 4]
 .ret)
 .skip))
 (.seq (Rs [Ki 0 5]
 (blkC 0 (.loop (.seq (Rs (sq 11 [Mv 5, Mv 0, Ln 12, Bb .lss 11 13] [])
 (Ct 14 .skip
 (.exit 0)))
 (.seq (.block 1 (.seq (.drw (sq 17 [Mv 0, Mv 5, Ia 2 17 18, La 2 19, Mv 1, Mv 5, Ia 2 21 22, La 2 23, Ca 155 [20, 24], Nt 25] []) [(3, 7)])
 (Ct 26 (Rs [Kb false 4]
 .ret)
 .skip)))
 (.reg (sq 15 [Mv 5, Bk .add 15 1] [Mv 16 5])))))))
 (Rs [Kb true 4]
 .ret)))), lcF []⟩
def ks_ci9 : List (List (Option Nat)) := [[none]]
def gl_ci9_1 (a1 : (List Tag)) : List Tag → Nat → Option (Bool ⊕ Unit)
 | [], k22 => some (.inr ())
 | x23 :: l24, k22 => (idx a1 (k22 : Int)).bind fun x31 => (gf_ch9 x23 x31).bind fun x33 => if (!x33) = true then (some (.inl (false))) else (gl_ci9_1 a1 l24 (k22 + 1) )
def gf_ci9 (a0 : (List Tag)) (a1 : (List Tag)) : Option Bool := if ((a0.length : Int) != (a1.length : Int)) = true then (some (false)) else (if fits a0.length = true then ((gl_ci9_1 a1 a0 0 ).bind fun q => match q with | .inl r => some r | .inr q20 => some (true)) else none)
def c_ci9 : Con := ⟨(List Tag) × (List Tag), Bool, 157, fun a => [.ro (List.map eTag a.1), .ro (List.map eTag a.2)], fun a => gf_ci9 a.1 a.2, fun a r => ⟨[(false, [.v (.bool r)])], []⟩, fun a => []⟩
def if_by9 : IFn := ⟨22, [.inl 4],
 (Rs (sq 2 [Io (.box 100 [none, none, some 66, some 82] (.t 0)), Io (.box 100 [none, none, some 66, some 82] (.t 1)), Kb false] [])
 (.seq (Rs (sq 5 [Fa 0 2, Ld 1 5, Fa 0 3, Ld 1 7, Bb .neq 6 8] [])
 (Ct 9 (Rs [Kb false 4]
 .ret)
 .skip))
 (.seq (Rs (sq 10 [Fa 1 2, La 2 10, Fa 1 3, La 2 12, Ca 156 [11, 13], Nt 14] [])
 (Ct 15 (Rs [Kb false 4]
 .ret)
 .skip))
 (.seq (Rs (sq 16 [Fa 3 2, Ld 1 16, Fa 3 3, Ld 1 18, Ca 157 [17, 19], Nt 20] [])
 (Ct 21 (Rs [Kb false 4]
 .ret)
 .skip))
 (Rs [Kb true 4]
 .ret))))), lcF []⟩
def ks_by9 : List (List (Option Nat)) := [[none]]
def gf_by9 (a0 : Feat) (a1 : Feat) : Option Bool := if (!seq a0.id a1.id) = true then (some (false)) else ((gf_cg9 a0.shape a1.shape).bind fun x3 => if (!x3) = true then (some (false)) else ((gf_ci9 a0.tags a1.tags).bind fun x5 => if (!x5) = true then (some (false)) else (some (true))))
def c_by9 : Con := ⟨Feat × Feat, Bool, 158, fun a => [.agg [.v (.string a.1.id), .v (.int .i64 a.1.shape.kind), .ro (List.map ePt a.1.shape.pts), .ro (List.map eTag a.1.tags)], .agg [.v (.string a.2.id), .v (.int .i64 a.2.shape.kind), .ro (List.map ePt a.2.shape.pts), .ro (List.map eTag a.2.tags)]], fun a => gf_by9 a.1 a.2, fun a r => ⟨[(false, [.v (.bool r)])], []⟩, fun a => []⟩
def if_cc9 : IFn := ⟨26, [.inl 4],
 (Rs [Kb false 4]
 (.seq (Rs (sq 6 [Mv 0, Ln 6, Mv 1, Ln 8, Bb .neq 7 9] [])
 (Ct 10 (Rs [Kb false 4]
 .ret)
 .skip))
 (.seq (Rs [Ki 0 5]
 (blkC 0 (.loop (.seq (Rs (sq 11 [Mv 5, Mv 0, Ln 12, Bb .lss 11 13] [])
 (Ct 14 .skip
 (.exit 0)))
 (.seq (.block 1 (.seq (.drw (sq 17 [Mv 0, Mv 5, Ia 1 17 18, Ld 1 19, Mv 1, Mv 5, Ia 1 21 22, Ld 1 23, Bb .neq 20 24] []) [(3, 7)])
 (Ct 25 (Rs [Kb false 4]
 .ret)
 .skip)))
 (.reg (sq 15 [Mv 5, Bk .add 15 1] [Mv 16 5])))))))
 (Rs [Kb true 4]
 .ret)))), lcF []⟩
def ks_cc9 : List (List (Option Nat)) := [[none]]
def gl_cc9_1 (a1 : (List Int)) : List Int → Nat → Option (Bool ⊕ Unit)
 | [], k16 => some (.inr ())
 | x17 :: l18, k16 => (idx a1 (k16 : Int)).bind fun x25 => if (x17 != x25) = true then (some (.inl (false))) else (gl_cc9_1 a1 l18 (k16 + 1) )
def gf_cc9 (a0 : (List Int)) (a1 : (List Int)) : Option Bool := if ((a0.length : Int) != (a1.length : Int)) = true then (some (false)) else (if fits a0.length = true then ((gl_cc9_1 a1 a0 0 ).bind fun q => match q with | .inl r => some r | .inr q14 => some (true)) else none)
def c_cc9 : Con := ⟨(List Int) × (List Int), Bool, 159, fun a => [.ro (List.map eInt a.1), .ro (List.map eInt a.2)], fun a => gf_cc9 a.1 a.2, fun a r => ⟨[(false, [.v (.bool r)])], []⟩, fun a => []⟩
def if_bz9 : IFn := ⟨27, [.inl 4],
 (Rs [Kb false 4]
 (.seq (Rs (sq 6 [Mv 0, Ln 6, Mv 1, Ln 8, Bb .neq 7 9] [])
 (Ct 10 (Rs [Kb false 4]
 .ret)
 .skip))
 (.seq (Rs [Ki 0 5]
 (blkC 0 (.loop (.seq (Rs (sq 11 [Mv 5, Mv 0, Ln 12, Bb .lss 11 13] [])
 (Ct 14 .skip
 (.exit 0)))
 (.seq (.block 1 (.seq (.drw (sq 17 [Mv 0, Mv 5, Ia 4 17 18, La 4 19, Mv 1, Mv 5, Ia 4 21 22, La 4 23, Ca 158 [20, 24], Nt 25] []) [(3, 7)])
 (Ct 26 (Rs [Kb false 4]
 .ret)
 .skip)))
 (.reg (sq 15 [Mv 5, Bk .add 15 1] [Mv 16 5])))))))
 (Rs [Kb true 4]
 .ret)))), lcF []⟩
def ks_bz9 : List (List (Option Nat)) := [[none]]
def gl_bz9_1 (a1 : (List Feat)) : List Feat → Nat → Option (Bool ⊕ Unit)
 | [], k22 => some (.inr ())
 | x23 :: l24, k22 => (idx a1 (k22 : Int)).bind fun x31 => (gf_by9 x23 x31).bind fun x33 => if (!x33) = true then (some (.inl (false))) else (gl_bz9_1 a1 l24 (k22 + 1) )
def gf_bz9 (a0 : (List Feat)) (a1 : (List Feat)) : Option Bool := if ((a0.length : Int) != (a1.length : Int)) = true then (some (false)) else (if fits a0.length = true then ((gl_bz9_1 a1 a0 0 ).bind fun q => match q with | .inl r => some r | .inr q20 => some (true)) else none)
def c_bz9 : Con := ⟨(List Feat) × (List Feat), Bool, 160, fun a => [.ro (List.map (eFeat false) a.1), .ro (List.map (eFeat false) a.2)], fun a => gf_bz9 a.1 a.2, fun a r => ⟨[(false, [.v (.bool r)])], []⟩, fun a => []⟩
def if_bw9 : IFn := ⟨22, [.inl 4],
 (Rs (sq 2 [Io (.box 115 [some 17, some 100, none] (.t 0)), Io (.box 115 [some 17, some 100, none] (.t 1)), Kb false] [])
 (.seq (Rs (sq 5 [Fa 0 2, Ld 1 5, Fa 0 3, Ld 1 7, Ca 159 [6, 8], Nt 9] [])
 (Ct 10 (Rs [Kb false 4]
 .ret)
 .skip))
 (.seq (Rs (sq 11 [Fa 1 2, Ld 1 11, Fa 1 3, Ld 1 13, Ca 160 [12, 14], Nt 15] [])
 (Ct 16 (Rs [Kb false 4]
 .ret)
 .skip))
 (.seq (Rs (sq 17 [Fa 2 2, Ld 1 17, Fa 2 3, Ld 1 19, Bb .neq 18 20] [])
 (Ct 21 (Rs [Kb false 4]
 .ret)
 .skip))
 (Rs [Kb true 4]
 .ret))))), lcF []⟩
def ks_bw9 : List (List (Option Nat)) := [[none]]
def gf_bw9 (a0 : Commit) (a1 : Commit) : Option Bool := (gf_cc9 a0.up a1.up).bind fun x3 => if (!x3) = true then (some (false)) else ((gf_bz9 a0.sheet a1.sheet).bind fun x5 => if (!x5) = true then (some (false)) else (if (!seq a0.note a1.note) = true then (some (false)) else (some (true))))
def c_bw9 : Con := ⟨Commit × Commit, Bool, 161, fun a => [.agg [.ro (List.map eInt a.1.up), .ro (List.map (eFeat false) a.1.sheet), .v (.string a.1.note)], .agg [.ro (List.map eInt a.2.up), .ro (List.map (eFeat false) a.2.sheet), .v (.string a.2.note)]], fun a => gf_bw9 a.1 a.2, fun a r => ⟨[(false, [.v (.bool r)])], []⟩, fun a => []⟩
def if_ca9 : IFn := ⟨15, [.inl 4],
 (Rs (sq 2 [Io (.box 130 [none, none] (.t 0)), Io (.box 130 [none, none] (.t 1)), Kb false] [])
 (.seq (Rs (sq 5 [Fa 0 2, Ld 1 5, Fa 0 3, Ld 1 7, Bb .neq 6 8] [])
 (Ct 9 (Rs [Kb false 4]
 .ret)
 .skip))
 (.seq (Rs (sq 10 [Fa 1 2, Ld 1 10, Fa 1 3, Ld 1 12, Bb .neq 11 13] [])
 (Ct 14 (Rs [Kb false 4]
 .ret)
 .skip))
 (Rs [Kb true 4]
 .ret)))), lcF []⟩
def ks_ca9 : List (List (Option Nat)) := [[none]]
def gf_ca9 (a0 : Head) (a1 : Head) : Option Bool := if (!seq a0.name a1.name) = true then (some (false)) else (if (a0.at_ != a1.at_) = true then (some (false)) else (some (true)))
def c_ca9 : Con := ⟨Head × Head, Bool, 162, fun a => [.agg [.v (.string a.1.name), .v (.int .i64 a.1.at_)], .agg [.v (.string a.2.name), .v (.int .i64 a.2.at_)]], fun a => gf_ca9 a.1 a.2, fun a r => ⟨[(false, [.v (.bool r)])], []⟩, fun a => []⟩
def if_bx9 : IFn := ⟨27, [.inl 4],
 (Rs [Kb false 4]
 (.seq (Rs (sq 6 [Mv 0, Ln 6, Mv 1, Ln 8, Bb .neq 7 9] [])
 (Ct 10 (Rs [Kb false 4]
 .ret)
 .skip))
 (.seq (Rs [Ki 0 5]
 (blkC 0 (.loop (.seq (Rs (sq 11 [Mv 5, Mv 0, Ln 12, Bb .lss 11 13] [])
 (Ct 14 .skip
 (.exit 0)))
 (.seq (.block 1 (.seq (.drw (sq 17 [Mv 0, Mv 5, Ia 3 17 18, La 3 19, Mv 1, Mv 5, Ia 3 21 22, La 3 23, Ca 161 [20, 24], Nt 25] []) [(3, 7)])
 (Ct 26 (Rs [Kb false 4]
 .ret)
 .skip)))
 (.reg (sq 15 [Mv 5, Bk .add 15 1] [Mv 16 5])))))))
 (Rs [Kb true 4]
 .ret)))), lcF []⟩
def ks_bx9 : List (List (Option Nat)) := [[none]]
def gl_bx9_1 (a1 : (List Commit)) : List Commit → Nat → Option (Bool ⊕ Unit)
 | [], k22 => some (.inr ())
 | x23 :: l24, k22 => (idx a1 (k22 : Int)).bind fun x31 => (gf_bw9 x23 x31).bind fun x33 => if (!x33) = true then (some (.inl (false))) else (gl_bx9_1 a1 l24 (k22 + 1) )
def gf_bx9 (a0 : (List Commit)) (a1 : (List Commit)) : Option Bool := if ((a0.length : Int) != (a1.length : Int)) = true then (some (false)) else (if fits a0.length = true then ((gl_bx9_1 a1 a0 0 ).bind fun q => match q with | .inl r => some r | .inr q20 => some (true)) else none)
def c_bx9 : Con := ⟨(List Commit) × (List Commit), Bool, 163, fun a => [.ro (List.map (eCommit false) a.1), .ro (List.map (eCommit false) a.2)], fun a => gf_bx9 a.1 a.2, fun a r => ⟨[(false, [.v (.bool r)])], []⟩, fun a => []⟩
def if_cb9 : IFn := ⟨27, [.inl 4],
 (Rs [Kb false 4]
 (.seq (Rs (sq 6 [Mv 0, Ln 6, Mv 1, Ln 8, Bb .neq 7 9] [])
 (Ct 10 (Rs [Kb false 4]
 .ret)
 .skip))
 (.seq (Rs [Ki 0 5]
 (blkC 0 (.loop (.seq (Rs (sq 11 [Mv 5, Mv 0, Ln 12, Bb .lss 11 13] [])
 (Ct 14 .skip
 (.exit 0)))
 (.seq (.block 1 (.seq (.drw (sq 17 [Mv 0, Mv 5, Ia 2 17 18, La 2 19, Mv 1, Mv 5, Ia 2 21 22, La 2 23, Ca 162 [20, 24], Nt 25] []) [(3, 7)])
 (Ct 26 (Rs [Kb false 4]
 .ret)
 .skip)))
 (.reg (sq 15 [Mv 5, Bk .add 15 1] [Mv 16 5])))))))
 (Rs [Kb true 4]
 .ret)))), lcF []⟩
def ks_cb9 : List (List (Option Nat)) := [[none]]
def gl_cb9_1 (a1 : (List Head)) : List Head → Nat → Option (Bool ⊕ Unit)
 | [], k22 => some (.inr ())
 | x23 :: l24, k22 => (idx a1 (k22 : Int)).bind fun x31 => (gf_ca9 x23 x31).bind fun x33 => if (!x33) = true then (some (.inl (false))) else (gl_cb9_1 a1 l24 (k22 + 1) )
def gf_cb9 (a0 : (List Head)) (a1 : (List Head)) : Option Bool := if ((a0.length : Int) != (a1.length : Int)) = true then (some (false)) else (if fits a0.length = true then ((gl_cb9_1 a1 a0 0 ).bind fun q => match q with | .inl r => some r | .inr q20 => some (true)) else none)
def c_cb9 : Con := ⟨(List Head) × (List Head), Bool, 164, fun a => [.ro (List.map eHead a.1), .ro (List.map eHead a.2)], fun a => gf_cb9 a.1 a.2, fun a r => ⟨[(false, [.v (.bool r)])], []⟩, fun a => []⟩
def if_bu9 : IFn := ⟨15, [.inl 4],
 (Rs (sq 2 [Io (.box 178 [none, none] (.t 0)), Io (.box 178 [none, none] (.t 1)), Kb false] [])
 (.seq (Rs (sq 5 [Fa 0 2, Ld 1 5, Fa 0 3, Ld 1 7, Bb .neq 6 8] [])
 (Ct 9 (Rs [Kb false 4]
 .ret)
 .skip))
 (.seq (Rs (sq 10 [Fa 1 2, Ld 1 10, Fa 1 3, Ld 1 12, Bb .neq 11 13] [])
 (Ct 14 (Rs [Kb false 4]
 .ret)
 .skip))
 (Rs [Kb true 4]
 .ret)))), lcF []⟩
def ks_bu9 : List (List (Option Nat)) := [[none]]
def gf_bu9 (a0 : Clash) (a1 : Clash) : Option Bool := if (!seq a0.id a1.id) = true then (some (false)) else (if (!seq a0.what a1.what) = true then (some (false)) else (some (true)))
def c_bu9 : Con := ⟨Clash × Clash, Bool, 165, fun a => [.agg [.v (.string a.1.id), .v (.string a.1.what)], .agg [.v (.string a.2.id), .v (.string a.2.what)]], fun a => gf_bu9 a.1 a.2, fun a r => ⟨[(false, [.v (.bool r)])], []⟩, fun a => []⟩
def if_cv9 : IFn := ⟨20, [.inl 2],
 (Rs [Io (.mv (.c (.string ⟨#[]⟩))) 2]
 (.seq (Rs (sq 4 [Mv 0, Bk .leq 4 0] [])
 (Ct 5 (Rs [Io (.mv (.c (.string ⟨#[109, 48]⟩))) 2]
 .ret)
 .skip))
 (Rs [Io (.mv (.c (.string ⟨#[]⟩))) 3]
 (seqC (.block 0 (.loop (.seq (Rs (sq 6 [Mv 0, Bk .gtr 6 0] [])
 (Ct 7 .skip
 (.exit 0)))
 (.block 1 (Rs (sq 8 [Mv 0, Bk .rem 8 10, Io (.bin .add (.c (.int .i64 48)) (.t 9)), Io (.conv .u8 (.t 10)), Io (.lit 257 [none] [.v (.int .u8 0)] 1 [(0, .t 11)]), Io (.bytes (.t 12)), Mv 3, Bb .add 13 14] [Mv 15 3])
 (.reg (sq 16 [Mv 0, Bk .quo 16 10] [Mv 17 0])))))))
 (Rs (sq 18 [Mv 3, Io (.bin .add (.c (.string ⟨#[109]⟩)) (.t 18))] [Mv 19 2])
 .ret))))), lcF []⟩
def ks_cv9 : List (List (Option Nat)) := [[none]]
def gl_cv9_1 : Nat → Int → Str → Option Str
 | 0, _, _ => none
 | n12 + 1, v10, v11 => if (decide (v10 > 0)) = true then ((cat (bstr ([(IntKind.u8.wrap (IntKind.i64.wrap (48 + (Int.tmod v10 10))))] : (List Int))) v11).bind fun x14 => gl_cv9_1 n12 (IntKind.i64.wrap (Int.tdiv v10 10)) x14) else (some v11)
def gf_cv9 (a0 : Int) : Option Str := if (decide (a0 ≤ 0)) = true then (some ((⟨#[109, 48]⟩ : Str))) else ((gl_cv9_1 rounds a0 (⟨#[]⟩ : Str)).bind fun q9 => (cat (⟨#[109]⟩ : Str) q9).bind fun x17 => some (x17))
def c_cv9 : Con := ⟨Int, Str, 166, fun a => [.v (.int .i64 a)], fun a => gf_cv9 a, fun a r => ⟨[(false, [.v (.string r)])], []⟩, fun a => []⟩
def if_cs9 : IFn := ⟨27, [.inl 4],
 (Rs [Ki 0 4]
 (.seq (Rs [Ki 0 5]
 (blkC 0 (.loop (.seq (Rs (sq 6 [Mv 5, Mv 0, Ln 7, Bb .lss 6 8] [])
 (Ct 9 .skip
 (.exit 0)))
 (.seq (.block 1 (Rs (sq 12 [Mv 0, Mv 5, Mv 1, Ia 2 12 13, Fa 0 15] [Sv [none] 16 14])
 (Rs (sq 17 [Mv 1, Bk .add 17 1] [Mv 18 1])
 (Rs (sq 19 [Mv 0, Mv 5, Mv 1, Ia 2 19 20, Fa 1 22] [Sv [none] 23 21])
 (.reg (sq 24 [Mv 1, Bk .add 24 1] [Mv 25 1]))))))
 (.reg (sq 10 [Mv 5, Bk .add 10 1] [Mv 11 5])))))))
 (Rs [Mv 1 26, Mv 26 4]
 .ret))), lcF []⟩
def ks_cs9 : List (List (Option Nat)) := [[none]]
def gl_cs9_1 : Nat → Int → Int → (List Pt) → Option (Int × (List Pt))
 | 0, _, _, _ => none
 | n20 + 1, v17, v18, v19 => if (decide (v18 < (v19.length : Int))) = true then ((idx v19 v18).bind fun x21 => (idx (List.set v19 v18.toNat (⟨v17, x21.y⟩ : Pt)) v18).bind fun x23 => gl_cs9_1 n20 (IntKind.i64.wrap ((IntKind.i64.wrap (v17 + 1)) + 1)) (IntKind.i64.wrap (v18 + 1)) (List.set (List.set v19 v18.toNat (⟨v17, x21.y⟩ : Pt)) v18.toNat (⟨x23.x, (IntKind.i64.wrap (v17 + 1))⟩ : Pt))) else (some (v17, v19))
def gf_cs9 (a0 : (List Pt)) (a1 : Int) : Option (Int × (List Pt)) := (gl_cs9_1 rounds a1 0 a0).bind fun q16 => some (q16.1, q16.2)
def c_cs9 : Con := ⟨(List Pt) × Int, (Int × (List Pt)), 167, fun a => [.io 0 a.1.length 66, .v (.int .i64 a.2)], fun a => gf_cs9 a.1 a.2, fun a r => ⟨[(false, [.v (.int .i64 r.1)])], [some (List.map ePt r.2)]⟩, fun a => [(false, 66, List.map ePt a.1)]⟩
theorem l_cs9 {a0 : (List Pt)} {a1 : Int} {r : (Int × (List Pt))} (h : gf_cs9 a0 a1 = some r) : (r.2).length = (a0).length := by
 unfold gf_cs9 at h
 obtain ⟨q, h1, h2⟩ := bnd h
 have key := fuelLen (gl := gl_cs9_1) (fun _ _ _ => rfl) (fun n k i a q h => by
  simp only [gl_cs9_1] at h
  split at h
  ·simp only [Option.bind_eq_some_iff] at h
   obtain ⟨_, _, _, _, h⟩ := h
   exact .inl ⟨_, _, _, by simp, h⟩
  ·cases h
   exact .inr rfl) _ _ _ _ _ h1
 cases h2
 exact key
def if_cu9 : IFn := ⟨29, [.inl 4],
 (Rs [Ki 0 4]
 (.seq (Rs [Ki 0 5]
 (blkC 0 (.loop (.seq (Rs (sq 6 [Mv 5, Mv 0, Ln 7, Bb .lss 6 8] [])
 (Ct 9 .skip
 (.exit 0)))
 (.seq (.block 1 (Rs (sq 12 [Mv 0, Mv 5, Mv 1, Ca 166 [14], Ia 2 12 13, Fa 0 16] [Sv [none] 17 15])
 (Rs (sq 18 [Mv 1, Bk .add 18 1] [Mv 19 1])
 (Rs (sq 20 [Mv 0, Mv 5, Mv 1, Ca 166 [22], Ia 2 20 21, Fa 1 24] [Sv [none] 25 23])
 (.reg (sq 26 [Mv 1, Bk .add 26 1] [Mv 27 1]))))))
 (.reg (sq 10 [Mv 5, Bk .add 10 1] [Mv 11 5])))))))
 (Rs [Mv 1 28, Mv 28 4]
 .ret))), lcF []⟩
def ks_cu9 : List (List (Option Nat)) := [[none]]
def gl_cu9_1 : Nat → Int → Int → (List Tag) → Option (Int × (List Tag))
 | 0, _, _, _ => none
 | n32 + 1, v29, v30, v31 => if (decide (v30 < (v31.length : Int))) = true then ((gf_cv9 v29).bind fun x33 => (idx v31 v30).bind fun x35 => (gf_cv9 (IntKind.i64.wrap (v29 + 1))).bind fun x37 => (idx (List.set v31 v30.toNat (⟨x33, x35.val⟩ : Tag)) v30).bind fun x39 => gl_cu9_1 n32 (IntKind.i64.wrap ((IntKind.i64.wrap (v29 + 1)) + 1)) (IntKind.i64.wrap (v30 + 1)) (List.set (List.set v31 v30.toNat (⟨x33, x35.val⟩ : Tag)) v30.toNat (⟨x39.key, x37⟩ : Tag))) else (some (v29, v31))
def gf_cu9 (a0 : (List Tag)) (a1 : Int) : Option (Int × (List Tag)) := (gl_cu9_1 rounds a1 0 a0).bind fun q28 => some (q28.1, q28.2)
def c_cu9 : Con := ⟨(List Tag) × Int, (Int × (List Tag)), 168, fun a => [.io 0 a.1.length 82, .v (.int .i64 a.2)], fun a => gf_cu9 a.1 a.2, fun a r => ⟨[(false, [.v (.int .i64 r.1)])], [some (List.map eTag r.2)]⟩, fun a => [(false, 82, List.map eTag a.1)]⟩
theorem l_cu9 {a0 : (List Tag)} {a1 : Int} {r : (Int × (List Tag))} (h : gf_cu9 a0 a1 = some r) : (r.2).length = (a0).length := by
 unfold gf_cu9 at h
 obtain ⟨q, h1, h2⟩ := bnd h
 have key := fuelLen (gl := gl_cu9_1) (fun _ _ _ => rfl) (fun n k i a q h => by
  simp only [gl_cu9_1] at h
  split at h
  ·simp only [Option.bind_eq_some_iff] at h
   obtain ⟨_, _, _, _, _, _, _, _, h⟩ := h
   exact .inl ⟨_, _, _, by simp, h⟩
  ·cases h
   exact .inr rfl) _ _ _ _ _ h1
 cases h2
 exact key
def if_cr9 : IFn := ⟨19, [.inl 4],
 (Rs [Ki 0 4]
 (.seq (Rs [Ki 0 5]
 (blkC 0 (.loop (.seq (Rs (sq 6 [Mv 5, Mv 0, Ln 7, Bb .lss 6 8] [])
 (Ct 9 .skip
 (.exit 0)))
 (.seq (.block 1 (Rs (sq 12 [Mv 0, Mv 5, Mv 1, Ia 1 12 13] [Sv [none] 15 14])
 (.reg (sq 16 [Mv 1, Bk .add 16 1] [Mv 17 1]))))
 (.reg (sq 10 [Mv 5, Bk .add 10 1] [Mv 11 5])))))))
 (Rs [Mv 1 18, Mv 18 4]
 .ret))), lcF []⟩
def ks_cr9 : List (List (Option Nat)) := [[none]]
def gl_cr9_1 : Nat → Int → Int → (List Int) → Option (Int × (List Int))
 | 0, _, _, _ => none
 | n16 + 1, v13, v14, v15 => if (decide (v14 < (v15.length : Int))) = true then ((idx v15 v14).bind fun x17 => gl_cr9_1 n16 (IntKind.i64.wrap (v13 + 1)) (IntKind.i64.wrap (v14 + 1)) (List.set v15 v14.toNat v13)) else (some (v13, v15))
def gf_cr9 (a0 : (List Int)) (a1 : Int) : Option (Int × (List Int)) := (gl_cr9_1 rounds a1 0 a0).bind fun q12 => some (q12.1, q12.2)
def c_cr9 : Con := ⟨(List Int) × Int, (Int × (List Int)), 169, fun a => [.io 0 a.1.length 17, .v (.int .i64 a.2)], fun a => gf_cr9 a.1 a.2, fun a r => ⟨[(false, [.v (.int .i64 r.1)])], [some (List.map eInt r.2)]⟩, fun a => [(false, 17, List.map eInt a.1)]⟩
theorem l_cr9 {a0 : (List Int)} {a1 : Int} {r : (Int × (List Int))} (h : gf_cr9 a0 a1 = some r) : (r.2).length = (a0).length := by
 unfold gf_cr9 at h
 obtain ⟨q, h1, h2⟩ := bnd h
 have key := fuelLen (gl := gl_cr9_1) (fun _ _ _ => rfl) (fun n k i a q h => by
  simp only [gl_cr9_1] at h
  split at h
  ·simp only [Option.bind_eq_some_iff] at h
   obtain ⟨_, _, h⟩ := h
   exact .inl ⟨_, _, _, by simp, h⟩
  ·cases h
   exact .inr rfl) _ _ _ _ _ h1
 cases h2
 exact key
def if_cp9 : IFn := ⟨44, [.inl 4],
 (Rs [Ki 0 4]
 (.seq (Rs [Ki 0 5]
 (blkC 0 (.loop (.seq (Rs (sq 6 [Mv 5, Mv 0, Ln 7, Bb .lss 6 8] [])
 (Ct 9 .skip
 (.exit 0)))
 (.seq (.block 1 (Rs (sq 12 [Mv 0, Mv 5, Mv 1, Ca 166 [14], Ia 4 12 13, Fa 0 16] [Sv [none] 17 15])
 (Rs (sq 18 [Mv 1, Bk .add 18 1] [Mv 19 1])
 (Rs (sq 20 [Mv 0, Mv 5, Mv 1, Ia 4 20 21, Fa 1 23, Fa 0 24] [Sv [none] 25 22])
 (Rs (sq 26 [Mv 1, Bk .add 26 1] [Mv 27 1])
 (Rs (sq 28 [Mv 0, Mv 5, Ia 4 28 29, Fa 1 30, Fa 1 31, Ld 1 32, Mv 1, Io (.shut (.t 32) (.call 167 [(true, .t 33), (false, .t 34)]))] [Mv 35 1])
 (.reg (sq 36 [Mv 0, Mv 5, Ia 4 36 37, Fa 3 38, Ld 1 39, Mv 1, Io (.shut (.t 39) (.call 168 [(true, .t 40), (false, .t 41)]))] [Mv 42 1]))))))))
 (.reg (sq 10 [Mv 5, Bk .add 10 1] [Mv 11 5])))))))
 (Rs [Mv 1 43, Mv 43 4]
 .ret))), lcF []⟩
def ks_cp9 : List (List (Option Nat)) := [[none]]
def gl_cp9_1 : Nat → Int → Int → (List Feat) → Option (Int × (List Feat))
 | 0, _, _, _ => none
 | n62 + 1, v59, v60, v61 => if (decide (v60 < (v61.length : Int))) = true then ((gf_cv9 v59).bind fun x63 => (idx v61 v60).bind fun x65 => (idx (List.set v61 v60.toNat (⟨x63, x65.shape, x65.tags⟩ : Feat)) v60).bind fun x67 => (idx (List.set (List.set v61 v60.toNat (⟨x63, x65.shape, x65.tags⟩ : Feat)) v60.toNat (⟨x67.id, ⟨(IntKind.i64.wrap (v59 + 1)), x67.shape.pts⟩, x67.tags⟩ : Feat)) v60).bind fun x69 => (gf_cs9 x69.shape.pts (IntKind.i64.wrap ((IntKind.i64.wrap (v59 + 1)) + 1))).bind fun x73 => (idx (List.set (List.set (List.set v61 v60.toNat (⟨x63, x65.shape, x65.tags⟩ : Feat)) v60.toNat (⟨x67.id, ⟨(IntKind.i64.wrap (v59 + 1)), x67.shape.pts⟩, x67.tags⟩ : Feat)) v60.toNat (⟨x69.id, ⟨x69.shape.kind, x73.2⟩, x69.tags⟩ : Feat)) v60).bind fun x75 => (gf_cu9 x75.tags x73.1).bind fun x79 => gl_cp9_1 n62 x79.1 (IntKind.i64.wrap (v60 + 1)) (List.set (List.set (List.set (List.set v61 v60.toNat (⟨x63, x65.shape, x65.tags⟩ : Feat)) v60.toNat (⟨x67.id, ⟨(IntKind.i64.wrap (v59 + 1)), x67.shape.pts⟩, x67.tags⟩ : Feat)) v60.toNat (⟨x69.id, ⟨x69.shape.kind, x73.2⟩, x69.tags⟩ : Feat)) v60.toNat (⟨x75.id, x75.shape, x79.2⟩ : Feat))) else (some (v59, v61))
def gf_cp9 (a0 : (List Feat)) (a1 : Int) : Option (Int × (List Feat)) := (gl_cp9_1 rounds a1 0 a0).bind fun q58 => some (q58.1, q58.2)
def c_cp9 : Con := ⟨(List Feat) × Int, (Int × (List Feat)), 170, fun a => [.io 0 a.1.length 100, .v (.int .i64 a.2)], fun a => gf_cp9 a.1 a.2, fun a r => ⟨[(false, [.v (.int .i64 r.1)])], [some (List.map (eFeat true) r.2)]⟩, fun a => [(false, 100, List.map (eFeat true) a.1)]⟩
theorem l_cp9 {a0 : (List Feat)} {a1 : Int} {r : (Int × (List Feat))} (h : gf_cp9 a0 a1 = some r) : (r.2).length = (a0).length := by
 unfold gf_cp9 at h
 obtain ⟨q, h1, h2⟩ := bnd h
 have key := fuelLen (gl := gl_cp9_1) (fun _ _ _ => rfl) (fun n k i a q h => by
  simp only [gl_cp9_1] at h
  split at h
  ·simp only [Option.bind_eq_some_iff] at h
   obtain ⟨_, _, _, _, _, _, _, _, _, _, _, _, _, _, h⟩ := h
   exact .inl ⟨_, _, _, by simp, h⟩
  ·cases h
   exact .inr rfl) _ _ _ _ _ h1
 cases h2
 exact key
def if_co9 : IFn := ⟨35, [.inl 4],
 (Rs [Ki 0 4]
 (.seq (Rs [Ki 0 5]
 (blkC 0 (.loop (.seq (Rs (sq 6 [Mv 5, Mv 0, Ln 7, Bb .lss 6 8] [])
 (Ct 9 .skip
 (.exit 0)))
 (.seq (.block 1 (Rs (sq 12 [Mv 0, Mv 5, Ia 3 12 13, Fa 0 14, Ld 1 15, Mv 1, Io (.shut (.t 15) (.call 169 [(true, .t 16), (false, .t 17)]))] [Mv 18 1])
 (Rs (sq 19 [Mv 0, Mv 5, Ia 3 19 20, Fa 1 21, Ld 1 22, Mv 1, Io (.shut (.t 22) (.call 170 [(true, .t 23), (false, .t 24)]))] [Mv 25 1])
 (Rs (sq 26 [Mv 0, Mv 5, Mv 1, Ca 166 [28], Ia 3 26 27, Fa 2 30] [Sv [none] 31 29])
 (.reg (sq 32 [Mv 1, Bk .add 32 1] [Mv 33 1]))))))
 (.reg (sq 10 [Mv 5, Bk .add 10 1] [Mv 11 5])))))))
 (Rs [Mv 1 34, Mv 34 4]
 .ret))), lcF []⟩
def ks_co9 : List (List (Option Nat)) := [[none]]
def gl_co9_1 : Nat → Int → Int → (List Commit) → Option (Int × (List Commit))
 | 0, _, _, _ => none
 | n56 + 1, v53, v54, v55 => if (decide (v54 < (v55.length : Int))) = true then ((idx v55 v54).bind fun x57 => (gf_cr9 x57.up v53).bind fun x61 => (idx (List.set v55 v54.toNat (⟨x61.2, x57.sheet, x57.note⟩ : Commit)) v54).bind fun x63 => (gf_cp9 x63.sheet x61.1).bind fun x67 => (gf_cv9 x67.1).bind fun x69 => (idx (List.set (List.set v55 v54.toNat (⟨x61.2, x57.sheet, x57.note⟩ : Commit)) v54.toNat (⟨x63.up, x67.2, x63.note⟩ : Commit)) v54).bind fun x71 => gl_co9_1 n56 (IntKind.i64.wrap (x67.1 + 1)) (IntKind.i64.wrap (v54 + 1)) (List.set (List.set (List.set v55 v54.toNat (⟨x61.2, x57.sheet, x57.note⟩ : Commit)) v54.toNat (⟨x63.up, x67.2, x63.note⟩ : Commit)) v54.toNat (⟨x71.up, x71.sheet, x69⟩ : Commit))) else (some (v53, v55))
def gf_co9 (a0 : (List Commit)) (a1 : Int) : Option (Int × (List Commit)) := (gl_co9_1 rounds a1 0 a0).bind fun q52 => some (q52.1, q52.2)
def c_co9 : Con := ⟨(List Commit) × Int, (Int × (List Commit)), 171, fun a => [.io 0 a.1.length 115, .v (.int .i64 a.2)], fun a => gf_co9 a.1 a.2, fun a r => ⟨[(false, [.v (.int .i64 r.1)])], [some (List.map (eCommit true) r.2)]⟩, fun a => [(false, 115, List.map (eCommit true) a.1)]⟩
theorem l_co9 {a0 : (List Commit)} {a1 : Int} {r : (Int × (List Commit))} (h : gf_co9 a0 a1 = some r) : (r.2).length = (a0).length := by
 unfold gf_co9 at h
 obtain ⟨q, h1, h2⟩ := bnd h
 have key := fuelLen (gl := gl_co9_1) (fun _ _ _ => rfl) (fun n k i a q h => by
  simp only [gl_co9_1] at h
  split at h
  ·simp only [Option.bind_eq_some_iff] at h
   obtain ⟨_, _, _, _, _, _, _, _, _, _, _, _, h⟩ := h
   exact .inl ⟨_, _, _, by simp, h⟩
  ·cases h
   exact .inr rfl) _ _ _ _ _ h1
 cases h2
 exact key
def if_cq9 : IFn := ⟨28, [.inl 4],
 (Rs [Ki 0 4]
 (.seq (Rs [Ki 0 5]
 (blkC 0 (.loop (.seq (Rs (sq 6 [Mv 5, Mv 0, Ln 7, Bb .lss 6 8] [])
 (Ct 9 .skip
 (.exit 0)))
 (.seq (.block 1 (Rs (sq 12 [Mv 0, Mv 5, Mv 1, Ca 166 [14], Ia 2 12 13, Fa 0 16] [Sv [none] 17 15])
 (Rs (sq 18 [Mv 1, Bk .add 18 1] [Mv 19 1])
 (Rs (sq 20 [Mv 0, Mv 5, Mv 1, Ia 2 20 21, Fa 1 23] [Sv [none] 24 22])
 (.reg (sq 25 [Mv 1, Bk .add 25 1] [Mv 26 1]))))))
 (.reg (sq 10 [Mv 5, Bk .add 10 1] [Mv 11 5])))))))
 (Rs [Mv 1 27, Mv 27 4]
 .ret))), lcF []⟩
def ks_cq9 : List (List (Option Nat)) := [[none]]
def gl_cq9_1 : Nat → Int → Int → (List Head) → Option (Int × (List Head))
 | 0, _, _, _ => none
 | n26 + 1, v23, v24, v25 => if (decide (v24 < (v25.length : Int))) = true then ((gf_cv9 v23).bind fun x27 => (idx v25 v24).bind fun x29 => (idx (List.set v25 v24.toNat (⟨x27, x29.at_⟩ : Head)) v24).bind fun x31 => gl_cq9_1 n26 (IntKind.i64.wrap ((IntKind.i64.wrap (v23 + 1)) + 1)) (IntKind.i64.wrap (v24 + 1)) (List.set (List.set v25 v24.toNat (⟨x27, x29.at_⟩ : Head)) v24.toNat (⟨x31.name, (IntKind.i64.wrap (v23 + 1))⟩ : Head))) else (some (v23, v25))
def gf_cq9 (a0 : (List Head)) (a1 : Int) : Option (Int × (List Head)) := (gl_cq9_1 rounds a1 0 a0).bind fun q22 => some (q22.1, q22.2)
def c_cq9 : Con := ⟨(List Head) × Int, (Int × (List Head)), 172, fun a => [.io 0 a.1.length 130, .v (.int .i64 a.2)], fun a => gf_cq9 a.1 a.2, fun a r => ⟨[(false, [.v (.int .i64 r.1)])], [some (List.map eHead r.2)]⟩, fun a => [(false, 130, List.map eHead a.1)]⟩
theorem l_cq9 {a0 : (List Head)} {a1 : Int} {r : (Int × (List Head))} (h : gf_cq9 a0 a1 = some r) : (r.2).length = (a0).length := by
 unfold gf_cq9 at h
 obtain ⟨q, h1, h2⟩ := bnd h
 have key := fuelLen (gl := gl_cq9_1) (fun _ _ _ => rfl) (fun n k i a q h => by
  simp only [gl_cq9_1] at h
  split at h
  ·simp only [Option.bind_eq_some_iff] at h
   obtain ⟨_, _, _, _, _, _, h⟩ := h
   exact .inl ⟨_, _, _, by simp, h⟩
  ·cases h
   exact .inr rfl) _ _ _ _ _ h1
 cases h2
 exact key
def if_cl9 : IFn := ⟨31, [.inl 4],
 (Rs [Ki 0 4]
 (.seq (Rs [Ki 0 5]
 (blkC 0 (.loop (.seq (Rs (sq 6 [Mv 5, Mv 0, Ln 7, Bb .lss 6 8] [])
 (Ct 9 .skip
 (.exit 0)))
 (.seq (.block 1 (.seq (Rs (sq 12 [Mv 0, Mv 5, Ia 2 12 13, Fa 0 14, Ld 1 15, Mv 1, Bb .neq 16 17] [])
 (Ct 18 (Rs [Ki (-1) 4]
 .ret)
 .skip))
 (Rs (sq 19 [Mv 1, Bk .add 19 1] [Mv 20 1])
 (.seq (Rs (sq 21 [Mv 0, Mv 5, Ia 2 21 22, Fa 1 23, Ld 1 24, Mv 1, Bb .neq 25 26] [])
 (Ct 27 (Rs [Ki (-1) 4]
 .ret)
 .skip))
 (.reg (sq 28 [Mv 1, Bk .add 28 1] [Mv 29 1]))))))
 (.reg (sq 10 [Mv 5, Bk .add 10 1] [Mv 11 5])))))))
 (Rs [Mv 1 30, Mv 30 4]
 .ret))), lcF []⟩
def ks_cl9 : List (List (Option Nat)) := [[none]]
def gl_cl9_1 : List Pt → Nat → Int → Option (Int ⊕ Int)
 | [], k12, v10 => some (.inr v10)
 | x13 :: l14, k12, v10 => if (x13.x != v10) = true then (some (.inl ((-1)))) else (if (x13.y != (IntKind.i64.wrap (v10 + 1))) = true then (some (.inl ((-1)))) else (gl_cl9_1 l14 (k12 + 1) (IntKind.i64.wrap ((IntKind.i64.wrap (v10 + 1)) + 1))))
def gf_cl9 (a0 : (List Pt)) (a1 : Int) : Option Int := if fits a0.length = true then ((gl_cl9_1 a0 0 a1).bind fun q => match q with | .inl r => some r | .inr q9 => some (q9)) else none
def c_cl9 : Con := ⟨(List Pt) × Int, Int, 173, fun a => [.ro (List.map ePt a.1), .v (.int .i64 a.2)], fun a => gf_cl9 a.1 a.2, fun a r => ⟨[(false, [.v (.int .i64 r)])], []⟩, fun a => []⟩
def if_cm9 : IFn := ⟨33, [.inl 4],
 (Rs [Ki 0 4]
 (.seq (Rs [Ki 0 5]
 (blkC 0 (.loop (.seq (Rs (sq 6 [Mv 5, Mv 0, Ln 7, Bb .lss 6 8] [])
 (Ct 9 .skip
 (.exit 0)))
 (.seq (.block 1 (.seq (.seq (.drw (sq 12 [Mv 0, Mv 5, Ia 2 12 13, Fa 0 14, Ld 1 15, Mv 1, Ca 166 [17], Bb .neq 16 18] []) [(4, 6)])
 (Ct 19 (Rs [Ki (-1) 4]
 .ret)
 .skip))
 (Rs (sq 20 [Mv 1, Bk .add 20 1] [Mv 21 1])
 (.seq (.seq (.drw (sq 22 [Mv 0, Mv 5, Ia 2 22 23, Fa 1 24, Ld 1 25, Mv 1, Ca 166 [27], Bb .neq 26 28] []) [(4, 6)])
 (Ct 29 (Rs [Ki (-1) 4]
 .ret)
 .skip))
 (.reg (sq 30 [Mv 1, Bk .add 30 1] [Mv 31 1]))))))
 (.reg (sq 10 [Mv 5, Bk .add 10 1] [Mv 11 5])))))))
 (Rs [Mv 1 32, Mv 32 4]
 .ret))), lcF []⟩
def ks_cm9 : List (List (Option Nat)) := [[none]]
def gl_cm9_1 : List Tag → Nat → Int → Option (Int ⊕ Int)
 | [], k24, v22 => some (.inr v22)
 | x25 :: l26, k24, v22 => (gf_cv9 v22).bind fun x33 => if (!seq x25.key x33) = true then (some (.inl ((-1)))) else ((gf_cv9 (IntKind.i64.wrap (v22 + 1))).bind fun x35 => if (!seq x25.val x35) = true then (some (.inl ((-1)))) else (gl_cm9_1 l26 (k24 + 1) (IntKind.i64.wrap ((IntKind.i64.wrap (v22 + 1)) + 1))))
def gf_cm9 (a0 : (List Tag)) (a1 : Int) : Option Int := if fits a0.length = true then ((gl_cm9_1 a0 0 a1).bind fun q => match q with | .inl r => some r | .inr q21 => some (q21)) else none
def c_cm9 : Con := ⟨(List Tag) × Int, Int, 174, fun a => [.ro (List.map eTag a.1), .v (.int .i64 a.2)], fun a => gf_cm9 a.1 a.2, fun a r => ⟨[(false, [.v (.int .i64 r)])], []⟩, fun a => []⟩
def if_ck9 : IFn := ⟨52, [.inl 4],
 (Rs [Ki 0 4]
 (.seq (Rs [Ki 0 5]
 (blkC 0 (.loop (.seq (Rs (sq 6 [Mv 5, Mv 0, Ln 7, Bb .lss 6 8] [])
 (Ct 9 .skip
 (.exit 0)))
 (.seq (.block 1 (.seq (.seq (.drw (sq 12 [Mv 0, Mv 5, Ia 4 12 13, Fa 0 14, Ld 1 15, Mv 1, Ca 166 [17], Bb .neq 16 18] []) [(4, 6)])
 (Ct 19 (Rs [Ki (-1) 4]
 .ret)
 .skip))
 (Rs (sq 20 [Mv 1, Bk .add 20 1] [Mv 21 1])
 (.seq (Rs (sq 22 [Mv 0, Mv 5, Ia 4 22 23, Fa 1 24, Fa 0 25, Ld 1 26, Mv 1, Bb .neq 27 28] [])
 (Ct 29 (Rs [Ki (-1) 4]
 .ret)
 .skip))
 (Rs (sq 30 [Mv 1, Bk .add 30 1] [Mv 31 1])
 (Rs (sq 32 [Mv 0, Mv 5, Ia 4 32 33, Fa 1 34, Fa 1 35, Ld 1 36, Mv 1, Ca 173 [37, 38]] [Mv 39 1])
 (.seq (Rs (sq 40 [Mv 1, Bk .lss 40 0] [])
 (Ct 41 (Rs [Ki (-1) 4]
 .ret)
 .skip))
 (Rs (sq 42 [Mv 0, Mv 5, Ia 4 42 43, Fa 3 44, Ld 1 45, Mv 1, Ca 174 [46, 47]] [Mv 48 1])
 (Rs (sq 49 [Mv 1, Bk .lss 49 0] [])
 (Ct 50 (Rs [Ki (-1) 4]
 .ret)
 .skip))))))))))
 (.reg (sq 10 [Mv 5, Bk .add 10 1] [Mv 11 5])))))))
 (Rs [Mv 1 51, Mv 51 4]
 .ret))), lcF []⟩
def ks_ck9 : List (List (Option Nat)) := [[none]]
def gl_ck9_1 : List Feat → Nat → Int → Option (Int ⊕ Int)
 | [], k30, v28 => some (.inr v28)
 | x31 :: l32, k30, v28 => (gf_cv9 v28).bind fun x39 => if (!seq x31.id x39) = true then (some (.inl ((-1)))) else (if (x31.shape.kind != (IntKind.i64.wrap (v28 + 1))) = true then (some (.inl ((-1)))) else ((gf_cl9 x31.shape.pts (IntKind.i64.wrap ((IntKind.i64.wrap (v28 + 1)) + 1))).bind fun x41 => if (decide (x41 < 0)) = true then (some (.inl ((-1)))) else ((gf_cm9 x31.tags x41).bind fun x43 => if (decide (x43 < 0)) = true then (some (.inl ((-1)))) else (gl_ck9_1 l32 (k30 + 1) x43))))
def gf_ck9 (a0 : (List Feat)) (a1 : Int) : Option Int := if fits a0.length = true then ((gl_ck9_1 a0 0 a1).bind fun q => match q with | .inl r => some r | .inr q27 => some (q27)) else none
def c_ck9 : Con := ⟨(List Feat) × Int, Int, 176, fun a => [.ro (List.map (eFeat false) a.1), .v (.int .i64 a.2)], fun a => gf_ck9 a.1 a.2, fun a r => ⟨[(false, [.v (.int .i64 r)])], []⟩, fun a => []⟩
def if_de9 : IFn := ⟨18, [.inl 4],
 (Rs [Io (.box 466 [some 387, some 402] (.t 0)) 2, Ki 0 4]
 (Rs (sq 5 [Fa 0 2, Ld 1 5, Mv 1, Ca 10 [6, 7]] [Mv 8 1])
 (.seq (Rs (sq 9 [Mv 1, Bk .lss 9 0] [])
 (Ct 10 (Rs [Ki (-1) 4]
 .ret)
 .skip))
 (Rs (sq 11 [Fa 1 2, Ld 1 11, Mv 1, Ca 11 [12, 13]] [Mv 14 1])
 (.seq (Rs (sq 15 [Mv 1, Bk .lss 15 0] [])
 (Ct 16 (Rs [Ki (-1) 4]
 .ret)
 .skip))
 (Rs [Mv 1 17, Mv 17 4]
 .ret)))))), lcF []⟩
def ks_de9 : List (List (Option Nat)) := [[none]]
def gf_de9 (a0 : Repo) (a1 : Int) : Option Int := (gf_cx9 a0.commits a1).bind fun x2 => if (decide (x2 < 0)) = true then (some ((-1))) else ((gf_db9 a0.heads x2).bind fun x4 => if (decide (x4 < 0)) = true then (some ((-1))) else (some (x4)))
def c_de9 : Con := ⟨Repo × Int, Int, 179, fun a => [.agg [.ro (List.map (eCommit false) a.1.commits), .ro (List.map eHead a.1.heads)], .v (.int .i64 a.2)], fun a => gf_de9 a.1 a.2, fun a r => ⟨[(false, [.v (.int .i64 r)])], []⟩, fun a => []⟩
def if_dr9 : IFn := ⟨13, [.inr (2, 2)],
 (Rs (sq 1 [Io (.box 466 [some 387, some 402] (.t 0)), Io (.alloc 210 [.sl true 115 [], .sl true 130 []])] [])
 (Rs [Io (.alloc 210 [.sl true 115 [], .sl true 130 []]) 3]
 (Rs (sq 4 [Fa 0 1, Ld 1 4, Ca 74 [5], Fa 0 3] [Sv [some 115] 7 6])
 (Rs (sq 8 [Fa 1 1, Ld 1 8, Ca 75 [9], Fa 1 3] [Sv [some 130] 11 10])
 (Rs [La 2 3 12, Sv [some 115, some 130] 2 12]
 .ret))))), lcF []⟩
def ks_dr9 : List (List (Option Nat)) := [[some 115, some 130]]
def gf_dr9 (a0 : Repo) : Option Repo := (gf_dj9 a0.commits).bind fun x4 => (gf_dn9 a0.heads).bind fun x8 => some ((⟨x4, x8⟩ : Repo))
def c_dr9 : Con := ⟨Repo, Repo, 180, fun a => [.agg [.ro (List.map (eCommit false) a.commits), .ro (List.map eHead a.heads)]], fun a => gf_dr9 a, fun a r => ⟨[(true, eRepo true r)], []⟩, fun a => []⟩
def if_cf9 : IFn := ⟨17, [.inl 4],
 (Rs (sq 2 [Io (.box 210 [some 115, some 130] (.t 0)), Io (.box 210 [some 115, some 130] (.t 1)), Kb false] [])
 (.seq (Rs (sq 5 [Fa 0 2, Ld 1 5, Fa 0 3, Ld 1 7, Ca 163 [6, 8], Nt 9] [])
 (Ct 10 (Rs [Kb false 4]
 .ret)
 .skip))
 (.seq (Rs (sq 11 [Fa 1 2, Ld 1 11, Fa 1 3, Ld 1 13, Ca 164 [12, 14], Nt 15] [])
 (Ct 16 (Rs [Kb false 4]
 .ret)
 .skip))
 (Rs [Kb true 4]
 .ret)))), lcF []⟩
def ks_cf9 : List (List (Option Nat)) := [[none]]
def gf_cf9 (a0 : Repo) (a1 : Repo) : Option Bool := (gf_bx9 a0.commits a1.commits).bind fun x3 => if (!x3) = true then (some (false)) else ((gf_cb9 a0.heads a1.heads).bind fun x5 => if (!x5) = true then (some (false)) else (some (true)))
def c_cf9 : Con := ⟨Repo × Repo, Bool, 183, fun a => [.agg [.ro (List.map (eCommit false) a.1.commits), .ro (List.map eHead a.1.heads)], .agg [.ro (List.map (eCommit false) a.2.commits), .ro (List.map eHead a.2.heads)]], fun a => gf_cf9 a.1 a.2, fun a r => ⟨[(false, [.v (.bool r)])], []⟩, fun a => []⟩
def if_bv9 : IFn := ⟨27, [.inl 4],
 (Rs [Kb false 4]
 (.seq (Rs (sq 6 [Mv 0, Ln 6, Mv 1, Ln 8, Bb .neq 7 9] [])
 (Ct 10 (Rs [Kb false 4]
 .ret)
 .skip))
 (.seq (Rs [Ki 0 5]
 (blkC 0 (.loop (.seq (Rs (sq 11 [Mv 5, Mv 0, Ln 12, Bb .lss 11 13] [])
 (Ct 14 .skip
 (.exit 0)))
 (.seq (.block 1 (.seq (.drw (sq 17 [Mv 0, Mv 5, Ia 2 17 18, La 2 19, Mv 1, Mv 5, Ia 2 21 22, La 2 23, Ca 165 [20, 24], Nt 25] []) [(3, 7)])
 (Ct 26 (Rs [Kb false 4]
 .ret)
 .skip)))
 (.reg (sq 15 [Mv 5, Bk .add 15 1] [Mv 16 5])))))))
 (Rs [Kb true 4]
 .ret)))), lcF []⟩
def ks_bv9 : List (List (Option Nat)) := [[none]]
def gl_bv9_1 (a1 : (List Clash)) : List Clash → Nat → Option (Bool ⊕ Unit)
 | [], k22 => some (.inr ())
 | x23 :: l24, k22 => (idx a1 (k22 : Int)).bind fun x31 => (gf_bu9 x23 x31).bind fun x33 => if (!x33) = true then (some (.inl (false))) else (gl_bv9_1 a1 l24 (k22 + 1) )
def gf_bv9 (a0 : (List Clash)) (a1 : (List Clash)) : Option Bool := if ((a0.length : Int) != (a1.length : Int)) = true then (some (false)) else (if fits a0.length = true then ((gl_bv9_1 a1 a0 0 ).bind fun q => match q with | .inl r => some r | .inr q20 => some (true)) else none)
def c_bv9 : Con := ⟨(List Clash) × (List Clash), Bool, 184, fun a => [.ro (List.map eClash a.1), .ro (List.map eClash a.2)], fun a => gf_bv9 a.1 a.2, fun a r => ⟨[(false, [.v (.bool r)])], []⟩, fun a => []⟩
def if_ct9 : IFn := ⟨14, [.inl 4],
 (Rs [Io (.box 210 [some 115, some 130] (.t 0)) 2, Ki 0 4]
 (Rs (sq 5 [Fa 0 2, Ld 1 5, Mv 1, Io (.call 171 [(true, .t 6), (false, .t 7)])] [Mv 8 1])
 (Rs (sq 9 [Fa 1 2, Ld 1 9, Mv 1, Io (.call 172 [(true, .t 10), (false, .t 11)])] [Mv 12 1])
 (Rs [Mv 1 13, Mv 13 4]
 .ret)))), lcF [(0, 1000256), (1, 1000257)]⟩
def ks_ct9 : List (List (Option Nat)) := [[none]]
def gf_ct9 (a0 : Repo) (a1 : Int) : Option (Int × Repo) := (gf_co9 a0.commits a1).bind fun x2 => (gf_cq9 a0.heads x2.1).bind fun x4 => some (x4.1, (⟨x2.2, x4.2⟩ : Repo))
def c_ct9 : Con := ⟨Repo × Int, (Int × Repo), 185, fun a => [.agg [.io 0 a.1.commits.length 115, .io 1 a.1.heads.length 130], .v (.int .i64 a.2)], fun a => gf_ct9 a.1 a.2, fun a r => ⟨[(false, [.v (.int .i64 r.1)])], [some (List.map (eCommit true) r.2.commits), some (List.map eHead r.2.heads)]⟩, fun a => [(false, 115, List.map (eCommit true) a.1.commits), (false, 130, List.map eHead a.1.heads)]⟩
theorem l_ct9 {a0 : Repo} {a1 : Int} {r : (Int × Repo)} (h : gf_ct9 a0 a1 = some r) : (r.2.commits).length = (a0.commits).length ∧ (r.2.heads).length = (a0.heads).length := by
 unfold gf_ct9 at h
 simp only [Option.bind_eq_some_iff] at h
 obtain ⟨_, e0, _, e1, h⟩ := h
 have m0 := l_co9 e0
 have m1 := l_cq9 e1
 cases h
 exact ⟨m0, m1⟩
def if_cn9 : IFn := ⟨29, [.inl 4],
 (Rs [Ki 0 4]
 (.seq (Rs [Ki 0 5]
 (blkC 0 (.loop (.seq (Rs (sq 6 [Mv 5, Mv 0, Ln 7, Bb .lss 6 8] [])
 (Ct 9 .skip
 (.exit 0)))
 (.seq (.block 1 (Rs (sq 12 [Mv 0, Mv 5, Mv 1, Ca 166 [14], Ia 2 12 13, Fa 0 16] [Sv [none] 17 15])
 (Rs (sq 18 [Mv 1, Bk .add 18 1] [Mv 19 1])
 (Rs (sq 20 [Mv 0, Mv 5, Mv 1, Ca 166 [22], Ia 2 20 21, Fa 1 24] [Sv [none] 25 23])
 (.reg (sq 26 [Mv 1, Bk .add 26 1] [Mv 27 1]))))))
 (.reg (sq 10 [Mv 5, Bk .add 10 1] [Mv 11 5])))))))
 (Rs [Mv 1 28, Mv 28 4]
 .ret))), lcF []⟩
def ks_cn9 : List (List (Option Nat)) := [[none]]
def gl_cn9_1 : Nat → Int → Int → (List Clash) → Option (Int × (List Clash))
 | 0, _, _, _ => none
 | n32 + 1, v29, v30, v31 => if (decide (v30 < (v31.length : Int))) = true then ((gf_cv9 v29).bind fun x33 => (idx v31 v30).bind fun x35 => (gf_cv9 (IntKind.i64.wrap (v29 + 1))).bind fun x37 => (idx (List.set v31 v30.toNat (⟨x33, x35.what⟩ : Clash)) v30).bind fun x39 => gl_cn9_1 n32 (IntKind.i64.wrap ((IntKind.i64.wrap (v29 + 1)) + 1)) (IntKind.i64.wrap (v30 + 1)) (List.set (List.set v31 v30.toNat (⟨x33, x35.what⟩ : Clash)) v30.toNat (⟨x39.id, x37⟩ : Clash))) else (some (v29, v31))
def gf_cn9 (a0 : (List Clash)) (a1 : Int) : Option (Int × (List Clash)) := (gl_cn9_1 rounds a1 0 a0).bind fun q28 => some (q28.1, q28.2)
def c_cn9 : Con := ⟨(List Clash) × Int, (Int × (List Clash)), 186, fun a => [.io 0 a.1.length 178, .v (.int .i64 a.2)], fun a => gf_cn9 a.1 a.2, fun a r => ⟨[(false, [.v (.int .i64 r.1)])], [some (List.map eClash r.2)]⟩, fun a => [(false, 178, List.map eClash a.1)]⟩
theorem l_cn9 {a0 : (List Clash)} {a1 : Int} {r : (Int × (List Clash))} (h : gf_cn9 a0 a1 = some r) : (r.2).length = (a0).length := by
 unfold gf_cn9 at h
 obtain ⟨q, h1, h2⟩ := bnd h
 have key := fuelLen (gl := gl_cn9_1) (fun _ _ _ => rfl) (fun n k i a q h => by
  simp only [gl_cn9_1] at h
  split at h
  ·simp only [Option.bind_eq_some_iff] at h
   obtain ⟨_, _, _, _, _, _, _, _, h⟩ := h
   exact .inl ⟨_, _, _, by simp, h⟩
  ·cases h
   exact .inr rfl) _ _ _ _ _ h1
 cases h2
 exact key
def if_cj9 : IFn := ⟨33, [.inl 4],
 (Rs [Ki 0 4]
 (.seq (Rs [Ki 0 5]
 (blkC 0 (.loop (.seq (Rs (sq 6 [Mv 5, Mv 0, Ln 7, Bb .lss 6 8] [])
 (Ct 9 .skip
 (.exit 0)))
 (.seq (.block 1 (.seq (.seq (.drw (sq 12 [Mv 0, Mv 5, Ia 2 12 13, Fa 0 14, Ld 1 15, Mv 1, Ca 166 [17], Bb .neq 16 18] []) [(4, 6)])
 (Ct 19 (Rs [Ki (-1) 4]
 .ret)
 .skip))
 (Rs (sq 20 [Mv 1, Bk .add 20 1] [Mv 21 1])
 (.seq (.seq (.drw (sq 22 [Mv 0, Mv 5, Ia 2 22 23, Fa 1 24, Ld 1 25, Mv 1, Ca 166 [27], Bb .neq 26 28] []) [(4, 6)])
 (Ct 29 (Rs [Ki (-1) 4]
 .ret)
 .skip))
 (.reg (sq 30 [Mv 1, Bk .add 30 1] [Mv 31 1]))))))
 (.reg (sq 10 [Mv 5, Bk .add 10 1] [Mv 11 5])))))))
 (Rs [Mv 1 32, Mv 32 4]
 .ret))), lcF []⟩
def ks_cj9 : List (List (Option Nat)) := [[none]]
def gl_cj9_1 : List Clash → Nat → Int → Option (Int ⊕ Int)
 | [], k24, v22 => some (.inr v22)
 | x25 :: l26, k24, v22 => (gf_cv9 v22).bind fun x33 => if (!seq x25.id x33) = true then (some (.inl ((-1)))) else ((gf_cv9 (IntKind.i64.wrap (v22 + 1))).bind fun x35 => if (!seq x25.what x35) = true then (some (.inl ((-1)))) else (gl_cj9_1 l26 (k24 + 1) (IntKind.i64.wrap ((IntKind.i64.wrap (v22 + 1)) + 1))))
def gf_cj9 (a0 : (List Clash)) (a1 : Int) : Option Int := if fits a0.length = true then ((gl_cj9_1 a0 0 a1).bind fun q => match q with | .inl r => some r | .inr q21 => some (q21)) else none
def c_cj9 : Con := ⟨(List Clash) × Int, Int, 188, fun a => [.ro (List.map eClash a.1), .v (.int .i64 a.2)], fun a => gf_cj9 a.1 a.2, fun a r => ⟨[(false, [.v (.int .i64 r)])], []⟩, fun a => []⟩
end Go.Proofs.AM
