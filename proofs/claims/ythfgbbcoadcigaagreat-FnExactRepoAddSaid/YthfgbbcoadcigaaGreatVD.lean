/- A part of the proofs of this seat's statements (VD): lemmas on an abstract machine for the program's functions. Conditions: none. -/
import Derived.Test.YthfgbbcoadcigaaGreatG2
set_option linter.unusedVariables false
set_option maxRecDepth 100000
set_option maxHeartbeats 4000000
namespace Go.Proofs.AM
attribute [local irreducible] vwp vstps vstpLs vstp vdo vret kseq kblk kloop kend kcut kloop2 frzV renV shutK
/-! laws.szPtS -/
def ib_laws_szPtS : IC :=
 (.seq (.reg [⟨some 4, .mv (.c (.int .i64 0)), none⟩])
 (.seq (.reg [⟨some 5, .mv (.t 1), none⟩,
 ⟨some 6, .mv (.t 0), none⟩,
 ⟨some 7, .len false (.t 6), none⟩,
 ⟨some 8, .bin .sub (.t 5) (.t 7), none⟩,
 ⟨some 1, .mv (.t 8), none⟩])
 (.seq (.seq (.reg [⟨some 9, .mv (.t 1), none⟩,
 ⟨some 10, .bin .lss (.t 9) (.c (.int .i64 0)), none⟩])
 (.cond (.t 10) (.seq (.reg [⟨some 4, .mv (.c (.int .i64 (-1))), none⟩])
 .ret)
 .skip))
 (.seq (.reg [⟨some 11, .mv (.t 1), none⟩,
 ⟨some 4, .mv (.t 11), none⟩])
 .ret))))
def if_laws_szPtS : IFn := ⟨12, [.inl 4], ib_laws_szPtS, lcF []⟩
def ks_laws_szPtS : List (List (Option Nat)) := [[none]]
def gf_laws_szPtS (a0 : (List Pt)) (a1 : Int) : Option Int := if (decide ((IntKind.i64.wrap (a1 - (a0.length : Int))) < 0)) = true then (some ((-1))) else (some ((IntKind.i64.wrap (a1 - (a0.length : Int)))))
def c_laws_szPtS : Con := ⟨(List Pt) × Int, Int, 1, fun a => [.ro (List.map ePt a.1), .v (.int .i64 a.2)], fun a => gf_laws_szPtS a.1 a.2, fun a r => ⟨[(false, [.v (.int .i64 r)])], []⟩, fun a => []⟩
/-! laws.szTag -/
def ib_laws_szTag : IC :=
 (.seq (.reg [⟨some 2, .box 354 [none, none] (.t 0), none⟩,
 ⟨some 4, .mv (.c (.int .i64 0)), none⟩])
 (.seq (.reg [⟨some 5, .mv (.t 1), none⟩,
 ⟨some 6, .faddr 0 (.t 2), none⟩,
 ⟨some 7, .load 1 false (.t 6), none⟩,
 ⟨some 8, .len true (.t 7), none⟩,
 ⟨some 9, .bin .sub (.t 5) (.t 8), none⟩,
 ⟨some 1, .mv (.t 9), none⟩])
 (.seq (.seq (.reg [⟨some 10, .mv (.t 1), none⟩,
 ⟨some 11, .bin .lss (.t 10) (.c (.int .i64 0)), none⟩])
 (.cond (.t 11) (.seq (.reg [⟨some 4, .mv (.c (.int .i64 (-1))), none⟩])
 .ret)
 .skip))
 (.seq (.reg [⟨some 12, .mv (.t 1), none⟩,
 ⟨some 13, .faddr 1 (.t 2), none⟩,
 ⟨some 14, .load 1 false (.t 13), none⟩,
 ⟨some 15, .len true (.t 14), none⟩,
 ⟨some 16, .bin .sub (.t 12) (.t 15), none⟩,
 ⟨some 1, .mv (.t 16), none⟩])
 (.seq (.seq (.reg [⟨some 17, .mv (.t 1), none⟩,
 ⟨some 18, .bin .lss (.t 17) (.c (.int .i64 0)), none⟩])
 (.cond (.t 18) (.seq (.reg [⟨some 4, .mv (.c (.int .i64 (-1))), none⟩])
 .ret)
 .skip))
 (.seq (.reg [⟨some 19, .mv (.t 1), none⟩,
 ⟨some 4, .mv (.t 19), none⟩])
 .ret))))))
def if_laws_szTag : IFn := ⟨20, [.inl 4], ib_laws_szTag, lcF []⟩
def ks_laws_szTag : List (List (Option Nat)) := [[none]]
def gf_laws_szTag (a0 : Tag) (a1 : Int) : Option Int := if (decide ((IntKind.i64.wrap (a1 - (a0.key.size : Int))) < 0)) = true then (some ((-1))) else (if (decide ((IntKind.i64.wrap ((IntKind.i64.wrap (a1 - (a0.key.size : Int))) - (a0.val.size : Int))) < 0)) = true then (some ((-1))) else (some ((IntKind.i64.wrap ((IntKind.i64.wrap (a1 - (a0.key.size : Int))) - (a0.val.size : Int))))))
def c_laws_szTag : Con := ⟨Tag × Int, Int, 2, fun a => [.agg [.v (.string a.1.key), .v (.string a.1.val)], .v (.int .i64 a.2)], fun a => gf_laws_szTag a.1 a.2, fun a r => ⟨[(false, [.v (.int .i64 r)])], []⟩, fun a => []⟩
/-! laws.szShape -/
def ib_laws_szShape : IC :=
 (.seq (.reg [⟨some 2, .box 482 [none, some 338] (.t 0), none⟩,
 ⟨some 4, .mv (.c (.int .i64 0)), none⟩])
 (.seq (.reg [⟨some 5, .faddr 1 (.t 2), none⟩,
 ⟨some 6, .load 1 false (.t 5), none⟩,
 ⟨some 7, .mv (.t 1), none⟩,
 ⟨some 8, .call 1 [(false, .t 6), (false, .t 7)], none⟩,
 ⟨some 1, .mv (.t 8), none⟩])
 (.seq (.seq (.reg [⟨some 9, .mv (.t 1), none⟩,
 ⟨some 10, .bin .lss (.t 9) (.c (.int .i64 0)), none⟩])
 (.cond (.t 10) (.seq (.reg [⟨some 4, .mv (.c (.int .i64 (-1))), none⟩])
 .ret)
 .skip))
 (.seq (.reg [⟨some 11, .mv (.t 1), none⟩,
 ⟨some 4, .mv (.t 11), none⟩])
 .ret))))
def if_laws_szShape : IFn := ⟨12, [.inl 4], ib_laws_szShape, lcF []⟩
def ks_laws_szShape : List (List (Option Nat)) := [[none]]
def gf_laws_szShape (a0 : Shape) (a1 : Int) : Option Int := (gf_laws_szPtS a0.pts a1).bind fun x2 => if (decide (x2 < 0)) = true then (some ((-1))) else (some (x2))
def c_laws_szShape : Con := ⟨Shape × Int, Int, 3, fun a => [.agg [.v (.int .i64 a.1.kind), .ro (List.map ePt a.1.pts)], .v (.int .i64 a.2)], fun a => gf_laws_szShape a.1 a.2, fun a r => ⟨[(false, [.v (.int .i64 r)])], []⟩, fun a => []⟩
/-! laws.szTagS -/
def ib_laws_szTagS : IC :=
 (.seq (.reg [⟨some 4, .mv (.c (.int .i64 0)), none⟩])
 (.seq (.reg [⟨some 6, .mv (.t 1), none⟩,
 ⟨some 7, .mv (.t 0), none⟩,
 ⟨some 8, .len false (.t 7), none⟩,
 ⟨some 9, .bin .sub (.t 6) (.t 8), none⟩,
 ⟨some 1, .mv (.t 9), none⟩])
 (.seq (.seq (.reg [⟨some 10, .mv (.t 1), none⟩,
 ⟨some 11, .bin .lss (.t 10) (.c (.int .i64 0)), none⟩])
 (.cond (.t 11) (.seq (.reg [⟨some 4, .mv (.c (.int .i64 (-1))), none⟩])
 .ret)
 .skip))
 (.seq (.seq (.reg [⟨some 5, .mv (.c (.int .i64 0)), none⟩])
 (blkC 0 (.loop (.seq (.seq (.reg [⟨some 12, .mv (.t 5), none⟩,
 ⟨some 13, .mv (.t 0), none⟩,
 ⟨some 14, .len false (.t 13), none⟩,
 ⟨some 15, .bin .lss (.t 12) (.t 14), none⟩])
 (.cond (.t 15) .skip
 (.exit 0)))
 (.seq (.block 1 (.seq (.reg [⟨some 18, .mv (.t 0), none⟩,
 ⟨some 19, .mv (.t 5), none⟩,
 ⟨some 20, .iaddr 2 (.t 18) (.t 19), none⟩,
 ⟨some 21, .load 2 true (.t 20), none⟩,
 ⟨some 22, .mv (.t 1), none⟩,
 ⟨some 23, .call 2 [(false, .t 21), (false, .t 22)], none⟩,
 ⟨some 1, .mv (.t 23), none⟩])
 (.seq (.reg [⟨some 24, .mv (.t 1), none⟩,
 ⟨some 25, .bin .lss (.t 24) (.c (.int .i64 0)), none⟩])
 (.cond (.t 25) (.seq (.reg [⟨some 4, .mv (.c (.int .i64 (-1))), none⟩])
 .ret)
 .skip))))
 (.reg [⟨some 16, .mv (.t 5), none⟩,
 ⟨some 17, .bin .add (.t 16) (.c (.int .i64 1)), none⟩,
 ⟨some 5, .mv (.t 17), none⟩]))))))
 (.seq (.reg [⟨some 26, .mv (.t 1), none⟩,
 ⟨some 4, .mv (.t 26), none⟩])
 .ret)))))
def if_laws_szTagS : IFn := ⟨27, [.inl 4], ib_laws_szTagS, lcF []⟩
def ks_laws_szTagS : List (List (Option Nat)) := [[none]]
def gl_laws_szTagS_1 : List Tag → Nat → Int → Option (Int ⊕ Int)
  | [], k18, v16 => some (.inr v16)
  | x19 :: l20, k18, v16 => (gf_laws_szTag x19 v16).bind fun x27 => if (decide (x27 < 0)) = true then (some (.inl ((-1)))) else (gl_laws_szTagS_1 l20 (k18 + 1) x27)
def gf_laws_szTagS (a0 : (List Tag)) (a1 : Int) : Option Int := if (decide ((IntKind.i64.wrap (a1 - (a0.length : Int))) < 0)) = true then (some ((-1))) else (if fits a0.length = true then ((gl_laws_szTagS_1 a0 0 (IntKind.i64.wrap (a1 - (a0.length : Int)))).bind fun q => match q with | .inl r => some r | .inr q15 => some (q15)) else none)
def c_laws_szTagS : Con := ⟨(List Tag) × Int, Int, 4, fun a => [.ro (List.map eTag a.1), .v (.int .i64 a.2)], fun a => gf_laws_szTagS a.1 a.2, fun a r => ⟨[(false, [.v (.int .i64 r)])], []⟩, fun a => []⟩
/-! laws.szFeat -/
def ib_laws_szFeat : IC :=
 (.seq (.reg [⟨some 2, .box 372 [none, none, some 338, some 354] (.t 0), none⟩,
 ⟨some 4, .mv (.c (.int .i64 0)), none⟩])
 (.seq (.reg [⟨some 5, .mv (.t 1), none⟩,
 ⟨some 6, .faddr 0 (.t 2), none⟩,
 ⟨some 7, .load 1 false (.t 6), none⟩,
 ⟨some 8, .len true (.t 7), none⟩,
 ⟨some 9, .bin .sub (.t 5) (.t 8), none⟩,
 ⟨some 1, .mv (.t 9), none⟩])
 (.seq (.seq (.reg [⟨some 10, .mv (.t 1), none⟩,
 ⟨some 11, .bin .lss (.t 10) (.c (.int .i64 0)), none⟩])
 (.cond (.t 11) (.seq (.reg [⟨some 4, .mv (.c (.int .i64 (-1))), none⟩])
 .ret)
 .skip))
 (.seq (.reg [⟨some 12, .faddr 1 (.t 2), none⟩,
 ⟨some 13, .load 2 true (.t 12), none⟩,
 ⟨some 14, .mv (.t 1), none⟩,
 ⟨some 15, .call 3 [(false, .t 13), (false, .t 14)], none⟩,
 ⟨some 1, .mv (.t 15), none⟩])
 (.seq (.seq (.reg [⟨some 16, .mv (.t 1), none⟩,
 ⟨some 17, .bin .lss (.t 16) (.c (.int .i64 0)), none⟩])
 (.cond (.t 17) (.seq (.reg [⟨some 4, .mv (.c (.int .i64 (-1))), none⟩])
 .ret)
 .skip))
 (.seq (.reg [⟨some 18, .faddr 3 (.t 2), none⟩,
 ⟨some 19, .load 1 false (.t 18), none⟩,
 ⟨some 20, .mv (.t 1), none⟩,
 ⟨some 21, .call 4 [(false, .t 19), (false, .t 20)], none⟩,
 ⟨some 1, .mv (.t 21), none⟩])
 (.seq (.seq (.reg [⟨some 22, .mv (.t 1), none⟩,
 ⟨some 23, .bin .lss (.t 22) (.c (.int .i64 0)), none⟩])
 (.cond (.t 23) (.seq (.reg [⟨some 4, .mv (.c (.int .i64 (-1))), none⟩])
 .ret)
 .skip))
 (.seq (.reg [⟨some 24, .mv (.t 1), none⟩,
 ⟨some 4, .mv (.t 24), none⟩])
 .ret))))))))
def if_laws_szFeat : IFn := ⟨25, [.inl 4], ib_laws_szFeat, lcF []⟩
def ks_laws_szFeat : List (List (Option Nat)) := [[none]]
def gf_laws_szFeat (a0 : Feat) (a1 : Int) : Option Int := if (decide ((IntKind.i64.wrap (a1 - (a0.id.size : Int))) < 0)) = true then (some ((-1))) else ((gf_laws_szShape a0.shape (IntKind.i64.wrap (a1 - (a0.id.size : Int)))).bind fun x2 => if (decide (x2 < 0)) = true then (some ((-1))) else ((gf_laws_szTagS a0.tags x2).bind fun x4 => if (decide (x4 < 0)) = true then (some ((-1))) else (some (x4))))
def c_laws_szFeat : Con := ⟨Feat × Int, Int, 5, fun a => [.agg [.v (.string a.1.id), .v (.int .i64 a.1.shape.kind), .ro (List.map ePt a.1.shape.pts), .ro (List.map eTag a.1.tags)], .v (.int .i64 a.2)], fun a => gf_laws_szFeat a.1 a.2, fun a r => ⟨[(false, [.v (.int .i64 r)])], []⟩, fun a => []⟩
/-! laws.szIntS -/
def ib_laws_szIntS : IC :=
 (.seq (.reg [⟨some 4, .mv (.c (.int .i64 0)), none⟩])
 (.seq (.reg [⟨some 5, .mv (.t 1), none⟩,
 ⟨some 6, .mv (.t 0), none⟩,
 ⟨some 7, .len false (.t 6), none⟩,
 ⟨some 8, .bin .sub (.t 5) (.t 7), none⟩,
 ⟨some 1, .mv (.t 8), none⟩])
 (.seq (.seq (.reg [⟨some 9, .mv (.t 1), none⟩,
 ⟨some 10, .bin .lss (.t 9) (.c (.int .i64 0)), none⟩])
 (.cond (.t 10) (.seq (.reg [⟨some 4, .mv (.c (.int .i64 (-1))), none⟩])
 .ret)
 .skip))
 (.seq (.reg [⟨some 11, .mv (.t 1), none⟩,
 ⟨some 4, .mv (.t 11), none⟩])
 .ret))))
def if_laws_szIntS : IFn := ⟨12, [.inl 4], ib_laws_szIntS, lcF []⟩
def ks_laws_szIntS : List (List (Option Nat)) := [[none]]
def gf_laws_szIntS (a0 : (List Int)) (a1 : Int) : Option Int := if (decide ((IntKind.i64.wrap (a1 - (a0.length : Int))) < 0)) = true then (some ((-1))) else (some ((IntKind.i64.wrap (a1 - (a0.length : Int)))))
def c_laws_szIntS : Con := ⟨(List Int) × Int, Int, 6, fun a => [.ro (List.map eInt a.1), .v (.int .i64 a.2)], fun a => gf_laws_szIntS a.1 a.2, fun a r => ⟨[(false, [.v (.int .i64 r)])], []⟩, fun a => []⟩
/-! laws.szFeatS -/
def ib_laws_szFeatS : IC :=
 (.seq (.reg [⟨some 4, .mv (.c (.int .i64 0)), none⟩])
 (.seq (.reg [⟨some 6, .mv (.t 1), none⟩,
 ⟨some 7, .mv (.t 0), none⟩,
 ⟨some 8, .len false (.t 7), none⟩,
 ⟨some 9, .bin .sub (.t 6) (.t 8), none⟩,
 ⟨some 1, .mv (.t 9), none⟩])
 (.seq (.seq (.reg [⟨some 10, .mv (.t 1), none⟩,
 ⟨some 11, .bin .lss (.t 10) (.c (.int .i64 0)), none⟩])
 (.cond (.t 11) (.seq (.reg [⟨some 4, .mv (.c (.int .i64 (-1))), none⟩])
 .ret)
 .skip))
 (.seq (.seq (.reg [⟨some 5, .mv (.c (.int .i64 0)), none⟩])
 (blkC 0 (.loop (.seq (.seq (.reg [⟨some 12, .mv (.t 5), none⟩,
 ⟨some 13, .mv (.t 0), none⟩,
 ⟨some 14, .len false (.t 13), none⟩,
 ⟨some 15, .bin .lss (.t 12) (.t 14), none⟩])
 (.cond (.t 15) .skip
 (.exit 0)))
 (.seq (.block 1 (.seq (.reg [⟨some 18, .mv (.t 0), none⟩,
 ⟨some 19, .mv (.t 5), none⟩,
 ⟨some 20, .iaddr 4 (.t 18) (.t 19), none⟩,
 ⟨some 21, .load 4 true (.t 20), none⟩,
 ⟨some 22, .mv (.t 1), none⟩,
 ⟨some 23, .call 5 [(false, .t 21), (false, .t 22)], none⟩,
 ⟨some 1, .mv (.t 23), none⟩])
 (.seq (.reg [⟨some 24, .mv (.t 1), none⟩,
 ⟨some 25, .bin .lss (.t 24) (.c (.int .i64 0)), none⟩])
 (.cond (.t 25) (.seq (.reg [⟨some 4, .mv (.c (.int .i64 (-1))), none⟩])
 .ret)
 .skip))))
 (.reg [⟨some 16, .mv (.t 5), none⟩,
 ⟨some 17, .bin .add (.t 16) (.c (.int .i64 1)), none⟩,
 ⟨some 5, .mv (.t 17), none⟩]))))))
 (.seq (.reg [⟨some 26, .mv (.t 1), none⟩,
 ⟨some 4, .mv (.t 26), none⟩])
 .ret)))))
def if_laws_szFeatS : IFn := ⟨27, [.inl 4], ib_laws_szFeatS, lcF []⟩
def ks_laws_szFeatS : List (List (Option Nat)) := [[none]]
def gl_laws_szFeatS_1 : List Feat → Nat → Int → Option (Int ⊕ Int)
  | [], k18, v16 => some (.inr v16)
  | x19 :: l20, k18, v16 => (gf_laws_szFeat x19 v16).bind fun x27 => if (decide (x27 < 0)) = true then (some (.inl ((-1)))) else (gl_laws_szFeatS_1 l20 (k18 + 1) x27)
def gf_laws_szFeatS (a0 : (List Feat)) (a1 : Int) : Option Int := if (decide ((IntKind.i64.wrap (a1 - (a0.length : Int))) < 0)) = true then (some ((-1))) else (if fits a0.length = true then ((gl_laws_szFeatS_1 a0 0 (IntKind.i64.wrap (a1 - (a0.length : Int)))).bind fun q => match q with | .inl r => some r | .inr q15 => some (q15)) else none)
def c_laws_szFeatS : Con := ⟨(List Feat) × Int, Int, 7, fun a => [.ro (List.map (eFeat false) a.1), .v (.int .i64 a.2)], fun a => gf_laws_szFeatS a.1 a.2, fun a r => ⟨[(false, [.v (.int .i64 r)])], []⟩, fun a => []⟩
/-! laws.szCommit -/
def ib_laws_szCommit : IC :=
 (.seq (.reg [⟨some 2, .box 387 [some 17, some 372, none] (.t 0), none⟩,
 ⟨some 4, .mv (.c (.int .i64 0)), none⟩])
 (.seq (.reg [⟨some 5, .faddr 0 (.t 2), none⟩,
 ⟨some 6, .load 1 false (.t 5), none⟩,
 ⟨some 7, .mv (.t 1), none⟩,
 ⟨some 8, .call 6 [(false, .t 6), (false, .t 7)], none⟩,
 ⟨some 1, .mv (.t 8), none⟩])
 (.seq (.seq (.reg [⟨some 9, .mv (.t 1), none⟩,
 ⟨some 10, .bin .lss (.t 9) (.c (.int .i64 0)), none⟩])
 (.cond (.t 10) (.seq (.reg [⟨some 4, .mv (.c (.int .i64 (-1))), none⟩])
 .ret)
 .skip))
 (.seq (.reg [⟨some 11, .faddr 1 (.t 2), none⟩,
 ⟨some 12, .load 1 false (.t 11), none⟩,
 ⟨some 13, .mv (.t 1), none⟩,
 ⟨some 14, .call 7 [(false, .t 12), (false, .t 13)], none⟩,
 ⟨some 1, .mv (.t 14), none⟩])
 (.seq (.seq (.reg [⟨some 15, .mv (.t 1), none⟩,
 ⟨some 16, .bin .lss (.t 15) (.c (.int .i64 0)), none⟩])
 (.cond (.t 16) (.seq (.reg [⟨some 4, .mv (.c (.int .i64 (-1))), none⟩])
 .ret)
 .skip))
 (.seq (.reg [⟨some 17, .mv (.t 1), none⟩,
 ⟨some 18, .faddr 2 (.t 2), none⟩,
 ⟨some 19, .load 1 false (.t 18), none⟩,
 ⟨some 20, .len true (.t 19), none⟩,
 ⟨some 21, .bin .sub (.t 17) (.t 20), none⟩,
 ⟨some 1, .mv (.t 21), none⟩])
 (.seq (.seq (.reg [⟨some 22, .mv (.t 1), none⟩,
 ⟨some 23, .bin .lss (.t 22) (.c (.int .i64 0)), none⟩])
 (.cond (.t 23) (.seq (.reg [⟨some 4, .mv (.c (.int .i64 (-1))), none⟩])
 .ret)
 .skip))
 (.seq (.reg [⟨some 24, .mv (.t 1), none⟩,
 ⟨some 4, .mv (.t 24), none⟩])
 .ret))))))))
def if_laws_szCommit : IFn := ⟨25, [.inl 4], ib_laws_szCommit, lcF []⟩
def ks_laws_szCommit : List (List (Option Nat)) := [[none]]
def gf_laws_szCommit (a0 : Commit) (a1 : Int) : Option Int := (gf_laws_szIntS a0.up a1).bind fun x2 => if (decide (x2 < 0)) = true then (some ((-1))) else ((gf_laws_szFeatS a0.sheet x2).bind fun x4 => if (decide (x4 < 0)) = true then (some ((-1))) else (if (decide ((IntKind.i64.wrap (x4 - (a0.note.size : Int))) < 0)) = true then (some ((-1))) else (some ((IntKind.i64.wrap (x4 - (a0.note.size : Int)))))))
def c_laws_szCommit : Con := ⟨Commit × Int, Int, 8, fun a => [.agg [.ro (List.map eInt a.1.up), .ro (List.map (eFeat false) a.1.sheet), .v (.string a.1.note)], .v (.int .i64 a.2)], fun a => gf_laws_szCommit a.1 a.2, fun a r => ⟨[(false, [.v (.int .i64 r)])], []⟩, fun a => []⟩
/-! laws.szHead -/
def ib_laws_szHead : IC :=
 (.seq (.reg [⟨some 2, .box 402 [none, none] (.t 0), none⟩,
 ⟨some 4, .mv (.c (.int .i64 0)), none⟩])
 (.seq (.reg [⟨some 5, .mv (.t 1), none⟩,
 ⟨some 6, .faddr 0 (.t 2), none⟩,
 ⟨some 7, .load 1 false (.t 6), none⟩,
 ⟨some 8, .len true (.t 7), none⟩,
 ⟨some 9, .bin .sub (.t 5) (.t 8), none⟩,
 ⟨some 1, .mv (.t 9), none⟩])
 (.seq (.seq (.reg [⟨some 10, .mv (.t 1), none⟩,
 ⟨some 11, .bin .lss (.t 10) (.c (.int .i64 0)), none⟩])
 (.cond (.t 11) (.seq (.reg [⟨some 4, .mv (.c (.int .i64 (-1))), none⟩])
 .ret)
 .skip))
 (.seq (.reg [⟨some 12, .mv (.t 1), none⟩,
 ⟨some 4, .mv (.t 12), none⟩])
 .ret))))
def if_laws_szHead : IFn := ⟨13, [.inl 4], ib_laws_szHead, lcF []⟩
def ks_laws_szHead : List (List (Option Nat)) := [[none]]
def gf_laws_szHead (a0 : Head) (a1 : Int) : Option Int := if (decide ((IntKind.i64.wrap (a1 - (a0.name.size : Int))) < 0)) = true then (some ((-1))) else (some ((IntKind.i64.wrap (a1 - (a0.name.size : Int)))))
def c_laws_szHead : Con := ⟨Head × Int, Int, 9, fun a => [.agg [.v (.string a.1.name), .v (.int .i64 a.1.at_)], .v (.int .i64 a.2)], fun a => gf_laws_szHead a.1 a.2, fun a r => ⟨[(false, [.v (.int .i64 r)])], []⟩, fun a => []⟩
/-! laws.szCommitS -/
def ib_laws_szCommitS : IC :=
 (.seq (.reg [⟨some 4, .mv (.c (.int .i64 0)), none⟩])
 (.seq (.reg [⟨some 6, .mv (.t 1), none⟩,
 ⟨some 7, .mv (.t 0), none⟩,
 ⟨some 8, .len false (.t 7), none⟩,
 ⟨some 9, .bin .sub (.t 6) (.t 8), none⟩,
 ⟨some 1, .mv (.t 9), none⟩])
 (.seq (.seq (.reg [⟨some 10, .mv (.t 1), none⟩,
 ⟨some 11, .bin .lss (.t 10) (.c (.int .i64 0)), none⟩])
 (.cond (.t 11) (.seq (.reg [⟨some 4, .mv (.c (.int .i64 (-1))), none⟩])
 .ret)
 .skip))
 (.seq (.seq (.reg [⟨some 5, .mv (.c (.int .i64 0)), none⟩])
 (blkC 0 (.loop (.seq (.seq (.reg [⟨some 12, .mv (.t 5), none⟩,
 ⟨some 13, .mv (.t 0), none⟩,
 ⟨some 14, .len false (.t 13), none⟩,
 ⟨some 15, .bin .lss (.t 12) (.t 14), none⟩])
 (.cond (.t 15) .skip
 (.exit 0)))
 (.seq (.block 1 (.seq (.reg [⟨some 18, .mv (.t 0), none⟩,
 ⟨some 19, .mv (.t 5), none⟩,
 ⟨some 20, .iaddr 3 (.t 18) (.t 19), none⟩,
 ⟨some 21, .load 3 true (.t 20), none⟩,
 ⟨some 22, .mv (.t 1), none⟩,
 ⟨some 23, .call 8 [(false, .t 21), (false, .t 22)], none⟩,
 ⟨some 1, .mv (.t 23), none⟩])
 (.seq (.reg [⟨some 24, .mv (.t 1), none⟩,
 ⟨some 25, .bin .lss (.t 24) (.c (.int .i64 0)), none⟩])
 (.cond (.t 25) (.seq (.reg [⟨some 4, .mv (.c (.int .i64 (-1))), none⟩])
 .ret)
 .skip))))
 (.reg [⟨some 16, .mv (.t 5), none⟩,
 ⟨some 17, .bin .add (.t 16) (.c (.int .i64 1)), none⟩,
 ⟨some 5, .mv (.t 17), none⟩]))))))
 (.seq (.reg [⟨some 26, .mv (.t 1), none⟩,
 ⟨some 4, .mv (.t 26), none⟩])
 .ret)))))
def if_laws_szCommitS : IFn := ⟨27, [.inl 4], ib_laws_szCommitS, lcF []⟩
def ks_laws_szCommitS : List (List (Option Nat)) := [[none]]
def gl_laws_szCommitS_1 : List Commit → Nat → Int → Option (Int ⊕ Int)
  | [], k18, v16 => some (.inr v16)
  | x19 :: l20, k18, v16 => (gf_laws_szCommit x19 v16).bind fun x27 => if (decide (x27 < 0)) = true then (some (.inl ((-1)))) else (gl_laws_szCommitS_1 l20 (k18 + 1) x27)
def gf_laws_szCommitS (a0 : (List Commit)) (a1 : Int) : Option Int := if (decide ((IntKind.i64.wrap (a1 - (a0.length : Int))) < 0)) = true then (some ((-1))) else (if fits a0.length = true then ((gl_laws_szCommitS_1 a0 0 (IntKind.i64.wrap (a1 - (a0.length : Int)))).bind fun q => match q with | .inl r => some r | .inr q15 => some (q15)) else none)
def c_laws_szCommitS : Con := ⟨(List Commit) × Int, Int, 10, fun a => [.ro (List.map (eCommit false) a.1), .v (.int .i64 a.2)], fun a => gf_laws_szCommitS a.1 a.2, fun a r => ⟨[(false, [.v (.int .i64 r)])], []⟩, fun a => []⟩
/-! laws.szHeadS -/
def ib_laws_szHeadS : IC :=
 (.seq (.reg [⟨some 4, .mv (.c (.int .i64 0)), none⟩])
 (.seq (.reg [⟨some 6, .mv (.t 1), none⟩,
 ⟨some 7, .mv (.t 0), none⟩,
 ⟨some 8, .len false (.t 7), none⟩,
 ⟨some 9, .bin .sub (.t 6) (.t 8), none⟩,
 ⟨some 1, .mv (.t 9), none⟩])
 (.seq (.seq (.reg [⟨some 10, .mv (.t 1), none⟩,
 ⟨some 11, .bin .lss (.t 10) (.c (.int .i64 0)), none⟩])
 (.cond (.t 11) (.seq (.reg [⟨some 4, .mv (.c (.int .i64 (-1))), none⟩])
 .ret)
 .skip))
 (.seq (.seq (.reg [⟨some 5, .mv (.c (.int .i64 0)), none⟩])
 (blkC 0 (.loop (.seq (.seq (.reg [⟨some 12, .mv (.t 5), none⟩,
 ⟨some 13, .mv (.t 0), none⟩,
 ⟨some 14, .len false (.t 13), none⟩,
 ⟨some 15, .bin .lss (.t 12) (.t 14), none⟩])
 (.cond (.t 15) .skip
 (.exit 0)))
 (.seq (.block 1 (.seq (.reg [⟨some 18, .mv (.t 0), none⟩,
 ⟨some 19, .mv (.t 5), none⟩,
 ⟨some 20, .iaddr 2 (.t 18) (.t 19), none⟩,
 ⟨some 21, .load 2 true (.t 20), none⟩,
 ⟨some 22, .mv (.t 1), none⟩,
 ⟨some 23, .call 9 [(false, .t 21), (false, .t 22)], none⟩,
 ⟨some 1, .mv (.t 23), none⟩])
 (.seq (.reg [⟨some 24, .mv (.t 1), none⟩,
 ⟨some 25, .bin .lss (.t 24) (.c (.int .i64 0)), none⟩])
 (.cond (.t 25) (.seq (.reg [⟨some 4, .mv (.c (.int .i64 (-1))), none⟩])
 .ret)
 .skip))))
 (.reg [⟨some 16, .mv (.t 5), none⟩,
 ⟨some 17, .bin .add (.t 16) (.c (.int .i64 1)), none⟩,
 ⟨some 5, .mv (.t 17), none⟩]))))))
 (.seq (.reg [⟨some 26, .mv (.t 1), none⟩,
 ⟨some 4, .mv (.t 26), none⟩])
 .ret)))))
def if_laws_szHeadS : IFn := ⟨27, [.inl 4], ib_laws_szHeadS, lcF []⟩
def ks_laws_szHeadS : List (List (Option Nat)) := [[none]]
def gl_laws_szHeadS_1 : List Head → Nat → Int → Option (Int ⊕ Int)
  | [], k18, v16 => some (.inr v16)
  | x19 :: l20, k18, v16 => (gf_laws_szHead x19 v16).bind fun x27 => if (decide (x27 < 0)) = true then (some (.inl ((-1)))) else (gl_laws_szHeadS_1 l20 (k18 + 1) x27)
def gf_laws_szHeadS (a0 : (List Head)) (a1 : Int) : Option Int := if (decide ((IntKind.i64.wrap (a1 - (a0.length : Int))) < 0)) = true then (some ((-1))) else (if fits a0.length = true then ((gl_laws_szHeadS_1 a0 0 (IntKind.i64.wrap (a1 - (a0.length : Int)))).bind fun q => match q with | .inl r => some r | .inr q15 => some (q15)) else none)
def c_laws_szHeadS : Con := ⟨(List Head) × Int, Int, 11, fun a => [.ro (List.map eHead a.1), .v (.int .i64 a.2)], fun a => gf_laws_szHeadS a.1 a.2, fun a r => ⟨[(false, [.v (.int .i64 r)])], []⟩, fun a => []⟩
/-! spec.l1Num -/
def ib_spec_l1Num : IC :=
 (.seq (.reg [⟨some 2, .mv (.c (.bool false)), none⟩])
 (.seq (.reg [⟨some 3, .mv (.t 0), none⟩,
 ⟨some 4, .bin .geq (.t 3) (.c (.int .i64 (-1000))), none⟩,
 ⟨some 5, .mv (.t 4), none⟩,
 ⟨some 6, .mv (.t 0), some (5, true)⟩,
 ⟨some 7, .bin .leq (.t 6) (.c (.int .i64 1000)), some (5, true)⟩,
 ⟨some 8, .pick (.t 5) (.t 7) (.c (.bool false)), none⟩,
 ⟨some 2, .mv (.t 8), none⟩])
 .ret))
def if_spec_l1Num : IFn := ⟨9, [.inl 2], ib_spec_l1Num, lcF []⟩
def ks_spec_l1Num : List (List (Option Nat)) := [[none]]
def gf_spec_l1Num (a0 : Int) : Option Bool := if (decide (a0 ≥ (-1000))) = true then (some ((decide (a0 ≤ 1000)))) else (some (false))
def c_spec_l1Num : Con := ⟨Int, Bool, 12, fun a => [.v (.int .i64 a)], fun a => gf_spec_l1Num a, fun a r => ⟨[(false, [.v (.bool r)])], []⟩, fun a => []⟩
/-! spec.l1Pts -/
def ib_spec_l1Pts : IC :=
 (.seq (.reg [⟨some 2, .mv (.c (.bool false)), none⟩])
 (.seq (.seq (.reg [⟨some 3, .mv (.c (.int .i64 0)), none⟩])
 (blkC 0 (.loop (.seq (.seq (.reg [⟨some 4, .mv (.t 3), none⟩,
 ⟨some 5, .mv (.t 0), none⟩,
 ⟨some 6, .len false (.t 5), none⟩,
 ⟨some 7, .bin .lss (.t 4) (.t 6), none⟩])
 (.cond (.t 7) .skip
 (.exit 0)))
 (.seq (.block 1 (.seq (.drw [⟨some 10, .mv (.t 0), none⟩,
 ⟨some 11, .mv (.t 3), none⟩,
 ⟨some 12, .iaddr 2 (.t 10) (.t 11), none⟩,
 ⟨some 13, .faddr 0 (.t 12), none⟩,
 ⟨some 14, .load 1 false (.t 13), none⟩,
 ⟨some 15, .call 12 [(false, .t 14)], none⟩,
 ⟨some 16, .un .not (.t 15), none⟩,
 ⟨some 17, .mv (.t 16), none⟩,
 ⟨some 18, .mv (.t 0), some (17, false)⟩,
 ⟨some 19, .mv (.t 3), some (17, false)⟩,
 ⟨some 20, .iaddr 2 (.t 18) (.t 19), some (17, false)⟩,
 ⟨some 21, .faddr 1 (.t 20), some (17, false)⟩,
 ⟨some 22, .load 1 false (.t 21), some (17, false)⟩,
 ⟨some 23, .call 12 [(false, .t 22)], some (17, false)⟩,
 ⟨some 24, .un .not (.t 23), some (17, false)⟩,
 ⟨some 25, .pick (.t 17) (.c (.bool true)) (.t 24), none⟩,
 ⟨some 26, .mv (.t 25), none⟩,
 ⟨some 27, .mv (.t 3), some (26, false)⟩,
 ⟨some 28, .bin .gtr (.t 27) (.c (.int .i64 0)), some (26, false)⟩,
 ⟨some 29, .mv (.t 28), some (26, false)⟩,
 ⟨some 30, .mv (.t 0), some (29, true)⟩,
 ⟨some 31, .mv (.t 3), some (29, true)⟩,
 ⟨some 32, .iaddr 2 (.t 30) (.t 31), some (29, true)⟩,
 ⟨some 33, .load 2 true (.t 32), some (29, true)⟩,
 ⟨some 34, .mv (.t 0), some (29, true)⟩,
 ⟨some 35, .mv (.t 3), some (29, true)⟩,
 ⟨some 36, .bin .sub (.t 35) (.c (.int .i64 1)), some (29, true)⟩,
 ⟨some 37, .iaddr 2 (.t 34) (.t 36), some (29, true)⟩,
 ⟨some 38, .load 2 true (.t 37), some (29, true)⟩,
 ⟨some 39, .eqs false true [0, 0] (.t 33) (.t 38), some (29, true)⟩,
 ⟨some 40, .pick (.t 29) (.t 39) (.c (.bool false)), some (26, false)⟩,
 ⟨some 41, .pick (.t 26) (.c (.bool true)) (.t 40), none⟩] [(23, 28)])
 (.cond (.t 41) (.seq (.reg [⟨some 2, .mv (.c (.bool false)), none⟩])
 .ret)
 .skip)))
 (.reg [⟨some 8, .mv (.t 3), none⟩,
 ⟨some 9, .bin .add (.t 8) (.c (.int .i64 1)), none⟩,
 ⟨some 3, .mv (.t 9), none⟩]))))))
 (.seq (.reg [⟨some 42, .mv (.t 0), none⟩,
 ⟨some 43, .len false (.t 42), none⟩,
 ⟨some 44, .bin .leq (.t 43) (.c (.int .i64 6)), none⟩,
 ⟨some 2, .mv (.t 44), none⟩])
 .ret)))
def if_spec_l1Pts : IFn := ⟨45, [.inl 2], ib_spec_l1Pts, lcF []⟩
def ks_spec_l1Pts : List (List (Option Nat)) := [[none]]
def gl_spec_l1Pts_1 (a0 : (List Pt)) : List Pt → Nat → Option (Bool ⊕ Unit)
  | [], k26 => some (.inr ())
  | x27 :: l28, k26 => (gf_spec_l1Num x27.x).bind fun x35 => if (!x35) = true then (some (.inl (false))) else ((gf_spec_l1Num x27.y).bind fun x37 => if (!x37) = true then (some (.inl (false))) else (if (decide ((k26 : Int) > 0)) = true then ((idx a0 (IntKind.i64.wrap ((k26 : Int) - 1))).bind fun x39 => if ((x27.x == x39.x) && ((x27.y == x39.y) && true)) = true then (some (.inl (false))) else (gl_spec_l1Pts_1 a0 l28 (k26 + 1) )) else (gl_spec_l1Pts_1 a0 l28 (k26 + 1) )))
def gf_spec_l1Pts (a0 : (List Pt)) : Option Bool := if fits a0.length = true then ((gl_spec_l1Pts_1 a0 a0 0 ).bind fun q => match q with | .inl r => some r | .inr q24 => some ((decide ((a0.length : Int) ≤ 6)))) else none
def c_spec_l1Pts : Con := ⟨(List Pt), Bool, 13, fun a => [.ro (List.map ePt a)], fun a => gf_spec_l1Pts a, fun a r => ⟨[(false, [.v (.bool r)])], []⟩, fun a => []⟩
/-! spec.WordOk -/
def ib_spec_WordOk : IC :=
 (.seq (.reg [⟨some 2, .mv (.c (.bool false)), none⟩])
 (.seq (.seq (.reg [⟨some 3, .mv (.c (.int .i64 0)), none⟩])
 (blkC 0 (.loop (.seq (.seq (.reg [⟨some 4, .mv (.t 3), none⟩,
 ⟨some 5, .mv (.t 0), none⟩,
 ⟨some 6, .len true (.t 5), none⟩,
 ⟨some 7, .bin .lss (.t 4) (.t 6), none⟩])
 (.cond (.t 7) .skip
 (.exit 0)))
 (.seq (.block 1 (.seq (.reg [⟨some 10, .mv (.t 0), none⟩,
 ⟨some 11, .mv (.t 3), none⟩,
 ⟨some 12, .sidx (.t 10) (.t 11), none⟩,
 ⟨some 13, .bin .lss (.t 12) (.c (.int .u8 97)), none⟩,
 ⟨some 14, .mv (.t 13), none⟩,
 ⟨some 15, .mv (.t 0), some (14, false)⟩,
 ⟨some 16, .mv (.t 3), some (14, false)⟩,
 ⟨some 17, .sidx (.t 15) (.t 16), some (14, false)⟩,
 ⟨some 18, .bin .gtr (.t 17) (.c (.int .u8 122)), some (14, false)⟩,
 ⟨some 19, .pick (.t 14) (.c (.bool true)) (.t 18), none⟩])
 (.cond (.t 19) (.seq (.reg [⟨some 2, .mv (.c (.bool false)), none⟩])
 .ret)
 .skip)))
 (.reg [⟨some 8, .mv (.t 3), none⟩,
 ⟨some 9, .bin .add (.t 8) (.c (.int .i64 1)), none⟩,
 ⟨some 3, .mv (.t 9), none⟩]))))))
 (.seq (.reg [⟨some 20, .mv (.t 0), none⟩,
 ⟨some 21, .len true (.t 20), none⟩,
 ⟨some 22, .bin .geq (.t 21) (.c (.int .i64 1)), none⟩,
 ⟨some 23, .mv (.t 22), none⟩,
 ⟨some 24, .mv (.t 0), some (23, true)⟩,
 ⟨some 25, .len true (.t 24), some (23, true)⟩,
 ⟨some 26, .bin .leq (.t 25) (.c (.int .i64 6)), some (23, true)⟩,
 ⟨some 27, .pick (.t 23) (.t 26) (.c (.bool false)), none⟩,
 ⟨some 2, .mv (.t 27), none⟩])
 .ret)))
def if_spec_WordOk : IFn := ⟨28, [.inl 2], ib_spec_WordOk, lcF []⟩
def ks_spec_WordOk : List (List (Option Nat)) := [[none]]
def gl_spec_WordOk_1 : List UInt8 → Nat → Option (Bool ⊕ Unit)
  | [], k10 => some (.inr ())
  | x11 :: l12, k10 => if (decide ((x11.toNat : Int) < 97)) = true then (some (.inl (false))) else (if (decide ((x11.toNat : Int) > 122)) = true then (some (.inl (false))) else (gl_spec_WordOk_1 l12 (k10 + 1) ))
def gf_spec_WordOk (a0 : Str) : Option Bool := if fits a0.size = true then ((gl_spec_WordOk_1 a0.data.toList 0 ).bind fun q => match q with | .inl r => some r | .inr q8 => if (decide ((a0.size : Int) ≥ 1)) = true then (some ((decide ((a0.size : Int) ≤ 6)))) else (some (false))) else none
def c_spec_WordOk : Con := ⟨Str, Bool, 14, fun a => [.v (.string a)], fun a => gf_spec_WordOk a, fun a r => ⟨[(false, [.v (.bool r)])], []⟩, fun a => []⟩
/-! spec.ShapeOk -/
def ib_spec_ShapeOk : IC :=
 (.seq (.reg [⟨some 1, .box 226 [none, some 66] (.t 0), none⟩,
 ⟨some 2, .mv (.c (.bool false)), none⟩])
 (.seq (.reg [⟨some 4, .faddr 1 (.t 1), none⟩,
 ⟨some 5, .load 1 false (.t 4), none⟩,
 ⟨some 6, .len false (.t 5), none⟩,
 ⟨some 3, .mv (.t 6), none⟩])
 (.seq (.seq (.reg [⟨some 7, .faddr 1 (.t 1), none⟩,
 ⟨some 8, .load 1 false (.t 7), none⟩,
 ⟨some 9, .call 13 [(false, .t 8)], none⟩,
 ⟨some 10, .un .not (.t 9), none⟩])
 (.cond (.t 10) (.seq (.reg [⟨some 2, .mv (.c (.bool false)), none⟩])
 .ret)
 .skip))
 (.seq (.seq (.reg [⟨some 11, .faddr 0 (.t 1), none⟩,
 ⟨some 12, .load 1 false (.t 11), none⟩])
 (.block 0 (.seq (.reg [⟨some 14, .bin .eql (.t 12) (.c (.int .i64 1)), none⟩,
 ⟨some 13, .mv (.t 14), none⟩])
 (.cond (.t 13) (.seq (.reg [⟨some 15, .mv (.t 3), none⟩,
 ⟨some 16, .bin .eql (.t 15) (.c (.int .i64 1)), none⟩,
 ⟨some 2, .mv (.t 16), none⟩])
 .ret)
 (.seq (.reg [⟨some 18, .bin .eql (.t 12) (.c (.int .i64 2)), none⟩,
 ⟨some 17, .mv (.t 18), none⟩])
 (.cond (.t 17) (.seq (.reg [⟨some 19, .mv (.t 3), none⟩,
 ⟨some 20, .bin .geq (.t 19) (.c (.int .i64 2)), none⟩,
 ⟨some 2, .mv (.t 20), none⟩])
 .ret)
 (.seq (.reg [⟨some 22, .bin .eql (.t 12) (.c (.int .i64 3)), none⟩,
 ⟨some 21, .mv (.t 22), none⟩])
 (.cond (.t 21) (.seq (.drw [⟨some 23, .mv (.t 3), none⟩,
 ⟨some 24, .bin .geq (.t 23) (.c (.int .i64 3)), none⟩,
 ⟨some 25, .mv (.t 24), none⟩,
 ⟨some 26, .faddr 1 (.t 1), some (25, true)⟩,
 ⟨some 27, .load 1 false (.t 26), some (25, true)⟩,
 ⟨some 28, .iaddr 2 (.t 27) (.c (.int .i64 0)), some (25, true)⟩,
 ⟨some 29, .load 2 true (.t 28), some (25, true)⟩,
 ⟨some 30, .faddr 1 (.t 1), some (25, true)⟩,
 ⟨some 31, .load 1 false (.t 30), some (25, true)⟩,
 ⟨some 32, .mv (.t 3), some (25, true)⟩,
 ⟨some 33, .bin .sub (.t 32) (.c (.int .i64 1)), some (25, true)⟩,
 ⟨some 34, .iaddr 2 (.t 31) (.t 33), some (25, true)⟩,
 ⟨some 35, .load 2 true (.t 34), some (25, true)⟩,
 ⟨some 36, .eqs true true [0, 0] (.t 29) (.t 35), some (25, true)⟩,
 ⟨some 37, .pick (.t 25) (.t 36) (.c (.bool false)), none⟩,
 ⟨some 2, .mv (.t 37), none⟩] [(4, 8), (6, 8), (4, 12), (6, 12)])
 .ret)
 .skip))))))))
 (.seq (.reg [⟨some 2, .mv (.c (.bool false)), none⟩])
 .ret)))))
def if_spec_ShapeOk : IFn := ⟨38, [.inl 2], ib_spec_ShapeOk, lcF []⟩
def ks_spec_ShapeOk : List (List (Option Nat)) := [[none]]
def gf_spec_ShapeOk (a0 : Shape) : Option Bool := (gf_spec_l1Pts a0.pts).bind fun x2 => if (!x2) = true then (some (false)) else (if (a0.kind == 1) = true then (some (((a0.pts.length : Int) == 1))) else (if (a0.kind == 2) = true then (some ((decide ((a0.pts.length : Int) ≥ 2)))) else (if (a0.kind == 3) = true then (if (decide ((a0.pts.length : Int) ≥ 3)) = true then ((idx a0.pts 0).bind fun x4 => (idx a0.pts (IntKind.i64.wrap ((a0.pts.length : Int) - 1))).bind fun x6 => some ((!((x4.x == x6.x) && ((x4.y == x6.y) && true))))) else (some (false))) else (some (false)))))
def c_spec_ShapeOk : Con := ⟨Shape, Bool, 15, fun a => [.agg [.v (.int .i64 a.kind), .ro (List.map ePt a.pts)]], fun a => gf_spec_ShapeOk a, fun a r => ⟨[(false, [.v (.bool r)])], []⟩, fun a => []⟩
/-! spec.l2Tags -/
def ib_spec_l2Tags : IC :=
 (.seq (.reg [⟨some 2, .mv (.c (.bool false)), none⟩])
 (.seq (.seq (.reg [⟨some 3, .mv (.c (.int .i64 0)), none⟩])
 (blkC 0 (.loop (.seq (.seq (.reg [⟨some 4, .mv (.t 3), none⟩,
 ⟨some 5, .mv (.t 0), none⟩,
 ⟨some 6, .len false (.t 5), none⟩,
 ⟨some 7, .bin .lss (.t 4) (.t 6), none⟩])
 (.cond (.t 7) .skip
 (.exit 0)))
 (.seq (.block 1 (.seq (.drw [⟨some 10, .mv (.t 0), none⟩,
 ⟨some 11, .mv (.t 3), none⟩,
 ⟨some 12, .iaddr 2 (.t 10) (.t 11), none⟩,
 ⟨some 13, .faddr 0 (.t 12), none⟩,
 ⟨some 14, .load 1 false (.t 13), none⟩,
 ⟨some 15, .call 14 [(false, .t 14)], none⟩,
 ⟨some 16, .un .not (.t 15), none⟩,
 ⟨some 17, .mv (.t 16), none⟩,
 ⟨some 18, .mv (.t 0), some (17, false)⟩,
 ⟨some 19, .mv (.t 3), some (17, false)⟩,
 ⟨some 20, .iaddr 2 (.t 18) (.t 19), some (17, false)⟩,
 ⟨some 21, .faddr 1 (.t 20), some (17, false)⟩,
 ⟨some 22, .load 1 false (.t 21), some (17, false)⟩,
 ⟨some 23, .call 14 [(false, .t 22)], some (17, false)⟩,
 ⟨some 24, .un .not (.t 23), some (17, false)⟩,
 ⟨some 25, .pick (.t 17) (.c (.bool true)) (.t 24), none⟩,
 ⟨some 26, .mv (.t 25), none⟩,
 ⟨some 27, .mv (.t 3), some (26, false)⟩,
 ⟨some 28, .bin .gtr (.t 27) (.c (.int .i64 0)), some (26, false)⟩,
 ⟨some 29, .mv (.t 28), some (26, false)⟩,
 ⟨some 30, .mv (.t 0), some (29, true)⟩,
 ⟨some 31, .mv (.t 3), some (29, true)⟩,
 ⟨some 32, .iaddr 2 (.t 30) (.t 31), some (29, true)⟩,
 ⟨some 33, .faddr 0 (.t 32), some (29, true)⟩,
 ⟨some 34, .load 1 false (.t 33), some (29, true)⟩,
 ⟨some 35, .mv (.t 0), some (29, true)⟩,
 ⟨some 36, .mv (.t 3), some (29, true)⟩,
 ⟨some 37, .bin .sub (.t 36) (.c (.int .i64 1)), some (29, true)⟩,
 ⟨some 38, .iaddr 2 (.t 35) (.t 37), some (29, true)⟩,
 ⟨some 39, .faddr 0 (.t 38), some (29, true)⟩,
 ⟨some 40, .load 1 false (.t 39), some (29, true)⟩,
 ⟨some 41, .bin .leq (.t 34) (.t 40), some (29, true)⟩,
 ⟨some 42, .pick (.t 29) (.t 41) (.c (.bool false)), some (26, false)⟩,
 ⟨some 43, .pick (.t 26) (.c (.bool true)) (.t 42), none⟩] [(24, 30)])
 (.cond (.t 43) (.seq (.reg [⟨some 2, .mv (.c (.bool false)), none⟩])
 .ret)
 .skip)))
 (.reg [⟨some 8, .mv (.t 3), none⟩,
 ⟨some 9, .bin .add (.t 8) (.c (.int .i64 1)), none⟩,
 ⟨some 3, .mv (.t 9), none⟩]))))))
 (.seq (.reg [⟨some 44, .mv (.t 0), none⟩,
 ⟨some 45, .len false (.t 44), none⟩,
 ⟨some 46, .bin .leq (.t 45) (.c (.int .i64 4)), none⟩,
 ⟨some 2, .mv (.t 46), none⟩])
 .ret)))
def if_spec_l2Tags : IFn := ⟨47, [.inl 2], ib_spec_l2Tags, lcF []⟩
def ks_spec_l2Tags : List (List (Option Nat)) := [[none]]
def gl_spec_l2Tags_1 (a0 : (List Tag)) : List Tag → Nat → Option (Bool ⊕ Unit)
  | [], k26 => some (.inr ())
  | x27 :: l28, k26 => (gf_spec_WordOk x27.key).bind fun x35 => if (!x35) = true then (some (.inl (false))) else ((gf_spec_WordOk x27.val).bind fun x37 => if (!x37) = true then (some (.inl (false))) else (if (decide ((k26 : Int) > 0)) = true then ((idx a0 (IntKind.i64.wrap ((k26 : Int) - 1))).bind fun x39 => if (slt x27.key x39.key || seq x27.key x39.key) = true then (some (.inl (false))) else (gl_spec_l2Tags_1 a0 l28 (k26 + 1) )) else (gl_spec_l2Tags_1 a0 l28 (k26 + 1) )))
def gf_spec_l2Tags (a0 : (List Tag)) : Option Bool := if fits a0.length = true then ((gl_spec_l2Tags_1 a0 a0 0 ).bind fun q => match q with | .inl r => some r | .inr q24 => some ((decide ((a0.length : Int) ≤ 4)))) else none
def c_spec_l2Tags : Con := ⟨(List Tag), Bool, 16, fun a => [.ro (List.map eTag a)], fun a => gf_spec_l2Tags a, fun a r => ⟨[(false, [.v (.bool r)])], []⟩, fun a => []⟩
/-! spec.FeatOk -/
def ib_spec_FeatOk : IC :=
 (.seq (.reg [⟨some 1, .box 100 [none, none, some 66, some 82] (.t 0), none⟩,
 ⟨some 2, .mv (.c (.bool false)), none⟩])
 (.seq (.reg [⟨some 3, .faddr 0 (.t 1), none⟩,
 ⟨some 4, .load 1 false (.t 3), none⟩,
 ⟨some 5, .call 14 [(false, .t 4)], none⟩,
 ⟨some 6, .mv (.t 5), none⟩,
 ⟨some 7, .faddr 1 (.t 1), some (6, true)⟩,
 ⟨some 8, .load 2 true (.t 7), some (6, true)⟩,
 ⟨some 9, .call 15 [(false, .t 8)], some (6, true)⟩,
 ⟨some 10, .pick (.t 6) (.t 9) (.c (.bool false)), none⟩,
 ⟨some 11, .mv (.t 10), none⟩,
 ⟨some 12, .faddr 3 (.t 1), some (11, true)⟩,
 ⟨some 13, .load 1 false (.t 12), some (11, true)⟩,
 ⟨some 14, .call 16 [(false, .t 13)], some (11, true)⟩,
 ⟨some 15, .pick (.t 11) (.t 14) (.c (.bool false)), none⟩,
 ⟨some 2, .mv (.t 15), none⟩])
 .ret))
def if_spec_FeatOk : IFn := ⟨16, [.inl 2], ib_spec_FeatOk, lcF []⟩
def ks_spec_FeatOk : List (List (Option Nat)) := [[none]]
def gf_spec_FeatOk (a0 : Feat) : Option Bool := (gf_spec_WordOk a0.id).bind fun x2 => if x2 = true then ((gf_spec_ShapeOk a0.shape).bind fun x4 => if x4 = true then ((gf_spec_l2Tags a0.tags).bind fun x6 => some (x6)) else (some (false))) else (some (false))
def c_spec_FeatOk : Con := ⟨Feat, Bool, 17, fun a => [.agg [.v (.string a.id), .v (.int .i64 a.shape.kind), .ro (List.map ePt a.shape.pts), .ro (List.map eTag a.tags)]], fun a => gf_spec_FeatOk a, fun a r => ⟨[(false, [.v (.bool r)])], []⟩, fun a => []⟩
/-! spec.l1Same -/
def ib_spec_l1Same : IC :=
 (.seq (.reg [⟨some 4, .mv (.c (.bool false)), none⟩])
 (.seq (.seq (.reg [⟨some 6, .mv (.t 0), none⟩,
 ⟨some 7, .len false (.t 6), none⟩,
 ⟨some 8, .mv (.t 1), none⟩,
 ⟨some 9, .len false (.t 8), none⟩,
 ⟨some 10, .bin .neq (.t 7) (.t 9), none⟩])
 (.cond (.t 10) (.seq (.reg [⟨some 4, .mv (.c (.bool false)), none⟩])
 .ret)
 .skip))
 (.seq (.seq (.reg [⟨some 5, .mv (.c (.int .i64 0)), none⟩])
 (blkC 0 (.loop (.seq (.seq (.reg [⟨some 11, .mv (.t 5), none⟩,
 ⟨some 12, .mv (.t 0), none⟩,
 ⟨some 13, .len false (.t 12), none⟩,
 ⟨some 14, .bin .lss (.t 11) (.t 13), none⟩])
 (.cond (.t 14) .skip
 (.exit 0)))
 (.seq (.block 1 (.seq (.drw [⟨some 17, .mv (.t 0), none⟩,
 ⟨some 18, .mv (.t 5), none⟩,
 ⟨some 19, .iaddr 2 (.t 17) (.t 18), none⟩,
 ⟨some 20, .load 2 true (.t 19), none⟩,
 ⟨some 21, .mv (.t 1), none⟩,
 ⟨some 22, .mv (.t 5), none⟩,
 ⟨some 23, .iaddr 2 (.t 21) (.t 22), none⟩,
 ⟨some 24, .load 2 true (.t 23), none⟩,
 ⟨some 25, .eqs true true [0, 0] (.t 20) (.t 24), none⟩] [(3, 7)])
 (.cond (.t 25) (.seq (.reg [⟨some 4, .mv (.c (.bool false)), none⟩])
 .ret)
 .skip)))
 (.reg [⟨some 15, .mv (.t 5), none⟩,
 ⟨some 16, .bin .add (.t 15) (.c (.int .i64 1)), none⟩,
 ⟨some 5, .mv (.t 16), none⟩]))))))
 (.seq (.reg [⟨some 4, .mv (.c (.bool true)), none⟩])
 .ret))))
def if_spec_l1Same : IFn := ⟨26, [.inl 4], ib_spec_l1Same, lcF []⟩
def ks_spec_l1Same : List (List (Option Nat)) := [[none]]
def gl_spec_l1Same_1 (a1 : (List Pt)) : List Pt → Nat → Option (Bool ⊕ Unit)
  | [], k16 => some (.inr ())
  | x17 :: l18, k16 => (idx a1 (k16 : Int)).bind fun x25 => if (!((x17.x == x25.x) && ((x17.y == x25.y) && true))) = true then (some (.inl (false))) else (gl_spec_l1Same_1 a1 l18 (k16 + 1) )
def gf_spec_l1Same (a0 : (List Pt)) (a1 : (List Pt)) : Option Bool := if ((a0.length : Int) != (a1.length : Int)) = true then (some (false)) else (if fits a0.length = true then ((gl_spec_l1Same_1 a1 a0 0 ).bind fun q => match q with | .inl r => some r | .inr q14 => some (true)) else none)
def c_spec_l1Same : Con := ⟨(List Pt) × (List Pt), Bool, 18, fun a => [.ro (List.map ePt a.1), .ro (List.map ePt a.2)], fun a => gf_spec_l1Same a.1 a.2, fun a r => ⟨[(false, [.v (.bool r)])], []⟩, fun a => []⟩
/-! spec.ShapeSame -/
def ib_spec_ShapeSame : IC :=
 (.seq (.reg [⟨some 2, .box 226 [none, some 66] (.t 0), none⟩,
 ⟨some 3, .box 226 [none, some 66] (.t 1), none⟩,
 ⟨some 4, .mv (.c (.bool false)), none⟩])
 (.seq (.reg [⟨some 5, .faddr 0 (.t 2), none⟩,
 ⟨some 6, .load 1 false (.t 5), none⟩,
 ⟨some 7, .faddr 0 (.t 3), none⟩,
 ⟨some 8, .load 1 false (.t 7), none⟩,
 ⟨some 9, .bin .eql (.t 6) (.t 8), none⟩,
 ⟨some 10, .mv (.t 9), none⟩,
 ⟨some 11, .faddr 1 (.t 2), some (10, true)⟩,
 ⟨some 12, .load 1 false (.t 11), some (10, true)⟩,
 ⟨some 13, .faddr 1 (.t 3), some (10, true)⟩,
 ⟨some 14, .load 1 false (.t 13), some (10, true)⟩,
 ⟨some 15, .call 18 [(false, .t 12), (false, .t 14)], some (10, true)⟩,
 ⟨some 16, .pick (.t 10) (.t 15) (.c (.bool false)), none⟩,
 ⟨some 4, .mv (.t 16), none⟩])
 .ret))
def if_spec_ShapeSame : IFn := ⟨17, [.inl 4], ib_spec_ShapeSame, lcF []⟩
def ks_spec_ShapeSame : List (List (Option Nat)) := [[none]]
def gf_spec_ShapeSame (a0 : Shape) (a1 : Shape) : Option Bool := if (a0.kind == a1.kind) = true then ((gf_spec_l1Same a0.pts a1.pts).bind fun x3 => some (x3)) else (some (false))
def c_spec_ShapeSame : Con := ⟨Shape × Shape, Bool, 19, fun a => [.agg [.v (.int .i64 a.1.kind), .ro (List.map ePt a.1.pts)], .agg [.v (.int .i64 a.2.kind), .ro (List.map ePt a.2.pts)]], fun a => gf_spec_ShapeSame a.1 a.2, fun a r => ⟨[(false, [.v (.bool r)])], []⟩, fun a => []⟩
/-! spec.l2Same -/
def ib_spec_l2Same : IC :=
 (.seq (.reg [⟨some 4, .mv (.c (.bool false)), none⟩])
 (.seq (.seq (.reg [⟨some 6, .mv (.t 0), none⟩,
 ⟨some 7, .len false (.t 6), none⟩,
 ⟨some 8, .mv (.t 1), none⟩,
 ⟨some 9, .len false (.t 8), none⟩,
 ⟨some 10, .bin .neq (.t 7) (.t 9), none⟩])
 (.cond (.t 10) (.seq (.reg [⟨some 4, .mv (.c (.bool false)), none⟩])
 .ret)
 .skip))
 (.seq (.seq (.reg [⟨some 5, .mv (.c (.int .i64 0)), none⟩])
 (blkC 0 (.loop (.seq (.seq (.reg [⟨some 11, .mv (.t 5), none⟩,
 ⟨some 12, .mv (.t 0), none⟩,
 ⟨some 13, .len false (.t 12), none⟩,
 ⟨some 14, .bin .lss (.t 11) (.t 13), none⟩])
 (.cond (.t 14) .skip
 (.exit 0)))
 (.seq (.block 1 (.seq (.drw [⟨some 17, .mv (.t 0), none⟩,
 ⟨some 18, .mv (.t 5), none⟩,
 ⟨some 19, .iaddr 2 (.t 17) (.t 18), none⟩,
 ⟨some 20, .load 2 true (.t 19), none⟩,
 ⟨some 21, .mv (.t 1), none⟩,
 ⟨some 22, .mv (.t 5), none⟩,
 ⟨some 23, .iaddr 2 (.t 21) (.t 22), none⟩,
 ⟨some 24, .load 2 true (.t 23), none⟩,
 ⟨some 25, .eqs true true [2, 2] (.t 20) (.t 24), none⟩] [(3, 7)])
 (.cond (.t 25) (.seq (.reg [⟨some 4, .mv (.c (.bool false)), none⟩])
 .ret)
 .skip)))
 (.reg [⟨some 15, .mv (.t 5), none⟩,
 ⟨some 16, .bin .add (.t 15) (.c (.int .i64 1)), none⟩,
 ⟨some 5, .mv (.t 16), none⟩]))))))
 (.seq (.reg [⟨some 4, .mv (.c (.bool true)), none⟩])
 .ret))))
def if_spec_l2Same : IFn := ⟨26, [.inl 4], ib_spec_l2Same, lcF []⟩
def ks_spec_l2Same : List (List (Option Nat)) := [[none]]
def gl_spec_l2Same_1 (a1 : (List Tag)) : List Tag → Nat → Option (Bool ⊕ Unit)
  | [], k16 => some (.inr ())
  | x17 :: l18, k16 => (idx a1 (k16 : Int)).bind fun x25 => if (!((x17.key == x25.key) && ((x17.val == x25.val) && true))) = true then (some (.inl (false))) else (gl_spec_l2Same_1 a1 l18 (k16 + 1) )
def gf_spec_l2Same (a0 : (List Tag)) (a1 : (List Tag)) : Option Bool := if ((a0.length : Int) != (a1.length : Int)) = true then (some (false)) else (if fits a0.length = true then ((gl_spec_l2Same_1 a1 a0 0 ).bind fun q => match q with | .inl r => some r | .inr q14 => some (true)) else none)
def c_spec_l2Same : Con := ⟨(List Tag) × (List Tag), Bool, 20, fun a => [.ro (List.map eTag a.1), .ro (List.map eTag a.2)], fun a => gf_spec_l2Same a.1 a.2, fun a r => ⟨[(false, [.v (.bool r)])], []⟩, fun a => []⟩
/-! spec.FeatSame -/
def ib_spec_FeatSame : IC :=
 (.seq (.reg [⟨some 2, .box 100 [none, none, some 66, some 82] (.t 0), none⟩,
 ⟨some 3, .box 100 [none, none, some 66, some 82] (.t 1), none⟩,
 ⟨some 4, .mv (.c (.bool false)), none⟩])
 (.seq (.reg [⟨some 5, .faddr 0 (.t 2), none⟩,
 ⟨some 6, .load 1 false (.t 5), none⟩,
 ⟨some 7, .faddr 0 (.t 3), none⟩,
 ⟨some 8, .load 1 false (.t 7), none⟩,
 ⟨some 9, .bin .eql (.t 6) (.t 8), none⟩,
 ⟨some 10, .mv (.t 9), none⟩,
 ⟨some 11, .faddr 1 (.t 2), some (10, true)⟩,
 ⟨some 12, .load 2 true (.t 11), some (10, true)⟩,
 ⟨some 13, .faddr 1 (.t 3), some (10, true)⟩,
 ⟨some 14, .load 2 true (.t 13), some (10, true)⟩,
 ⟨some 15, .call 19 [(false, .t 12), (false, .t 14)], some (10, true)⟩,
 ⟨some 16, .pick (.t 10) (.t 15) (.c (.bool false)), none⟩,
 ⟨some 17, .mv (.t 16), none⟩,
 ⟨some 18, .faddr 3 (.t 2), some (17, true)⟩,
 ⟨some 19, .load 1 false (.t 18), some (17, true)⟩,
 ⟨some 20, .faddr 3 (.t 3), some (17, true)⟩,
 ⟨some 21, .load 1 false (.t 20), some (17, true)⟩,
 ⟨some 22, .call 20 [(false, .t 19), (false, .t 21)], some (17, true)⟩,
 ⟨some 23, .pick (.t 17) (.t 22) (.c (.bool false)), none⟩,
 ⟨some 4, .mv (.t 23), none⟩])
 .ret))
def if_spec_FeatSame : IFn := ⟨24, [.inl 4], ib_spec_FeatSame, lcF []⟩
def ks_spec_FeatSame : List (List (Option Nat)) := [[none]]
def gf_spec_FeatSame (a0 : Feat) (a1 : Feat) : Option Bool := if (seq a0.id a1.id) = true then ((gf_spec_ShapeSame a0.shape a1.shape).bind fun x3 => if x3 = true then ((gf_spec_l2Same a0.tags a1.tags).bind fun x5 => some (x5)) else (some (false))) else (some (false))
def c_spec_FeatSame : Con := ⟨Feat × Feat, Bool, 21, fun a => [.agg [.v (.string a.1.id), .v (.int .i64 a.1.shape.kind), .ro (List.map ePt a.1.shape.pts), .ro (List.map eTag a.1.tags)], .agg [.v (.string a.2.id), .v (.int .i64 a.2.shape.kind), .ro (List.map ePt a.2.shape.pts), .ro (List.map eTag a.2.tags)]], fun a => gf_spec_FeatSame a.1 a.2, fun a r => ⟨[(false, [.v (.bool r)])], []⟩, fun a => []⟩
/-! spec.l7Ints -/
def ib_spec_l7Ints : IC :=
 (.seq (.reg [⟨some 4, .mv (.c (.bool false)), none⟩])
 (.seq (.seq (.reg [⟨some 6, .mv (.t 0), none⟩,
 ⟨some 7, .len false (.t 6), none⟩,
 ⟨some 8, .mv (.t 1), none⟩,
 ⟨some 9, .len false (.t 8), none⟩,
 ⟨some 10, .bin .neq (.t 7) (.t 9), none⟩])
 (.cond (.t 10) (.seq (.reg [⟨some 4, .mv (.c (.bool false)), none⟩])
 .ret)
 .skip))
 (.seq (.seq (.reg [⟨some 5, .mv (.c (.int .i64 0)), none⟩])
 (blkC 0 (.loop (.seq (.seq (.reg [⟨some 11, .mv (.t 5), none⟩,
 ⟨some 12, .mv (.t 0), none⟩,
 ⟨some 13, .len false (.t 12), none⟩,
 ⟨some 14, .bin .lss (.t 11) (.t 13), none⟩])
 (.cond (.t 14) .skip
 (.exit 0)))
 (.seq (.block 1 (.seq (.drw [⟨some 17, .mv (.t 0), none⟩,
 ⟨some 18, .mv (.t 5), none⟩,
 ⟨some 19, .iaddr 1 (.t 17) (.t 18), none⟩,
 ⟨some 20, .load 1 false (.t 19), none⟩,
 ⟨some 21, .mv (.t 1), none⟩,
 ⟨some 22, .mv (.t 5), none⟩,
 ⟨some 23, .iaddr 1 (.t 21) (.t 22), none⟩,
 ⟨some 24, .load 1 false (.t 23), none⟩,
 ⟨some 25, .bin .neq (.t 20) (.t 24), none⟩] [(3, 7)])
 (.cond (.t 25) (.seq (.reg [⟨some 4, .mv (.c (.bool false)), none⟩])
 .ret)
 .skip)))
 (.reg [⟨some 15, .mv (.t 5), none⟩,
 ⟨some 16, .bin .add (.t 15) (.c (.int .i64 1)), none⟩,
 ⟨some 5, .mv (.t 16), none⟩]))))))
 (.seq (.reg [⟨some 4, .mv (.c (.bool true)), none⟩])
 .ret))))
def if_spec_l7Ints : IFn := ⟨26, [.inl 4], ib_spec_l7Ints, lcF []⟩
def ks_spec_l7Ints : List (List (Option Nat)) := [[none]]
def gl_spec_l7Ints_1 (a1 : (List Int)) : List Int → Nat → Option (Bool ⊕ Unit)
  | [], k16 => some (.inr ())
  | x17 :: l18, k16 => (idx a1 (k16 : Int)).bind fun x25 => if (x17 != x25) = true then (some (.inl (false))) else (gl_spec_l7Ints_1 a1 l18 (k16 + 1) )
def gf_spec_l7Ints (a0 : (List Int)) (a1 : (List Int)) : Option Bool := if ((a0.length : Int) != (a1.length : Int)) = true then (some (false)) else (if fits a0.length = true then ((gl_spec_l7Ints_1 a1 a0 0 ).bind fun q => match q with | .inl r => some r | .inr q14 => some (true)) else none)
def c_spec_l7Ints : Con := ⟨(List Int) × (List Int), Bool, 22, fun a => [.ro (List.map eInt a.1), .ro (List.map eInt a.2)], fun a => gf_spec_l7Ints a.1 a.2, fun a r => ⟨[(false, [.v (.bool r)])], []⟩, fun a => []⟩
/-! spec.SheetSame -/
def ib_spec_SheetSame : IC :=
 (.seq (.reg [⟨some 4, .mv (.c (.bool false)), none⟩])
 (.seq (.seq (.reg [⟨some 6, .mv (.t 0), none⟩,
 ⟨some 7, .len false (.t 6), none⟩,
 ⟨some 8, .mv (.t 1), none⟩,
 ⟨some 9, .len false (.t 8), none⟩,
 ⟨some 10, .bin .neq (.t 7) (.t 9), none⟩])
 (.cond (.t 10) (.seq (.reg [⟨some 4, .mv (.c (.bool false)), none⟩])
 .ret)
 .skip))
 (.seq (.seq (.reg [⟨some 5, .mv (.c (.int .i64 0)), none⟩])
 (blkC 0 (.loop (.seq (.seq (.reg [⟨some 11, .mv (.t 5), none⟩,
 ⟨some 12, .mv (.t 0), none⟩,
 ⟨some 13, .len false (.t 12), none⟩,
 ⟨some 14, .bin .lss (.t 11) (.t 13), none⟩])
 (.cond (.t 14) .skip
 (.exit 0)))
 (.seq (.block 1 (.seq (.drw [⟨some 17, .mv (.t 0), none⟩,
 ⟨some 18, .mv (.t 5), none⟩,
 ⟨some 19, .iaddr 4 (.t 17) (.t 18), none⟩,
 ⟨some 20, .load 4 true (.t 19), none⟩,
 ⟨some 21, .mv (.t 1), none⟩,
 ⟨some 22, .mv (.t 5), none⟩,
 ⟨some 23, .iaddr 4 (.t 21) (.t 22), none⟩,
 ⟨some 24, .load 4 true (.t 23), none⟩,
 ⟨some 25, .call 21 [(false, .t 20), (false, .t 24)], none⟩,
 ⟨some 26, .un .not (.t 25), none⟩] [(3, 7)])
 (.cond (.t 26) (.seq (.reg [⟨some 4, .mv (.c (.bool false)), none⟩])
 .ret)
 .skip)))
 (.reg [⟨some 15, .mv (.t 5), none⟩,
 ⟨some 16, .bin .add (.t 15) (.c (.int .i64 1)), none⟩,
 ⟨some 5, .mv (.t 16), none⟩]))))))
 (.seq (.reg [⟨some 4, .mv (.c (.bool true)), none⟩])
 .ret))))
def if_spec_SheetSame : IFn := ⟨27, [.inl 4], ib_spec_SheetSame, lcF []⟩
def ks_spec_SheetSame : List (List (Option Nat)) := [[none]]
def gl_spec_SheetSame_1 (a1 : (List Feat)) : List Feat → Nat → Option (Bool ⊕ Unit)
  | [], k22 => some (.inr ())
  | x23 :: l24, k22 => (idx a1 (k22 : Int)).bind fun x31 => (gf_spec_FeatSame x23 x31).bind fun x33 => if (!x33) = true then (some (.inl (false))) else (gl_spec_SheetSame_1 a1 l24 (k22 + 1) )
def gf_spec_SheetSame (a0 : (List Feat)) (a1 : (List Feat)) : Option Bool := if ((a0.length : Int) != (a1.length : Int)) = true then (some (false)) else (if fits a0.length = true then ((gl_spec_SheetSame_1 a1 a0 0 ).bind fun q => match q with | .inl r => some r | .inr q20 => some (true)) else none)
def c_spec_SheetSame : Con := ⟨(List Feat) × (List Feat), Bool, 23, fun a => [.ro (List.map (eFeat false) a.1), .ro (List.map (eFeat false) a.2)], fun a => gf_spec_SheetSame a.1 a.2, fun a r => ⟨[(false, [.v (.bool r)])], []⟩, fun a => []⟩
/-! spec.l7Same -/
def ib_spec_l7Same : IC :=
 (.seq (.reg [⟨some 2, .box 115 [some 17, some 100, none] (.t 0), none⟩,
 ⟨some 3, .box 115 [some 17, some 100, none] (.t 1), none⟩,
 ⟨some 4, .mv (.c (.bool false)), none⟩])
 (.seq (.reg [⟨some 5, .faddr 0 (.t 2), none⟩,
 ⟨some 6, .load 1 false (.t 5), none⟩,
 ⟨some 7, .faddr 0 (.t 3), none⟩,
 ⟨some 8, .load 1 false (.t 7), none⟩,
 ⟨some 9, .call 22 [(false, .t 6), (false, .t 8)], none⟩,
 ⟨some 10, .mv (.t 9), none⟩,
 ⟨some 11, .faddr 1 (.t 2), some (10, true)⟩,
 ⟨some 12, .load 1 false (.t 11), some (10, true)⟩,
 ⟨some 13, .faddr 1 (.t 3), some (10, true)⟩,
 ⟨some 14, .load 1 false (.t 13), some (10, true)⟩,
 ⟨some 15, .call 23 [(false, .t 12), (false, .t 14)], some (10, true)⟩,
 ⟨some 16, .pick (.t 10) (.t 15) (.c (.bool false)), none⟩,
 ⟨some 17, .mv (.t 16), none⟩,
 ⟨some 18, .faddr 2 (.t 2), some (17, true)⟩,
 ⟨some 19, .load 1 false (.t 18), some (17, true)⟩,
 ⟨some 20, .faddr 2 (.t 3), some (17, true)⟩,
 ⟨some 21, .load 1 false (.t 20), some (17, true)⟩,
 ⟨some 22, .bin .eql (.t 19) (.t 21), some (17, true)⟩,
 ⟨some 23, .pick (.t 17) (.t 22) (.c (.bool false)), none⟩,
 ⟨some 4, .mv (.t 23), none⟩])
 .ret))
def if_spec_l7Same : IFn := ⟨24, [.inl 4], ib_spec_l7Same, lcF []⟩
def ks_spec_l7Same : List (List (Option Nat)) := [[none]]
def gf_spec_l7Same (a0 : Commit) (a1 : Commit) : Option Bool := (gf_spec_l7Ints a0.up a1.up).bind fun x3 => if x3 = true then ((gf_spec_SheetSame a0.sheet a1.sheet).bind fun x5 => if x5 = true then (some ((seq a0.note a1.note))) else (some (false))) else (some (false))
def c_spec_l7Same : Con := ⟨Commit × Commit, Bool, 24, fun a => [.agg [.ro (List.map eInt a.1.up), .ro (List.map (eFeat false) a.1.sheet), .v (.string a.1.note)], .agg [.ro (List.map eInt a.2.up), .ro (List.map (eFeat false) a.2.sheet), .v (.string a.2.note)]], fun a => gf_spec_l7Same a.1 a.2, fun a r => ⟨[(false, [.v (.bool r)])], []⟩, fun a => []⟩
/-! spec.l7Up -/
def ib_spec_l7Up : IC :=
 (.seq (.reg [⟨some 4, .mv (.c (.bool false)), none⟩])
 (.seq (.seq (.reg [⟨some 5, .mv (.c (.int .i64 0)), none⟩])
 (blkC 0 (.loop (.seq (.seq (.reg [⟨some 6, .mv (.t 5), none⟩,
 ⟨some 7, .mv (.t 0), none⟩,
 ⟨some 8, .len false (.t 7), none⟩,
 ⟨some 9, .bin .lss (.t 6) (.t 8), none⟩])
 (.cond (.t 9) .skip
 (.exit 0)))
 (.seq (.block 1 (.seq (.reg [⟨some 12, .mv (.t 0), none⟩,
 ⟨some 13, .mv (.t 5), none⟩,
 ⟨some 14, .iaddr 1 (.t 12) (.t 13), none⟩,
 ⟨some 15, .load 1 false (.t 14), none⟩,
 ⟨some 16, .bin .lss (.t 15) (.c (.int .i64 0)), none⟩,
 ⟨some 17, .mv (.t 16), none⟩,
 ⟨some 18, .mv (.t 0), some (17, false)⟩,
 ⟨some 19, .mv (.t 5), some (17, false)⟩,
 ⟨some 20, .iaddr 1 (.t 18) (.t 19), some (17, false)⟩,
 ⟨some 21, .load 1 false (.t 20), some (17, false)⟩,
 ⟨some 22, .mv (.t 1), some (17, false)⟩,
 ⟨some 23, .bin .geq (.t 21) (.t 22), some (17, false)⟩,
 ⟨some 24, .pick (.t 17) (.c (.bool true)) (.t 23), none⟩])
 (.cond (.t 24) (.seq (.reg [⟨some 4, .mv (.c (.bool false)), none⟩])
 .ret)
 .skip)))
 (.reg [⟨some 10, .mv (.t 5), none⟩,
 ⟨some 11, .bin .add (.t 10) (.c (.int .i64 1)), none⟩,
 ⟨some 5, .mv (.t 11), none⟩]))))))
 (.seq (.drw [⟨some 25, .mv (.t 0), none⟩,
 ⟨some 26, .len false (.t 25), none⟩,
 ⟨some 27, .bin .leq (.t 26) (.c (.int .i64 2)), none⟩,
 ⟨some 28, .mv (.t 27), none⟩,
 ⟨some 29, .mv (.t 0), some (28, true)⟩,
 ⟨some 30, .len false (.t 29), some (28, true)⟩,
 ⟨some 31, .bin .gtr (.t 30) (.c (.int .i64 0)), some (28, true)⟩,
 ⟨some 32, .mv (.t 1), some (28, true)⟩,
 ⟨some 33, .bin .gtr (.t 32) (.c (.int .i64 0)), some (28, true)⟩,
 ⟨some 34, .eqs false false [1] (.t 31) (.t 33), some (28, true)⟩,
 ⟨some 35, .pick (.t 28) (.t 34) (.c (.bool false)), none⟩,
 ⟨some 36, .mv (.t 35), none⟩,
 ⟨some 37, .mv (.t 0), some (36, true)⟩,
 ⟨some 38, .len false (.t 37), some (36, true)⟩,
 ⟨some 39, .bin .lss (.t 38) (.c (.int .i64 2)), some (36, true)⟩,
 ⟨some 40, .mv (.t 39), some (36, true)⟩,
 ⟨some 41, .mv (.t 0), some (40, false)⟩,
 ⟨some 42, .iaddr 1 (.t 41) (.c (.int .i64 0)), some (40, false)⟩,
 ⟨some 43, .load 1 false (.t 42), some (40, false)⟩,
 ⟨some 44, .mv (.t 0), some (40, false)⟩,
 ⟨some 45, .iaddr 1 (.t 44) (.c (.int .i64 1)), some (40, false)⟩,
 ⟨some 46, .load 1 false (.t 45), some (40, false)⟩,
 ⟨some 47, .bin .neq (.t 43) (.t 46), some (40, false)⟩,
 ⟨some 48, .pick (.t 40) (.c (.bool true)) (.t 47), some (36, true)⟩,
 ⟨some 49, .pick (.t 36) (.t 48) (.c (.bool false)), none⟩,
 ⟨some 4, .mv (.t 49), none⟩] [(18, 21)])
 .ret)))
def if_spec_l7Up : IFn := ⟨50, [.inl 4], ib_spec_l7Up, lcF []⟩
def ks_spec_l7Up : List (List (Option Nat)) := [[none]]
def gl_spec_l7Up_1 (a1 : Int) : List Int → Nat → Option (Bool ⊕ Unit)
  | [], k10 => some (.inr ())
  | x11 :: l12, k10 => if (decide (x11 < 0)) = true then (some (.inl (false))) else (if (decide (x11 ≥ a1)) = true then (some (.inl (false))) else (gl_spec_l7Up_1 a1 l12 (k10 + 1) ))
def gf_spec_l7Up (a0 : (List Int)) (a1 : Int) : Option Bool := if fits a0.length = true then ((gl_spec_l7Up_1 a1 a0 0 ).bind fun q => match q with | .inl r => some r | .inr q8 => if (decide ((a0.length : Int) ≤ 2)) = true then (if ((decide ((a0.length : Int) > 0)) == (decide (a1 > 0))) = true then (if (decide ((a0.length : Int) < 2)) = true then (some (true)) else ((idx a0 0).bind fun x19 => (idx a0 1).bind fun x21 => some ((x19 != x21)))) else (some (false))) else (some (false))) else none
def c_spec_l7Up : Con := ⟨(List Int) × Int, Bool, 25, fun a => [.ro (List.map eInt a.1), .v (.int .i64 a.2)], fun a => gf_spec_l7Up a.1 a.2, fun a r => ⟨[(false, [.v (.bool r)])], []⟩, fun a => []⟩
/-! spec.SheetOk -/
def ib_spec_SheetOk : IC :=
 (.seq (.reg [⟨some 2, .mv (.c (.bool false)), none⟩])
 (.seq (.seq (.reg [⟨some 3, .mv (.c (.int .i64 0)), none⟩])
 (blkC 0 (.loop (.seq (.seq (.reg [⟨some 4, .mv (.t 3), none⟩,
 ⟨some 5, .mv (.t 0), none⟩,
 ⟨some 6, .len false (.t 5), none⟩,
 ⟨some 7, .bin .lss (.t 4) (.t 6), none⟩])
 (.cond (.t 7) .skip
 (.exit 0)))
 (.seq (.block 1 (.seq (.drw [⟨some 10, .mv (.t 0), none⟩,
 ⟨some 11, .mv (.t 3), none⟩,
 ⟨some 12, .iaddr 4 (.t 10) (.t 11), none⟩,
 ⟨some 13, .load 4 true (.t 12), none⟩,
 ⟨some 14, .call 17 [(false, .t 13)], none⟩,
 ⟨some 15, .un .not (.t 14), none⟩,
 ⟨some 16, .mv (.t 15), none⟩,
 ⟨some 17, .mv (.t 3), some (16, false)⟩,
 ⟨some 18, .bin .gtr (.t 17) (.c (.int .i64 0)), some (16, false)⟩,
 ⟨some 19, .mv (.t 18), some (16, false)⟩,
 ⟨some 20, .mv (.t 0), some (19, true)⟩,
 ⟨some 21, .mv (.t 3), some (19, true)⟩,
 ⟨some 22, .iaddr 4 (.t 20) (.t 21), some (19, true)⟩,
 ⟨some 23, .faddr 0 (.t 22), some (19, true)⟩,
 ⟨some 24, .load 1 false (.t 23), some (19, true)⟩,
 ⟨some 25, .mv (.t 0), some (19, true)⟩,
 ⟨some 26, .mv (.t 3), some (19, true)⟩,
 ⟨some 27, .bin .sub (.t 26) (.c (.int .i64 1)), some (19, true)⟩,
 ⟨some 28, .iaddr 4 (.t 25) (.t 27), some (19, true)⟩,
 ⟨some 29, .faddr 0 (.t 28), some (19, true)⟩,
 ⟨some 30, .load 1 false (.t 29), some (19, true)⟩,
 ⟨some 31, .bin .leq (.t 24) (.t 30), some (19, true)⟩,
 ⟨some 32, .pick (.t 19) (.t 31) (.c (.bool false)), some (16, false)⟩,
 ⟨some 33, .pick (.t 16) (.c (.bool true)) (.t 32), none⟩] [(14, 20)])
 (.cond (.t 33) (.seq (.reg [⟨some 2, .mv (.c (.bool false)), none⟩])
 .ret)
 .skip)))
 (.reg [⟨some 8, .mv (.t 3), none⟩,
 ⟨some 9, .bin .add (.t 8) (.c (.int .i64 1)), none⟩,
 ⟨some 3, .mv (.t 9), none⟩]))))))
 (.seq (.reg [⟨some 34, .mv (.t 0), none⟩,
 ⟨some 35, .len false (.t 34), none⟩,
 ⟨some 36, .bin .leq (.t 35) (.c (.int .i64 8)), none⟩,
 ⟨some 2, .mv (.t 36), none⟩])
 .ret)))
def if_spec_SheetOk : IFn := ⟨37, [.inl 2], ib_spec_SheetOk, lcF []⟩
def ks_spec_SheetOk : List (List (Option Nat)) := [[none]]
def gl_spec_SheetOk_1 (a0 : (List Feat)) : List Feat → Nat → Option (Bool ⊕ Unit)
  | [], k20 => some (.inr ())
  | x21 :: l22, k20 => (gf_spec_FeatOk x21).bind fun x29 => if (!x29) = true then (some (.inl (false))) else (if (decide ((k20 : Int) > 0)) = true then ((idx a0 (IntKind.i64.wrap ((k20 : Int) - 1))).bind fun x31 => if (slt x21.id x31.id || seq x21.id x31.id) = true then (some (.inl (false))) else (gl_spec_SheetOk_1 a0 l22 (k20 + 1) )) else (gl_spec_SheetOk_1 a0 l22 (k20 + 1) ))
def gf_spec_SheetOk (a0 : (List Feat)) : Option Bool := if fits a0.length = true then ((gl_spec_SheetOk_1 a0 a0 0 ).bind fun q => match q with | .inl r => some r | .inr q18 => some ((decide ((a0.length : Int) ≤ 8)))) else none
def c_spec_SheetOk : Con := ⟨(List Feat), Bool, 26, fun a => [.ro (List.map (eFeat false) a)], fun a => gf_spec_SheetOk a, fun a r => ⟨[(false, [.v (.bool r)])], []⟩, fun a => []⟩
/-! spec.l7Find -/
def ib_spec_l7Find : IC :=
 (.seq (.reg [⟨some 2, .box 210 [some 115, some 130] (.t 0), none⟩,
 ⟨some 3, .box 115 [some 17, some 100, none] (.t 1), none⟩,
 ⟨some 4, .mv (.c (.int .i64 0)), none⟩])
 (.seq (.seq (.reg [⟨some 5, .mv (.c (.int .i64 0)), none⟩])
 (blkC 0 (.loop (.seq (.seq (.reg [⟨some 6, .mv (.t 5), none⟩,
 ⟨some 7, .faddr 0 (.t 2), none⟩,
 ⟨some 8, .load 1 false (.t 7), none⟩,
 ⟨some 9, .len false (.t 8), none⟩,
 ⟨some 10, .bin .lss (.t 6) (.t 9), none⟩])
 (.cond (.t 10) .skip
 (.exit 0)))
 (.seq (.block 1 (.seq (.drw [⟨some 13, .faddr 0 (.t 2), none⟩,
 ⟨some 14, .load 1 false (.t 13), none⟩,
 ⟨some 15, .mv (.t 5), none⟩,
 ⟨some 16, .iaddr 3 (.t 14) (.t 15), none⟩,
 ⟨some 17, .load 3 true (.t 16), none⟩,
 ⟨some 18, .load 3 true (.t 3), none⟩,
 ⟨some 19, .call 24 [(false, .t 17), (false, .t 18)], none⟩] [(1, 5), (4, 5)])
 (.cond (.t 19) (.seq (.reg [⟨some 20, .mv (.t 5), none⟩,
 ⟨some 4, .mv (.t 20), none⟩])
 .ret)
 .skip)))
 (.reg [⟨some 11, .mv (.t 5), none⟩,
 ⟨some 12, .bin .add (.t 11) (.c (.int .i64 1)), none⟩,
 ⟨some 5, .mv (.t 12), none⟩]))))))
 (.seq (.reg [⟨some 4, .mv (.c (.int .i64 (-1))), none⟩])
 .ret)))
def if_spec_l7Find : IFn := ⟨21, [.inl 4], ib_spec_l7Find, lcF []⟩
def ks_spec_l7Find : List (List (Option Nat)) := [[none]]
def gl_spec_l7Find_1 (a1 : Commit) : List Commit → Nat → Option (Int ⊕ Unit)
  | [], k24 => some (.inr ())
  | x25 :: l26, k24 => (gf_spec_l7Same x25 a1).bind fun x33 => if x33 = true then (some (.inl ((k24 : Int)))) else (gl_spec_l7Find_1 a1 l26 (k24 + 1) )
def gf_spec_l7Find (a0 : Repo) (a1 : Commit) : Option Int := if fits a0.commits.length = true then ((gl_spec_l7Find_1 a1 a0.commits 0 ).bind fun q => match q with | .inl r => some r | .inr q20 => some ((-1))) else none
def c_spec_l7Find : Con := ⟨Repo × Commit, Int, 27, fun a => [.agg [.ro (List.map (eCommit false) a.1.commits), .ro (List.map eHead a.1.heads)], .agg [.ro (List.map eInt a.2.up), .ro (List.map (eFeat false) a.2.sheet), .v (.string a.2.note)]], fun a => gf_spec_l7Find a.1 a.2, fun a r => ⟨[(false, [.v (.int .i64 r)])], []⟩, fun a => []⟩
/-! spec.l7Head -/
def ib_spec_l7Head : IC :=
 (.seq (.reg [⟨some 2, .box 210 [some 115, some 130] (.t 0), none⟩,
 ⟨some 4, .mv (.c (.int .i64 0)), none⟩])
 (.seq (.seq (.reg [⟨some 5, .mv (.c (.int .i64 0)), none⟩])
 (blkC 0 (.loop (.seq (.seq (.reg [⟨some 6, .mv (.t 5), none⟩,
 ⟨some 7, .faddr 1 (.t 2), none⟩,
 ⟨some 8, .load 1 false (.t 7), none⟩,
 ⟨some 9, .len false (.t 8), none⟩,
 ⟨some 10, .bin .lss (.t 6) (.t 9), none⟩])
 (.cond (.t 10) .skip
 (.exit 0)))
 (.seq (.block 1 (.seq (.reg [⟨some 13, .faddr 1 (.t 2), none⟩,
 ⟨some 14, .load 1 false (.t 13), none⟩,
 ⟨some 15, .mv (.t 5), none⟩,
 ⟨some 16, .iaddr 2 (.t 14) (.t 15), none⟩,
 ⟨some 17, .faddr 0 (.t 16), none⟩,
 ⟨some 18, .load 1 false (.t 17), none⟩,
 ⟨some 19, .mv (.t 1), none⟩,
 ⟨some 20, .bin .eql (.t 18) (.t 19), none⟩])
 (.cond (.t 20) (.seq (.reg [⟨some 21, .mv (.t 5), none⟩,
 ⟨some 4, .mv (.t 21), none⟩])
 .ret)
 .skip)))
 (.reg [⟨some 11, .mv (.t 5), none⟩,
 ⟨some 12, .bin .add (.t 11) (.c (.int .i64 1)), none⟩,
 ⟨some 5, .mv (.t 12), none⟩]))))))
 (.seq (.reg [⟨some 4, .mv (.c (.int .i64 (-1))), none⟩])
 .ret)))
def if_spec_l7Head : IFn := ⟨22, [.inl 4], ib_spec_l7Head, lcF []⟩
def ks_spec_l7Head : List (List (Option Nat)) := [[none]]
def gl_spec_l7Head_1 (a1 : Str) : List Head → Nat → Option (Int ⊕ Unit)
  | [], k14 => some (.inr ())
  | x15 :: l16, k14 => if (seq x15.name a1) = true then (some (.inl ((k14 : Int)))) else (gl_spec_l7Head_1 a1 l16 (k14 + 1) )
def gf_spec_l7Head (a0 : Repo) (a1 : Str) : Option Int := if fits a0.heads.length = true then ((gl_spec_l7Head_1 a1 a0.heads 0 ).bind fun q => match q with | .inl r => some r | .inr q11 => some ((-1))) else none
def c_spec_l7Head : Con := ⟨Repo × Str, Int, 28, fun a => [.agg [.ro (List.map (eCommit false) a.1.commits), .ro (List.map eHead a.1.heads)], .v (.string a.2)], fun a => gf_spec_l7Head a.1 a.2, fun a r => ⟨[(false, [.v (.int .i64 r)])], []⟩, fun a => []⟩
/-! spec.l1Copy -/
def ib_spec_l1Copy : IC :=
 (.seq (.reg [⟨some 1, .box 226 [none, some 66] (.t 0), none⟩,
 ⟨some 2, .alloc 226 [.v (.int .i64 0), .sl true 66 []], none⟩])
 (.seq (.drw [⟨some 3, .faddr 0 (.t 1), none⟩,
 ⟨some 4, .load 1 false (.t 3), none⟩,
 ⟨some 5, .lit 66 [none, none] [.v (.int .i64 0), .v (.int .i64 0)] 0 [], none⟩,
 ⟨some 6, .faddr 1 (.t 1), none⟩,
 ⟨some 7, .load 1 false (.t 6), none⟩,
 ⟨some 8, .app 66 false (.t 5) (.t 7), none⟩,
 ⟨some 9, .build [.v (.int .i64 0), .nil] [(0, 1, .t 4), (1, 1, .t 8)], none⟩,
 ⟨none, .store [none, some 66] (.t 2) (.t 9), none⟩] [(1, 2), (1, 4), (2, 4), (1, 5)])
 .ret))
def if_spec_l1Copy : IFn := ⟨10, [.inr (2, 2)], ib_spec_l1Copy, lcF []⟩
def ks_spec_l1Copy : List (List (Option Nat)) := [[none, some 66]]
def gf_spec_l1Copy (a0 : Shape) : Option Shape := if fits ([] ++ a0.pts).length = true then some ((⟨a0.kind, ([] ++ a0.pts)⟩ : Shape)) else none
def c_spec_l1Copy : Con := ⟨Shape, Shape, 29, fun a => [.agg [.v (.int .i64 a.kind), .ro (List.map ePt a.pts)]], fun a => gf_spec_l1Copy a, fun a r => ⟨[(true, eShape true r)], []⟩, fun a => []⟩
/-! spec.l2Copy -/
def ib_spec_l2Copy : IC :=
 (.seq (.reg [⟨some 1, .box 100 [none, none, some 66, some 82] (.t 0), none⟩,
 ⟨some 2, .alloc 100 [.v (.string ⟨#[]⟩), .v (.int .i64 0), .sl true 66 [], .sl true 82 []], none⟩])
 (.seq (.drw [⟨some 3, .faddr 0 (.t 1), none⟩,
 ⟨some 4, .load 1 false (.t 3), none⟩,
 ⟨some 5, .faddr 1 (.t 1), none⟩,
 ⟨some 6, .load 2 true (.t 5), none⟩,
 ⟨some 7, .call 29 [(false, .t 6)], none⟩,
 ⟨some 8, .lit 82 [none, none] [.v (.string ⟨#[]⟩), .v (.string ⟨#[]⟩)] 0 [], none⟩,
 ⟨some 9, .faddr 3 (.t 1), none⟩,
 ⟨some 10, .load 1 false (.t 9), none⟩,
 ⟨some 11, .app 82 false (.t 8) (.t 10), none⟩,
 ⟨some 12, .build [.v (.string ⟨#[]⟩), .v (.int .i64 0), .nil, .nil] [(0, 1, .t 4), (1, 2, .t 7), (3, 1, .t 11)], none⟩,
 ⟨none, .store [none, none, some 66, some 82] (.t 2) (.t 12), none⟩] [(1, 3), (1, 4), (1, 5), (3, 5), (4, 5), (1, 7), (3, 7), (4, 7), (5, 7), (1, 8)])
 .ret))
def if_spec_l2Copy : IFn := ⟨13, [.inr (2, 4)], ib_spec_l2Copy, lcF []⟩
def ks_spec_l2Copy : List (List (Option Nat)) := [[none, none, some 66, some 82]]
def gf_spec_l2Copy (a0 : Feat) : Option Feat := (gf_spec_l1Copy a0.shape).bind fun x3 => if fits ([] ++ a0.tags).length = true then some ((⟨a0.id, x3, ([] ++ a0.tags)⟩ : Feat)) else none
def c_spec_l2Copy : Con := ⟨Feat, Feat, 30, fun a => [.agg [.v (.string a.id), .v (.int .i64 a.shape.kind), .ro (List.map ePt a.shape.pts), .ro (List.map eTag a.tags)]], fun a => gf_spec_l2Copy a, fun a r => ⟨[(true, eFeat true r)], []⟩, fun a => []⟩
/-! spec.l3Copy -/
def ib_spec_l3Copy : IC :=
 (.seq (.reg [⟨some 2, .mv (.c (.slice none 0 0)), none⟩])
 (.seq (.reg [⟨some 5, .lit 100 [none, none, some 66, some 82] [.v (.string ⟨#[]⟩), .v (.int .i64 0), .sl true 66 [], .sl true 82 []] 0 [], none⟩,
 ⟨some 3, .mv (.t 5), none⟩])
 (.seq (.seq (.reg [⟨some 4, .mv (.c (.int .i64 0)), none⟩])
 (blkC 0 (.loop (.seq (.seq (.reg [⟨some 6, .mv (.t 4), none⟩,
 ⟨some 7, .mv (.t 0), none⟩,
 ⟨some 8, .len false (.t 7), none⟩,
 ⟨some 9, .bin .lss (.t 6) (.t 8), none⟩])
 (.cond (.t 9) .skip
 (.exit 0)))
 (.seq (.block 1 (.reg [⟨some 12, .mv (.t 3), none⟩,
 ⟨some 13, .mv (.t 0), none⟩,
 ⟨some 14, .mv (.t 4), none⟩,
 ⟨some 15, .iaddr 4 (.t 13) (.t 14), none⟩,
 ⟨some 16, .load 4 true (.t 15), none⟩,
 ⟨some 17, .call 30 [(false, .t 16)], none⟩,
 ⟨some 18, .lit 100 [none, none, some 66, some 82] [.v (.string ⟨#[]⟩), .v (.int .i64 0), .sl true 66 [], .sl true 82 []] 1 [(0, .t 17)], none⟩,
 ⟨some 19, .app 100 true (.t 12) (.t 18), none⟩,
 ⟨some 3, .mv (.t 19), none⟩]))
 (.reg [⟨some 10, .mv (.t 4), none⟩,
 ⟨some 11, .bin .add (.t 10) (.c (.int .i64 1)), none⟩,
 ⟨some 4, .mv (.t 11), none⟩]))))))
 (.seq (.reg [⟨some 20, .mv (.t 3), none⟩,
 ⟨some 2, .mv (.t 20), none⟩])
 .ret))))
def if_spec_l3Copy : IFn := ⟨21, [.inl 2], ib_spec_l3Copy, lcF []⟩
def ks_spec_l3Copy : List (List (Option Nat)) := [[some 100]]
def gl_spec_l3Copy_1 : List Feat → Nat → (List Feat) → Option (List Feat)
  | [], k49, v46 => some v46
  | x50 :: l51, k49, v46 => (gf_spec_l2Copy x50).bind fun x58 => if fits (v46 ++ ([x58] : (List Feat))).length = true then gl_spec_l3Copy_1 l51 (k49 + 1) (v46 ++ ([x58] : (List Feat))) else none
def gf_spec_l3Copy (a0 : (List Feat)) : Option (List Feat) := if fits a0.length = true then ((gl_spec_l3Copy_1 a0 0 []).bind fun q44 => some (q44)) else none
def c_spec_l3Copy : Con := ⟨(List Feat), (List Feat), 31, fun a => [.ro (List.map (eFeat false) a)], fun a => gf_spec_l3Copy a, fun a r => ⟨[(false, [sl true 100 (List.map (eFeat true) r)])], []⟩, fun a => []⟩
/-! spec.l7One -/
def ib_spec_l7One : IC :=
 (.seq (.reg [⟨some 1, .box 115 [some 17, some 100, none] (.t 0), none⟩,
 ⟨some 2, .alloc 115 [.sl true 17 [], .sl true 100 [], .v (.string ⟨#[]⟩)], none⟩])
 (.seq (.drw [⟨some 3, .lit 17 [none] [.v (.int .i64 0)] 0 [], none⟩,
 ⟨some 4, .faddr 0 (.t 1), none⟩,
 ⟨some 5, .load 1 false (.t 4), none⟩,
 ⟨some 6, .app 17 false (.t 3) (.t 5), none⟩,
 ⟨some 7, .faddr 1 (.t 1), none⟩,
 ⟨some 8, .load 1 false (.t 7), none⟩,
 ⟨some 9, .call 31 [(false, .t 8)], none⟩,
 ⟨some 10, .faddr 2 (.t 1), none⟩,
 ⟨some 11, .load 1 false (.t 10), none⟩,
 ⟨some 12, .build [.nil, .nil, .v (.string ⟨#[]⟩)] [(0, 1, .t 6), (1, 1, .t 9), (2, 1, .t 11)], none⟩,
 ⟨none, .store [some 17, some 100, none] (.t 2) (.t 12), none⟩] [(0, 2), (0, 5), (2, 5), (3, 5), (0, 8), (2, 8), (3, 8), (5, 8), (6, 8)])
 .ret))
def if_spec_l7One : IFn := ⟨13, [.inr (2, 3)], ib_spec_l7One, lcF []⟩
def ks_spec_l7One : List (List (Option Nat)) := [[some 17, some 100, none]]
def gf_spec_l7One (a0 : Commit) : Option Commit := if fits ([] ++ a0.up).length = true then (gf_spec_l3Copy a0.sheet).bind fun x7 => some ((⟨([] ++ a0.up), x7, a0.note⟩ : Commit)) else none
def c_spec_l7One : Con := ⟨Commit, Commit, 32, fun a => [.agg [.ro (List.map eInt a.up), .ro (List.map (eFeat false) a.sheet), .v (.string a.note)]], fun a => gf_spec_l7One a, fun a r => ⟨[(true, eCommit true r)], []⟩, fun a => []⟩
/-! spec.RepoOk -/
def ib_spec_RepoOk : IC :=
 (.seq (.reg [⟨some 1, .box 210 [some 115, some 130] (.t 0), none⟩,
 ⟨some 2, .mv (.c (.bool false)), none⟩])
 (.seq (.seq (.reg [⟨some 7, .faddr 0 (.t 1), none⟩,
 ⟨some 8, .load 1 false (.t 7), none⟩,
 ⟨some 9, .len false (.t 8), none⟩,
 ⟨some 10, .bin .lss (.t 9) (.c (.int .i64 1)), none⟩,
 ⟨some 11, .mv (.t 10), none⟩,
 ⟨some 12, .faddr 0 (.t 1), some (11, false)⟩,
 ⟨some 13, .load 1 false (.t 12), some (11, false)⟩,
 ⟨some 14, .len false (.t 13), some (11, false)⟩,
 ⟨some 15, .bin .gtr (.t 14) (.c (.int .i64 14)), some (11, false)⟩,
 ⟨some 16, .pick (.t 11) (.c (.bool true)) (.t 15), none⟩,
 ⟨some 17, .mv (.t 16), none⟩,
 ⟨some 18, .faddr 1 (.t 1), some (17, false)⟩,
 ⟨some 19, .load 1 false (.t 18), some (17, false)⟩,
 ⟨some 20, .len false (.t 19), some (17, false)⟩,
 ⟨some 21, .bin .lss (.t 20) (.c (.int .i64 1)), some (17, false)⟩,
 ⟨some 22, .pick (.t 17) (.c (.bool true)) (.t 21), none⟩,
 ⟨some 23, .mv (.t 22), none⟩,
 ⟨some 24, .faddr 1 (.t 1), some (23, false)⟩,
 ⟨some 25, .load 1 false (.t 24), some (23, false)⟩,
 ⟨some 26, .len false (.t 25), some (23, false)⟩,
 ⟨some 27, .bin .gtr (.t 26) (.c (.int .i64 4)), some (23, false)⟩,
 ⟨some 28, .pick (.t 23) (.c (.bool true)) (.t 27), none⟩])
 (.cond (.t 28) (.seq (.reg [⟨some 2, .mv (.c (.bool false)), none⟩])
 .ret)
 .skip))
 (.seq (.seq (.reg [⟨some 3, .mv (.c (.int .i64 0)), none⟩])
 (blkC 0 (.loop (.seq (.seq (.reg [⟨some 29, .mv (.t 3), none⟩,
 ⟨some 30, .faddr 0 (.t 1), none⟩,
 ⟨some 31, .load 1 false (.t 30), none⟩,
 ⟨some 32, .len false (.t 31), none⟩,
 ⟨some 33, .bin .lss (.t 29) (.t 32), none⟩])
 (.cond (.t 33) .skip
 (.exit 0)))
 (.seq (.block 1 (.seq (.reg [⟨some 36, .faddr 0 (.t 1), none⟩,
 ⟨some 37, .load 1 false (.t 36), none⟩,
 ⟨some 38, .mv (.t 3), none⟩,
 ⟨some 39, .iaddr 3 (.t 37) (.t 38), none⟩,
 ⟨some 40, .load 3 true (.t 39), none⟩,
 ⟨some 4, .alloc 115 [.sl true 17 [], .sl true 100 [], .v (.string ⟨#[]⟩)], none⟩,
 ⟨none, .store [some 17, some 100, none] (.t 4) (.t 40), none⟩])
 (.seq (.reg [⟨some 41, .faddr 0 (.t 4), none⟩,
 ⟨some 42, .load 1 false (.t 41), none⟩,
 ⟨some 43, .mv (.t 3), none⟩,
 ⟨some 44, .call 25 [(false, .t 42), (false, .t 43)], none⟩,
 ⟨some 45, .un .not (.t 44), none⟩,
 ⟨some 46, .mv (.t 45), none⟩,
 ⟨some 47, .faddr 1 (.t 4), some (46, false)⟩,
 ⟨some 48, .load 1 false (.t 47), some (46, false)⟩,
 ⟨some 49, .call 26 [(false, .t 48)], some (46, false)⟩,
 ⟨some 50, .un .not (.t 49), some (46, false)⟩,
 ⟨some 51, .pick (.t 46) (.c (.bool true)) (.t 50), none⟩,
 ⟨some 52, .mv (.t 51), none⟩,
 ⟨some 53, .faddr 2 (.t 4), some (52, false)⟩,
 ⟨some 54, .load 1 false (.t 53), some (52, false)⟩,
 ⟨some 55, .call 14 [(false, .t 54)], some (52, false)⟩,
 ⟨some 56, .un .not (.t 55), some (52, false)⟩,
 ⟨some 57, .pick (.t 52) (.c (.bool true)) (.t 56), none⟩,
 ⟨some 58, .mv (.t 57), none⟩,
 ⟨some 59, .load 2 true (.t 1), some (58, false)⟩,
 ⟨some 60, .load 3 true (.t 4), some (58, false)⟩,
 ⟨some 61, .call 27 [(false, .t 59), (false, .t 60)], some (58, false)⟩,
 ⟨some 62, .mv (.t 3), some (58, false)⟩,
 ⟨some 63, .bin .neq (.t 61) (.t 62), some (58, false)⟩,
 ⟨some 64, .pick (.t 58) (.c (.bool true)) (.t 63), none⟩])
 (.cond (.t 64) (.seq (.reg [⟨some 2, .mv (.c (.bool false)), none⟩])
 .ret)
 .skip))))
 (.reg [⟨some 34, .mv (.t 3), none⟩,
 ⟨some 35, .bin .add (.t 34) (.c (.int .i64 1)), none⟩,
 ⟨some 3, .mv (.t 35), none⟩]))))))
 (.seq (.seq (.reg [⟨some 5, .mv (.c (.int .i64 0)), none⟩])
 (blkC 2 (.loop (.seq (.seq (.reg [⟨some 65, .mv (.t 5), none⟩,
 ⟨some 66, .faddr 1 (.t 1), none⟩,
 ⟨some 67, .load 1 false (.t 66), none⟩,
 ⟨some 68, .len false (.t 67), none⟩,
 ⟨some 69, .bin .lss (.t 65) (.t 68), none⟩])
 (.cond (.t 69) .skip
 (.exit 2)))
 (.seq (.block 3 (.seq (.reg [⟨some 72, .faddr 1 (.t 1), none⟩,
 ⟨some 73, .load 1 false (.t 72), none⟩,
 ⟨some 74, .mv (.t 5), none⟩,
 ⟨some 75, .iaddr 2 (.t 73) (.t 74), none⟩,
 ⟨some 76, .load 2 true (.t 75), none⟩,
 ⟨some 6, .alloc 130 [.v (.string ⟨#[]⟩), .v (.int .i64 0)], none⟩,
 ⟨none, .store [none, none] (.t 6) (.t 76), none⟩])
 (.seq (.reg [⟨some 77, .faddr 0 (.t 6), none⟩,
 ⟨some 78, .load 1 false (.t 77), none⟩,
 ⟨some 79, .call 14 [(false, .t 78)], none⟩,
 ⟨some 80, .un .not (.t 79), none⟩,
 ⟨some 81, .mv (.t 80), none⟩,
 ⟨some 82, .load 2 true (.t 1), some (81, false)⟩,
 ⟨some 83, .faddr 0 (.t 6), some (81, false)⟩,
 ⟨some 84, .load 1 false (.t 83), some (81, false)⟩,
 ⟨some 85, .call 28 [(false, .t 82), (false, .t 84)], some (81, false)⟩,
 ⟨some 86, .mv (.t 5), some (81, false)⟩,
 ⟨some 87, .bin .neq (.t 85) (.t 86), some (81, false)⟩,
 ⟨some 88, .pick (.t 81) (.c (.bool true)) (.t 87), none⟩,
 ⟨some 89, .mv (.t 88), none⟩,
 ⟨some 90, .faddr 1 (.t 6), some (89, false)⟩,
 ⟨some 91, .load 1 false (.t 90), some (89, false)⟩,
 ⟨some 92, .bin .lss (.t 91) (.c (.int .i64 0)), some (89, false)⟩,
 ⟨some 93, .pick (.t 89) (.c (.bool true)) (.t 92), none⟩,
 ⟨some 94, .mv (.t 93), none⟩,
 ⟨some 95, .faddr 1 (.t 6), some (94, false)⟩,
 ⟨some 96, .load 1 false (.t 95), some (94, false)⟩,
 ⟨some 97, .faddr 0 (.t 1), some (94, false)⟩,
 ⟨some 98, .load 1 false (.t 97), some (94, false)⟩,
 ⟨some 99, .len false (.t 98), some (94, false)⟩,
 ⟨some 100, .bin .geq (.t 96) (.t 99), some (94, false)⟩,
 ⟨some 101, .pick (.t 94) (.c (.bool true)) (.t 100), none⟩])
 (.cond (.t 101) (.seq (.reg [⟨some 2, .mv (.c (.bool false)), none⟩])
 .ret)
 .skip))))
 (.reg [⟨some 70, .mv (.t 5), none⟩,
 ⟨some 71, .bin .add (.t 70) (.c (.int .i64 1)), none⟩,
 ⟨some 5, .mv (.t 71), none⟩]))))))
 (.seq (.reg [⟨some 2, .mv (.c (.bool true)), none⟩])
 .ret)))))
def if_spec_RepoOk : IFn := ⟨102, [.inl 2], ib_spec_RepoOk, lcF []⟩
def ks_spec_RepoOk : List (List (Option Nat)) := [[none]]
def gl_spec_RepoOk_1 (a0 : Repo) : List Commit → Nat → Option (Bool ⊕ Unit)
  | [], k41 => some (.inr ())
  | x42 :: l43, k41 => (gf_spec_l7Up x42.up (k41 : Int)).bind fun x51 => if (!x51) = true then (some (.inl (false))) else ((gf_spec_SheetOk x42.sheet).bind fun x53 => if (!x53) = true then (some (.inl (false))) else ((gf_spec_WordOk x42.note).bind fun x55 => if (!x55) = true then (some (.inl (false))) else ((gf_spec_l7Find a0 x42).bind fun x57 => if (x57 != (k41 : Int)) = true then (some (.inl (false))) else (gl_spec_RepoOk_1 a0 l43 (k41 + 1) ))))
def gl_spec_RepoOk_2 (a0 : Repo) : List Head → Nat → Option (Bool ⊕ Unit)
  | [], k87 => some (.inr ())
  | x88 :: l89, k87 => (gf_spec_WordOk x88.name).bind fun x97 => if (!x97) = true then (some (.inl (false))) else ((gf_spec_l7Head a0 x88.name).bind fun x99 => if (x99 != (k87 : Int)) = true then (some (.inl (false))) else (if (decide (x88.at_ < 0)) = true then (some (.inl (false))) else (if (decide (x88.at_ ≥ (a0.commits.length : Int))) = true then (some (.inl (false))) else (gl_spec_RepoOk_2 a0 l89 (k87 + 1) ))))
def gf_spec_RepoOk (a0 : Repo) : Option Bool := if (decide ((a0.commits.length : Int) < 1)) = true then (some (false)) else (if (decide ((a0.commits.length : Int) > 14)) = true then (some (false)) else (if (decide ((a0.heads.length : Int) < 1)) = true then (some (false)) else (if (decide ((a0.heads.length : Int) > 4)) = true then (some (false)) else (if fits a0.commits.length = true then ((gl_spec_RepoOk_1 a0 a0.commits 0 ).bind fun q => match q with | .inl r => some r | .inr q38 => if fits a0.heads.length = true then ((gl_spec_RepoOk_2 a0 a0.heads 0 ).bind fun q => match q with | .inl r => some r | .inr q84 => some (true)) else none) else none))))
def c_spec_RepoOk : Con := ⟨Repo, Bool, 33, fun a => [.agg [.ro (List.map (eCommit false) a.commits), .ro (List.map eHead a.heads)]], fun a => gf_spec_RepoOk a, fun a r => ⟨[(false, [.v (.bool r)])], []⟩, fun a => []⟩
/-! spec.l7Add -/
def ib_spec_l7Add : IC :=
 (.seq (.reg [⟨some 3, .box 210 [some 115, some 130] (.t 0), none⟩,
 ⟨some 5, .box 115 [some 17, some 100, none] (.t 2), none⟩,
 ⟨some 6, .alloc 210 [.sl true 115 [], .sl true 130 []], none⟩])
 (.seq (.reg [⟨some 8, .load 2 true (.t 3), none⟩,
 ⟨some 9, .load 3 true (.t 5), none⟩,
 ⟨some 10, .call 27 [(false, .t 8), (false, .t 9)], none⟩,
 ⟨some 7, .mv (.t 10), none⟩])
 (.seq (.seq (.reg [⟨some 11, .mv (.t 7), none⟩,
 ⟨some 12, .bin .lss (.t 11) (.c (.int .i64 0)), none⟩])
 (.cond (.t 12) (.seq (.reg [⟨some 13, .faddr 0 (.t 3), none⟩,
 ⟨some 14, .load 1 false (.t 13), none⟩,
 ⟨some 15, .len false (.t 14), none⟩,
 ⟨some 7, .mv (.t 15), none⟩])
 (.drw [⟨some 16, .faddr 0 (.t 3), none⟩,
 ⟨some 17, .load 1 false (.t 16), none⟩,
 ⟨some 18, .load 3 true (.t 5), none⟩,
 ⟨some 19, .call 32 [(false, .t 18)], none⟩,
 ⟨some 20, .lit 115 [some 17, some 100, none] [.sl true 17 [], .sl true 100 [], .v (.string ⟨#[]⟩)] 1 [(0, .t 19)], none⟩,
 ⟨some 21, .app 115 true (.t 17) (.t 20), none⟩,
 ⟨some 22, .faddr 0 (.t 3), none⟩,
 ⟨none, .store [some 115] (.t 22) (.t 21), none⟩] [(1, 2), (1, 3), (1, 4)]))
 .skip))
 (.seq (.reg [⟨some 23, .faddr 1 (.t 3), none⟩,
 ⟨some 24, .load 1 false (.t 23), none⟩,
 ⟨some 25, .mv (.t 1), none⟩,
 ⟨some 26, .mv (.t 7), none⟩,
 ⟨some 27, .iaddr 2 (.t 24) (.t 25), none⟩,
 ⟨some 28, .faddr 1 (.t 27), none⟩,
 ⟨none, .store [none] (.t 28) (.t 26), none⟩])
 (.seq (.reg [⟨some 29, .load 2 true (.t 3), none⟩,
 ⟨none, .store [some 115, some 130] (.t 6) (.t 29), none⟩])
 .ret)))))
def if_spec_l7Add : IFn := ⟨30, [.inr (6, 2)], ib_spec_l7Add, lcF []⟩
def ks_spec_l7Add : List (List (Option Nat)) := [[some 115, some 130]]
def gf_spec_l7Add (a0 : Repo) (a1 : Int) (a2 : Commit) : Option Repo := (gf_spec_l7Find a0 a2).bind fun x4 => if (decide (x4 < 0)) = true then ((gf_spec_l7One a2).bind fun x6 => if fits (a0.commits ++ ([x6] : (List Commit))).length = true then (idx a0.heads a1).bind fun x16 => some ((⟨(a0.commits ++ ([x6] : (List Commit))), (List.set a0.heads a1.toNat (⟨x16.name, (a0.commits.length : Int)⟩ : Head))⟩ : Repo)) else none) else ((idx a0.heads a1).bind fun x18 => some ((⟨a0.commits, (List.set a0.heads a1.toNat (⟨x18.name, x4⟩ : Head))⟩ : Repo)))
def c_spec_l7Add : Con := ⟨Repo × Int × Commit, Repo, 60, fun a => [.agg [.io 0 a.1.commits.length 115, .io 1 a.1.heads.length 130], .v (.int .i64 a.2.1), .agg [.ro (List.map eInt a.2.2.up), .ro (List.map (eFeat false) a.2.2.sheet), .v (.string a.2.2.note)]], fun a => gf_spec_l7Add a.1 a.2.1 a.2.2, fun a r => ⟨[(true, eRepo true r)], [none, none]⟩, fun a => [(false, 115, List.map (eCommit true) a.1.commits), (false, 130, List.map eHead a.1.heads)]⟩
/-! spec.l7Copy -/
def ib_spec_l7Copy : IC :=
 (.seq (.reg [⟨some 1, .box 210 [some 115, some 130] (.t 0), none⟩,
 ⟨some 2, .alloc 210 [.sl true 115 [], .sl true 130 []], none⟩])
 (.seq (.reg [⟨some 5, .lit 130 [none, none] [.v (.string ⟨#[]⟩), .v (.int .i64 0)] 0 [], none⟩,
 ⟨some 6, .faddr 1 (.t 1), none⟩,
 ⟨some 7, .load 1 false (.t 6), none⟩,
 ⟨some 8, .app 130 false (.t 5) (.t 7), none⟩,
 ⟨some 9, .build [.nil, .nil] [(1, 1, .t 8)], none⟩,
 ⟨some 3, .alloc 210 [.sl true 115 [], .sl true 130 []], none⟩,
 ⟨none, .store [some 115, some 130] (.t 3) (.t 9), none⟩])
 (.seq (.seq (.reg [⟨some 4, .mv (.c (.int .i64 0)), none⟩])
 (blkC 0 (.loop (.seq (.seq (.reg [⟨some 10, .mv (.t 4), none⟩,
 ⟨some 11, .faddr 0 (.t 1), none⟩,
 ⟨some 12, .load 1 false (.t 11), none⟩,
 ⟨some 13, .len false (.t 12), none⟩,
 ⟨some 14, .bin .lss (.t 10) (.t 13), none⟩])
 (.cond (.t 14) .skip
 (.exit 0)))
 (.seq (.block 1 (.drw [⟨some 17, .faddr 0 (.t 3), none⟩,
 ⟨some 18, .load 1 false (.t 17), none⟩,
 ⟨some 19, .faddr 0 (.t 1), none⟩,
 ⟨some 20, .load 1 false (.t 19), none⟩,
 ⟨some 21, .mv (.t 4), none⟩,
 ⟨some 22, .iaddr 3 (.t 20) (.t 21), none⟩,
 ⟨some 23, .load 3 true (.t 22), none⟩,
 ⟨some 24, .call 32 [(false, .t 23)], none⟩,
 ⟨some 25, .lit 115 [some 17, some 100, none] [.sl true 17 [], .sl true 100 [], .v (.string ⟨#[]⟩)] 1 [(0, .t 24)], none⟩,
 ⟨some 26, .app 115 true (.t 18) (.t 25), none⟩,
 ⟨some 27, .faddr 0 (.t 3), none⟩,
 ⟨none, .store [some 115] (.t 27) (.t 26), none⟩] [(1, 3), (1, 6), (1, 7), (1, 8)]))
 (.reg [⟨some 15, .mv (.t 4), none⟩,
 ⟨some 16, .bin .add (.t 15) (.c (.int .i64 1)), none⟩,
 ⟨some 4, .mv (.t 16), none⟩]))))))
 (.seq (.reg [⟨some 28, .load 2 true (.t 3), none⟩,
 ⟨none, .store [some 115, some 130] (.t 2) (.t 28), none⟩])
 .ret))))
def if_spec_l7Copy : IFn := ⟨29, [.inr (2, 2)], ib_spec_l7Copy, lcF []⟩
def ks_spec_l7Copy : List (List (Option Nat)) := [[some 115, some 130]]
def gl_spec_l7Copy_1 : List Commit → Nat → (List Commit) → Option (List Commit)
  | [], k82, v76 => some v76
  | x83 :: l84, k82, v76 => (gf_spec_l7One x83).bind fun x91 => if fits (v76 ++ ([x91] : (List Commit))).length = true then gl_spec_l7Copy_1 l84 (k82 + 1) (v76 ++ ([x91] : (List Commit))) else none
def gf_spec_l7Copy (a0 : Repo) : Option Repo := if fits ([] ++ a0.heads).length = true then if fits a0.commits.length = true then ((gl_spec_l7Copy_1 a0.commits 0 []).bind fun q68 => some ((⟨q68, ([] ++ a0.heads)⟩ : Repo))) else none else none
def c_spec_l7Copy : Con := ⟨Repo, Repo, 61, fun a => [.agg [.ro (List.map (eCommit false) a.commits), .ro (List.map eHead a.heads)]], fun a => gf_spec_l7Copy a, fun a r => ⟨[(true, eRepo true r)], []⟩, fun a => []⟩
/-! laws.toPt -/
def ib_laws_toPt : IC :=
 (.seq (.reg [⟨some 1, .box 338 [none, none] (.t 0), none⟩,
 ⟨some 2, .alloc 66 [.v (.int .i64 0), .v (.int .i64 0)], none⟩])
 (.seq (.reg [⟨some 3, .alloc 66 [.v (.int .i64 0), .v (.int .i64 0)], none⟩])
 (.seq (.reg [⟨some 4, .faddr 0 (.t 1), none⟩,
 ⟨some 5, .load 1 false (.t 4), none⟩,
 ⟨some 6, .faddr 0 (.t 3), none⟩,
 ⟨none, .store [none] (.t 6) (.t 5), none⟩])
 (.seq (.reg [⟨some 7, .faddr 1 (.t 1), none⟩,
 ⟨some 8, .load 1 false (.t 7), none⟩,
 ⟨some 9, .faddr 1 (.t 3), none⟩,
 ⟨none, .store [none] (.t 9) (.t 8), none⟩])
 (.seq (.reg [⟨some 10, .load 2 true (.t 3), none⟩,
 ⟨none, .store [none, none] (.t 2) (.t 10), none⟩])
 .ret)))))
def if_laws_toPt : IFn := ⟨11, [.inr (2, 2)], ib_laws_toPt, lcF []⟩
def ks_laws_toPt : List (List (Option Nat)) := [[none, none]]
def gf_laws_toPt (a0 : Pt) : Option Pt := some (a0)
def c_laws_toPt : Con := ⟨Pt, Pt, 64, fun a => [.agg [.v (.int .i64 a.x), .v (.int .i64 a.y)]], fun a => gf_laws_toPt a, fun a r => ⟨[(true, ePt r)], []⟩, fun a => []⟩
/-! laws.toPtS -/
def ib_laws_toPtS : IC :=
 (.seq (.reg [⟨some 2, .mv (.c (.slice none 0 0)), none⟩])
 (.seq (.reg [⟨some 5, .mv (.t 0), none⟩,
 ⟨some 6, .len false (.t 5), none⟩,
 ⟨some 7, .mks 66 [.v (.int .i64 0), .v (.int .i64 0)] (.t 6) (.t 6), none⟩,
 ⟨some 3, .mv (.t 7), none⟩])
 (.seq (.seq (.reg [⟨some 4, .mv (.c (.int .i64 0)), none⟩])
 (blkC 0 (.loop (.seq (.seq (.reg [⟨some 8, .mv (.t 4), none⟩,
 ⟨some 9, .mv (.t 0), none⟩,
 ⟨some 10, .len false (.t 9), none⟩,
 ⟨some 11, .bin .lss (.t 8) (.t 10), none⟩])
 (.cond (.t 11) .skip
 (.exit 0)))
 (.seq (.block 1 (.reg [⟨some 14, .mv (.t 3), none⟩,
 ⟨some 15, .mv (.t 4), none⟩,
 ⟨some 16, .mv (.t 0), none⟩,
 ⟨some 17, .mv (.t 4), none⟩,
 ⟨some 18, .iaddr 2 (.t 16) (.t 17), none⟩,
 ⟨some 19, .load 2 true (.t 18), none⟩,
 ⟨some 20, .call 64 [(false, .t 19)], none⟩,
 ⟨some 21, .iaddr 2 (.t 14) (.t 15), none⟩,
 ⟨none, .store [none, none] (.t 21) (.t 20), none⟩]))
 (.reg [⟨some 12, .mv (.t 4), none⟩,
 ⟨some 13, .bin .add (.t 12) (.c (.int .i64 1)), none⟩,
 ⟨some 4, .mv (.t 13), none⟩]))))))
 (.seq (.reg [⟨some 22, .mv (.t 3), none⟩,
 ⟨some 2, .mv (.t 22), none⟩])
 .ret))))
def if_laws_toPtS : IFn := ⟨23, [.inl 2], ib_laws_toPtS, lcF []⟩
def ks_laws_toPtS : List (List (Option Nat)) := [[some 66]]
def gl_laws_toPtS_1 : List Pt → Nat → (List Pt) → Option (List Pt)
  | [], k33, v30 => some v30
  | x34 :: l35, k33, v30 => (gf_laws_toPt x34).bind fun x42 => (idx v30 (k33 : Int)).bind fun x44 => gl_laws_toPtS_1 l35 (k33 + 1) (List.set v30 (k33 : Int).toNat x42)
def gf_laws_toPtS (a0 : (List Pt)) : Option (List Pt) := if (decide (0 ≤ (a0.length : Int)) && fits ((a0.length : Int)).toNat) = true then if fits a0.length = true then ((gl_laws_toPtS_1 a0 0 (List.replicate ((a0.length : Int)).toNat (⟨0, 0⟩ : Pt))).bind fun q28 => some (q28)) else none else none
def c_laws_toPtS : Con := ⟨(List Pt), (List Pt), 65, fun a => [.ro (List.map ePt a)], fun a => gf_laws_toPtS a, fun a r => ⟨[(false, [sl true 66 (List.map ePt r)])], []⟩, fun a => []⟩
/-! laws.toTag -/
def ib_laws_toTag : IC :=
 (.seq (.reg [⟨some 1, .box 354 [none, none] (.t 0), none⟩,
 ⟨some 2, .alloc 82 [.v (.string ⟨#[]⟩), .v (.string ⟨#[]⟩)], none⟩])
 (.seq (.reg [⟨some 3, .alloc 82 [.v (.string ⟨#[]⟩), .v (.string ⟨#[]⟩)], none⟩])
 (.seq (.reg [⟨some 4, .faddr 0 (.t 1), none⟩,
 ⟨some 5, .load 1 false (.t 4), none⟩,
 ⟨some 6, .faddr 0 (.t 3), none⟩,
 ⟨none, .store [none] (.t 6) (.t 5), none⟩])
 (.seq (.reg [⟨some 7, .faddr 1 (.t 1), none⟩,
 ⟨some 8, .load 1 false (.t 7), none⟩,
 ⟨some 9, .faddr 1 (.t 3), none⟩,
 ⟨none, .store [none] (.t 9) (.t 8), none⟩])
 (.seq (.reg [⟨some 10, .load 2 true (.t 3), none⟩,
 ⟨none, .store [none, none] (.t 2) (.t 10), none⟩])
 .ret)))))
def if_laws_toTag : IFn := ⟨11, [.inr (2, 2)], ib_laws_toTag, lcF []⟩
def ks_laws_toTag : List (List (Option Nat)) := [[none, none]]
def gf_laws_toTag (a0 : Tag) : Option Tag := some (a0)
def c_laws_toTag : Con := ⟨Tag, Tag, 66, fun a => [.agg [.v (.string a.key), .v (.string a.val)]], fun a => gf_laws_toTag a, fun a r => ⟨[(true, eTag r)], []⟩, fun a => []⟩
/-! laws.toShape -/
def ib_laws_toShape : IC :=
 (.seq (.reg [⟨some 1, .box 482 [none, some 338] (.t 0), none⟩,
 ⟨some 2, .alloc 226 [.v (.int .i64 0), .sl true 66 []], none⟩])
 (.seq (.reg [⟨some 3, .alloc 226 [.v (.int .i64 0), .sl true 66 []], none⟩])
 (.seq (.reg [⟨some 4, .faddr 0 (.t 1), none⟩,
 ⟨some 5, .load 1 false (.t 4), none⟩,
 ⟨some 6, .faddr 0 (.t 3), none⟩,
 ⟨none, .store [none] (.t 6) (.t 5), none⟩])
 (.seq (.reg [⟨some 7, .faddr 1 (.t 1), none⟩,
 ⟨some 8, .load 1 false (.t 7), none⟩,
 ⟨some 9, .call 65 [(false, .t 8)], none⟩,
 ⟨some 10, .faddr 1 (.t 3), none⟩,
 ⟨none, .store [some 66] (.t 10) (.t 9), none⟩])
 (.seq (.reg [⟨some 11, .load 2 true (.t 3), none⟩,
 ⟨none, .store [none, some 66] (.t 2) (.t 11), none⟩])
 .ret)))))
def if_laws_toShape : IFn := ⟨12, [.inr (2, 2)], ib_laws_toShape, lcF []⟩
def ks_laws_toShape : List (List (Option Nat)) := [[none, some 66]]
def gf_laws_toShape (a0 : Shape) : Option Shape := (gf_laws_toPtS a0.pts).bind fun x4 => some ((⟨a0.kind, x4⟩ : Shape))
def c_laws_toShape : Con := ⟨Shape, Shape, 67, fun a => [.agg [.v (.int .i64 a.kind), .ro (List.map ePt a.pts)]], fun a => gf_laws_toShape a, fun a r => ⟨[(true, eShape true r)], []⟩, fun a => []⟩
/-! laws.toTagS -/
def ib_laws_toTagS : IC :=
 (.seq (.reg [⟨some 2, .mv (.c (.slice none 0 0)), none⟩])
 (.seq (.reg [⟨some 5, .mv (.t 0), none⟩,
 ⟨some 6, .len false (.t 5), none⟩,
 ⟨some 7, .mks 82 [.v (.string ⟨#[]⟩), .v (.string ⟨#[]⟩)] (.t 6) (.t 6), none⟩,
 ⟨some 3, .mv (.t 7), none⟩])
 (.seq (.seq (.reg [⟨some 4, .mv (.c (.int .i64 0)), none⟩])
 (blkC 0 (.loop (.seq (.seq (.reg [⟨some 8, .mv (.t 4), none⟩,
 ⟨some 9, .mv (.t 0), none⟩,
 ⟨some 10, .len false (.t 9), none⟩,
 ⟨some 11, .bin .lss (.t 8) (.t 10), none⟩])
 (.cond (.t 11) .skip
 (.exit 0)))
 (.seq (.block 1 (.reg [⟨some 14, .mv (.t 3), none⟩,
 ⟨some 15, .mv (.t 4), none⟩,
 ⟨some 16, .mv (.t 0), none⟩,
 ⟨some 17, .mv (.t 4), none⟩,
 ⟨some 18, .iaddr 2 (.t 16) (.t 17), none⟩,
 ⟨some 19, .load 2 true (.t 18), none⟩,
 ⟨some 20, .call 66 [(false, .t 19)], none⟩,
 ⟨some 21, .iaddr 2 (.t 14) (.t 15), none⟩,
 ⟨none, .store [none, none] (.t 21) (.t 20), none⟩]))
 (.reg [⟨some 12, .mv (.t 4), none⟩,
 ⟨some 13, .bin .add (.t 12) (.c (.int .i64 1)), none⟩,
 ⟨some 4, .mv (.t 13), none⟩]))))))
 (.seq (.reg [⟨some 22, .mv (.t 3), none⟩,
 ⟨some 2, .mv (.t 22), none⟩])
 .ret))))
def if_laws_toTagS : IFn := ⟨23, [.inl 2], ib_laws_toTagS, lcF []⟩
def ks_laws_toTagS : List (List (Option Nat)) := [[some 82]]
def gl_laws_toTagS_1 : List Tag → Nat → (List Tag) → Option (List Tag)
  | [], k33, v30 => some v30
  | x34 :: l35, k33, v30 => (gf_laws_toTag x34).bind fun x42 => (idx v30 (k33 : Int)).bind fun x44 => gl_laws_toTagS_1 l35 (k33 + 1) (List.set v30 (k33 : Int).toNat x42)
def gf_laws_toTagS (a0 : (List Tag)) : Option (List Tag) := if (decide (0 ≤ (a0.length : Int)) && fits ((a0.length : Int)).toNat) = true then if fits a0.length = true then ((gl_laws_toTagS_1 a0 0 (List.replicate ((a0.length : Int)).toNat (⟨(⟨#[]⟩ : Str), (⟨#[]⟩ : Str)⟩ : Tag))).bind fun q28 => some (q28)) else none else none
def c_laws_toTagS : Con := ⟨(List Tag), (List Tag), 68, fun a => [.ro (List.map eTag a)], fun a => gf_laws_toTagS a, fun a r => ⟨[(false, [sl true 82 (List.map eTag r)])], []⟩, fun a => []⟩
/-! laws.toFeat -/
def ib_laws_toFeat : IC :=
 (.seq (.reg [⟨some 1, .box 372 [none, none, some 338, some 354] (.t 0), none⟩,
 ⟨some 2, .alloc 100 [.v (.string ⟨#[]⟩), .v (.int .i64 0), .sl true 66 [], .sl true 82 []], none⟩])
 (.seq (.reg [⟨some 3, .alloc 100 [.v (.string ⟨#[]⟩), .v (.int .i64 0), .sl true 66 [], .sl true 82 []], none⟩])
 (.seq (.reg [⟨some 4, .faddr 0 (.t 1), none⟩,
 ⟨some 5, .load 1 false (.t 4), none⟩,
 ⟨some 6, .faddr 0 (.t 3), none⟩,
 ⟨none, .store [none] (.t 6) (.t 5), none⟩])
 (seqC (.reg [⟨some 7, .faddr 1 (.t 1), none⟩,
 ⟨some 8, .load 2 true (.t 7), none⟩,
 ⟨some 9, .call 67 [(false, .t 8)], none⟩,
 ⟨some 10, .faddr 1 (.t 3), none⟩,
 ⟨none, .store [none, some 66] (.t 10) (.t 9), none⟩])
 (.seq (.reg [⟨some 11, .faddr 3 (.t 1), none⟩,
 ⟨some 12, .load 1 false (.t 11), none⟩,
 ⟨some 13, .call 68 [(false, .t 12)], none⟩,
 ⟨some 14, .faddr 3 (.t 3), none⟩,
 ⟨none, .store [some 82] (.t 14) (.t 13), none⟩])
 (.seq (.reg [⟨some 15, .load 4 true (.t 3), none⟩,
 ⟨none, .store [none, none, some 66, some 82] (.t 2) (.t 15), none⟩])
 .ret))))))
def if_laws_toFeat : IFn := ⟨16, [.inr (2, 4)], ib_laws_toFeat, lcF []⟩
def ks_laws_toFeat : List (List (Option Nat)) := [[none, none, some 66, some 82]]
def gf_laws_toFeat (a0 : Feat) : Option Feat := (((gf_laws_toShape a0.shape).bind fun x5 => some (x5.pts, x5.kind) : Option ((List Pt) × Int))).bind fun q4 => (gf_laws_toTagS a0.tags).bind fun x22 => some ((⟨a0.id, ⟨q4.2, q4.1⟩, x22⟩ : Feat))
def c_laws_toFeat : Con := ⟨Feat, Feat, 69, fun a => [.agg [.v (.string a.id), .v (.int .i64 a.shape.kind), .ro (List.map ePt a.shape.pts), .ro (List.map eTag a.tags)]], fun a => gf_laws_toFeat a, fun a r => ⟨[(true, eFeat true r)], []⟩, fun a => []⟩
/-! laws.toIntS -/
def ib_laws_toIntS : IC :=
 (.seq (.reg [⟨some 2, .mv (.c (.slice none 0 0)), none⟩])
 (.seq (.reg [⟨some 5, .mv (.t 0), none⟩,
 ⟨some 6, .len false (.t 5), none⟩,
 ⟨some 7, .mks 17 [.v (.int .i64 0)] (.t 6) (.t 6), none⟩,
 ⟨some 3, .mv (.t 7), none⟩])
 (.seq (.seq (.reg [⟨some 4, .mv (.c (.int .i64 0)), none⟩])
 (blkC 0 (.loop (.seq (.seq (.reg [⟨some 8, .mv (.t 4), none⟩,
 ⟨some 9, .mv (.t 0), none⟩,
 ⟨some 10, .len false (.t 9), none⟩,
 ⟨some 11, .bin .lss (.t 8) (.t 10), none⟩])
 (.cond (.t 11) .skip
 (.exit 0)))
 (.seq (.block 1 (.reg [⟨some 14, .mv (.t 3), none⟩,
 ⟨some 15, .mv (.t 4), none⟩,
 ⟨some 16, .mv (.t 0), none⟩,
 ⟨some 17, .mv (.t 4), none⟩,
 ⟨some 18, .iaddr 1 (.t 16) (.t 17), none⟩,
 ⟨some 19, .load 1 false (.t 18), none⟩,
 ⟨some 20, .iaddr 1 (.t 14) (.t 15), none⟩,
 ⟨none, .store [none] (.t 20) (.t 19), none⟩]))
 (.reg [⟨some 12, .mv (.t 4), none⟩,
 ⟨some 13, .bin .add (.t 12) (.c (.int .i64 1)), none⟩,
 ⟨some 4, .mv (.t 13), none⟩]))))))
 (.seq (.reg [⟨some 21, .mv (.t 3), none⟩,
 ⟨some 2, .mv (.t 21), none⟩])
 .ret))))
def if_laws_toIntS : IFn := ⟨22, [.inl 2], ib_laws_toIntS, lcF []⟩
def ks_laws_toIntS : List (List (Option Nat)) := [[some 17]]
def gl_laws_toIntS_1 : List Int → Nat → (List Int) → Option (List Int)
  | [], k27, v24 => some v24
  | x28 :: l29, k27, v24 => (idx v24 (k27 : Int)).bind fun x36 => gl_laws_toIntS_1 l29 (k27 + 1) (List.set v24 (k27 : Int).toNat x28)
def gf_laws_toIntS (a0 : (List Int)) : Option (List Int) := if (decide (0 ≤ (a0.length : Int)) && fits ((a0.length : Int)).toNat) = true then if fits a0.length = true then ((gl_laws_toIntS_1 a0 0 (List.replicate ((a0.length : Int)).toNat 0)).bind fun q22 => some (q22)) else none else none
def c_laws_toIntS : Con := ⟨(List Int), (List Int), 70, fun a => [.ro (List.map eInt a)], fun a => gf_laws_toIntS a, fun a r => ⟨[(false, [sl true 17 (List.map eInt r)])], []⟩, fun a => []⟩
/-! laws.toFeatS -/
def ib_laws_toFeatS : IC :=
 (.seq (.reg [⟨some 2, .mv (.c (.slice none 0 0)), none⟩])
 (.seq (.reg [⟨some 5, .mv (.t 0), none⟩,
 ⟨some 6, .len false (.t 5), none⟩,
 ⟨some 7, .mks 100 [.v (.string ⟨#[]⟩), .v (.int .i64 0), .sl true 66 [], .sl true 82 []] (.t 6) (.t 6), none⟩,
 ⟨some 3, .mv (.t 7), none⟩])
 (.seq (.seq (.reg [⟨some 4, .mv (.c (.int .i64 0)), none⟩])
 (blkC 0 (.loop (.seq (.seq (.reg [⟨some 8, .mv (.t 4), none⟩,
 ⟨some 9, .mv (.t 0), none⟩,
 ⟨some 10, .len false (.t 9), none⟩,
 ⟨some 11, .bin .lss (.t 8) (.t 10), none⟩])
 (.cond (.t 11) .skip
 (.exit 0)))
 (.seq (.block 1 (.reg [⟨some 14, .mv (.t 3), none⟩,
 ⟨some 15, .mv (.t 4), none⟩,
 ⟨some 16, .mv (.t 0), none⟩,
 ⟨some 17, .mv (.t 4), none⟩,
 ⟨some 18, .iaddr 4 (.t 16) (.t 17), none⟩,
 ⟨some 19, .load 4 true (.t 18), none⟩,
 ⟨some 20, .call 69 [(false, .t 19)], none⟩,
 ⟨some 21, .iaddr 4 (.t 14) (.t 15), none⟩,
 ⟨none, .store [none, none, some 66, some 82] (.t 21) (.t 20), none⟩]))
 (.reg [⟨some 12, .mv (.t 4), none⟩,
 ⟨some 13, .bin .add (.t 12) (.c (.int .i64 1)), none⟩,
 ⟨some 4, .mv (.t 13), none⟩]))))))
 (.seq (.reg [⟨some 22, .mv (.t 3), none⟩,
 ⟨some 2, .mv (.t 22), none⟩])
 .ret))))
def if_laws_toFeatS : IFn := ⟨23, [.inl 2], ib_laws_toFeatS, lcF []⟩
def ks_laws_toFeatS : List (List (Option Nat)) := [[some 100]]
def gl_laws_toFeatS_1 : List Feat → Nat → (List Feat) → Option (List Feat)
  | [], k45, v42 => some v42
  | x46 :: l47, k45, v42 => (gf_laws_toFeat x46).bind fun x54 => (idx v42 (k45 : Int)).bind fun x60 => gl_laws_toFeatS_1 l47 (k45 + 1) (List.set v42 (k45 : Int).toNat x54)
def gf_laws_toFeatS (a0 : (List Feat)) : Option (List Feat) := if (decide (0 ≤ (a0.length : Int)) && fits ((a0.length : Int)).toNat) = true then if fits a0.length = true then ((gl_laws_toFeatS_1 a0 0 (List.replicate ((a0.length : Int)).toNat (⟨(⟨#[]⟩ : Str), ⟨0, []⟩, []⟩ : Feat))).bind fun q40 => some (q40)) else none else none
def c_laws_toFeatS : Con := ⟨(List Feat), (List Feat), 71, fun a => [.ro (List.map (eFeat false) a)], fun a => gf_laws_toFeatS a, fun a r => ⟨[(false, [sl true 100 (List.map (eFeat true) r)])], []⟩, fun a => []⟩
/-! laws.toCommit -/
def ib_laws_toCommit : IC :=
 (.seq (.reg [⟨some 1, .box 387 [some 17, some 372, none] (.t 0), none⟩,
 ⟨some 2, .alloc 115 [.sl true 17 [], .sl true 100 [], .v (.string ⟨#[]⟩)], none⟩])
 (.seq (.reg [⟨some 3, .alloc 115 [.sl true 17 [], .sl true 100 [], .v (.string ⟨#[]⟩)], none⟩])
 (seqC (.reg [⟨some 4, .faddr 0 (.t 1), none⟩,
 ⟨some 5, .load 1 false (.t 4), none⟩,
 ⟨some 6, .call 70 [(false, .t 5)], none⟩,
 ⟨some 7, .faddr 0 (.t 3), none⟩,
 ⟨none, .store [some 17] (.t 7) (.t 6), none⟩])
 (.seq (.reg [⟨some 8, .faddr 1 (.t 1), none⟩,
 ⟨some 9, .load 1 false (.t 8), none⟩,
 ⟨some 10, .call 71 [(false, .t 9)], none⟩,
 ⟨some 11, .faddr 1 (.t 3), none⟩,
 ⟨none, .store [some 100] (.t 11) (.t 10), none⟩])
 (.seq (.reg [⟨some 12, .faddr 2 (.t 1), none⟩,
 ⟨some 13, .load 1 false (.t 12), none⟩,
 ⟨some 14, .faddr 2 (.t 3), none⟩,
 ⟨none, .store [none] (.t 14) (.t 13), none⟩])
 (.seq (.reg [⟨some 15, .load 3 true (.t 3), none⟩,
 ⟨none, .store [some 17, some 100, none] (.t 2) (.t 15), none⟩])
 .ret))))))
def if_laws_toCommit : IFn := ⟨16, [.inr (2, 3)], ib_laws_toCommit, lcF []⟩
def ks_laws_toCommit : List (List (Option Nat)) := [[some 17, some 100, none]]
def gf_laws_toCommit (a0 : Commit) : Option Commit := (((gf_laws_toIntS a0.up).bind fun x5 => some x5 : Option (List Int))).bind fun q4 => (gf_laws_toFeatS a0.sheet).bind fun x21 => some ((⟨q4, x21, a0.note⟩ : Commit))
def c_laws_toCommit : Con := ⟨Commit, Commit, 72, fun a => [.agg [.ro (List.map eInt a.up), .ro (List.map (eFeat false) a.sheet), .v (.string a.note)]], fun a => gf_laws_toCommit a, fun a r => ⟨[(true, eCommit true r)], []⟩, fun a => []⟩
/-! laws.toHead -/
def ib_laws_toHead : IC :=
 (.seq (.reg [⟨some 1, .box 402 [none, none] (.t 0), none⟩,
 ⟨some 2, .alloc 130 [.v (.string ⟨#[]⟩), .v (.int .i64 0)], none⟩])
 (.seq (.reg [⟨some 3, .alloc 130 [.v (.string ⟨#[]⟩), .v (.int .i64 0)], none⟩])
 (.seq (.reg [⟨some 4, .faddr 0 (.t 1), none⟩,
 ⟨some 5, .load 1 false (.t 4), none⟩,
 ⟨some 6, .faddr 0 (.t 3), none⟩,
 ⟨none, .store [none] (.t 6) (.t 5), none⟩])
 (.seq (.reg [⟨some 7, .faddr 1 (.t 1), none⟩,
 ⟨some 8, .load 1 false (.t 7), none⟩,
 ⟨some 9, .faddr 1 (.t 3), none⟩,
 ⟨none, .store [none] (.t 9) (.t 8), none⟩])
 (.seq (.reg [⟨some 10, .load 2 true (.t 3), none⟩,
 ⟨none, .store [none, none] (.t 2) (.t 10), none⟩])
 .ret)))))
def if_laws_toHead : IFn := ⟨11, [.inr (2, 2)], ib_laws_toHead, lcF []⟩
def ks_laws_toHead : List (List (Option Nat)) := [[none, none]]
def gf_laws_toHead (a0 : Head) : Option Head := some (a0)
def c_laws_toHead : Con := ⟨Head, Head, 73, fun a => [.agg [.v (.string a.name), .v (.int .i64 a.at_)]], fun a => gf_laws_toHead a, fun a r => ⟨[(true, eHead r)], []⟩, fun a => []⟩
/-! laws.toCommitS -/
def ib_laws_toCommitS : IC :=
 (.seq (.reg [⟨some 2, .mv (.c (.slice none 0 0)), none⟩])
 (.seq (.reg [⟨some 5, .mv (.t 0), none⟩,
 ⟨some 6, .len false (.t 5), none⟩,
 ⟨some 7, .mks 115 [.sl true 17 [], .sl true 100 [], .v (.string ⟨#[]⟩)] (.t 6) (.t 6), none⟩,
 ⟨some 3, .mv (.t 7), none⟩])
 (.seq (.seq (.reg [⟨some 4, .mv (.c (.int .i64 0)), none⟩])
 (blkC 0 (.loop (.seq (.seq (.reg [⟨some 8, .mv (.t 4), none⟩,
 ⟨some 9, .mv (.t 0), none⟩,
 ⟨some 10, .len false (.t 9), none⟩,
 ⟨some 11, .bin .lss (.t 8) (.t 10), none⟩])
 (.cond (.t 11) .skip
 (.exit 0)))
 (.seq (.block 1 (.reg [⟨some 14, .mv (.t 3), none⟩,
 ⟨some 15, .mv (.t 4), none⟩,
 ⟨some 16, .mv (.t 0), none⟩,
 ⟨some 17, .mv (.t 4), none⟩,
 ⟨some 18, .iaddr 3 (.t 16) (.t 17), none⟩,
 ⟨some 19, .load 3 true (.t 18), none⟩,
 ⟨some 20, .call 72 [(false, .t 19)], none⟩,
 ⟨some 21, .iaddr 3 (.t 14) (.t 15), none⟩,
 ⟨none, .store [some 17, some 100, none] (.t 21) (.t 20), none⟩]))
 (.reg [⟨some 12, .mv (.t 4), none⟩,
 ⟨some 13, .bin .add (.t 12) (.c (.int .i64 1)), none⟩,
 ⟨some 4, .mv (.t 13), none⟩]))))))
 (.seq (.reg [⟨some 22, .mv (.t 3), none⟩,
 ⟨some 2, .mv (.t 22), none⟩])
 .ret))))
def if_laws_toCommitS : IFn := ⟨23, [.inl 2], ib_laws_toCommitS, lcF []⟩
def ks_laws_toCommitS : List (List (Option Nat)) := [[some 115]]
def gl_laws_toCommitS_1 : List Commit → Nat → (List Commit) → Option (List Commit)
  | [], k45, v42 => some v42
  | x46 :: l47, k45, v42 => (gf_laws_toCommit x46).bind fun x54 => (idx v42 (k45 : Int)).bind fun x60 => gl_laws_toCommitS_1 l47 (k45 + 1) (List.set v42 (k45 : Int).toNat x54)
def gf_laws_toCommitS (a0 : (List Commit)) : Option (List Commit) := if (decide (0 ≤ (a0.length : Int)) && fits ((a0.length : Int)).toNat) = true then if fits a0.length = true then ((gl_laws_toCommitS_1 a0 0 (List.replicate ((a0.length : Int)).toNat (⟨[], [], (⟨#[]⟩ : Str)⟩ : Commit))).bind fun q40 => some (q40)) else none else none
def c_laws_toCommitS : Con := ⟨(List Commit), (List Commit), 74, fun a => [.ro (List.map (eCommit false) a)], fun a => gf_laws_toCommitS a, fun a r => ⟨[(false, [sl true 115 (List.map (eCommit true) r)])], []⟩, fun a => []⟩
/-! laws.toHeadS -/
def ib_laws_toHeadS : IC :=
 (.seq (.reg [⟨some 2, .mv (.c (.slice none 0 0)), none⟩])
 (.seq (.reg [⟨some 5, .mv (.t 0), none⟩,
 ⟨some 6, .len false (.t 5), none⟩,
 ⟨some 7, .mks 130 [.v (.string ⟨#[]⟩), .v (.int .i64 0)] (.t 6) (.t 6), none⟩,
 ⟨some 3, .mv (.t 7), none⟩])
 (.seq (.seq (.reg [⟨some 4, .mv (.c (.int .i64 0)), none⟩])
 (blkC 0 (.loop (.seq (.seq (.reg [⟨some 8, .mv (.t 4), none⟩,
 ⟨some 9, .mv (.t 0), none⟩,
 ⟨some 10, .len false (.t 9), none⟩,
 ⟨some 11, .bin .lss (.t 8) (.t 10), none⟩])
 (.cond (.t 11) .skip
 (.exit 0)))
 (.seq (.block 1 (.reg [⟨some 14, .mv (.t 3), none⟩,
 ⟨some 15, .mv (.t 4), none⟩,
 ⟨some 16, .mv (.t 0), none⟩,
 ⟨some 17, .mv (.t 4), none⟩,
 ⟨some 18, .iaddr 2 (.t 16) (.t 17), none⟩,
 ⟨some 19, .load 2 true (.t 18), none⟩,
 ⟨some 20, .call 73 [(false, .t 19)], none⟩,
 ⟨some 21, .iaddr 2 (.t 14) (.t 15), none⟩,
 ⟨none, .store [none, none] (.t 21) (.t 20), none⟩]))
 (.reg [⟨some 12, .mv (.t 4), none⟩,
 ⟨some 13, .bin .add (.t 12) (.c (.int .i64 1)), none⟩,
 ⟨some 4, .mv (.t 13), none⟩]))))))
 (.seq (.reg [⟨some 22, .mv (.t 3), none⟩,
 ⟨some 2, .mv (.t 22), none⟩])
 .ret))))
def if_laws_toHeadS : IFn := ⟨23, [.inl 2], ib_laws_toHeadS, lcF []⟩
def ks_laws_toHeadS : List (List (Option Nat)) := [[some 130]]
def gl_laws_toHeadS_1 : List Head → Nat → (List Head) → Option (List Head)
  | [], k33, v30 => some v30
  | x34 :: l35, k33, v30 => (gf_laws_toHead x34).bind fun x42 => (idx v30 (k33 : Int)).bind fun x44 => gl_laws_toHeadS_1 l35 (k33 + 1) (List.set v30 (k33 : Int).toNat x42)
def gf_laws_toHeadS (a0 : (List Head)) : Option (List Head) := if (decide (0 ≤ (a0.length : Int)) && fits ((a0.length : Int)).toNat) = true then if fits a0.length = true then ((gl_laws_toHeadS_1 a0 0 (List.replicate ((a0.length : Int)).toNat (⟨(⟨#[]⟩ : Str), 0⟩ : Head))).bind fun q28 => some (q28)) else none else none
def c_laws_toHeadS : Con := ⟨(List Head), (List Head), 75, fun a => [.ro (List.map eHead a)], fun a => gf_laws_toHeadS a, fun a r => ⟨[(false, [sl true 130 (List.map eHead r)])], []⟩, fun a => []⟩
/-! impl.within -/
def ib_impl_within : IC :=
 (.seq (.reg [⟨some 6, .mv (.c (.bool false)), none⟩])
 (.seq (.reg [⟨some 7, .mv (.t 0), none⟩,
 ⟨some 8, .mv (.t 1), none⟩,
 ⟨some 9, .bin .geq (.t 7) (.t 8), none⟩,
 ⟨some 10, .mv (.t 9), none⟩,
 ⟨some 11, .mv (.t 0), some (10, true)⟩,
 ⟨some 12, .mv (.t 2), some (10, true)⟩,
 ⟨some 13, .bin .leq (.t 11) (.t 12), some (10, true)⟩,
 ⟨some 14, .pick (.t 10) (.t 13) (.c (.bool false)), none⟩,
 ⟨some 6, .mv (.t 14), none⟩])
 .ret))
def if_impl_within : IFn := ⟨15, [.inl 6], ib_impl_within, lcF []⟩
def ks_impl_within : List (List (Option Nat)) := [[none]]
def gf_impl_within (a0 : Int) (a1 : Int) (a2 : Int) : Option Bool := if (decide (a0 ≥ a1)) = true then (some ((decide (a0 ≤ a2)))) else (some (false))
def c_impl_within : Con := ⟨Int × Int × Int, Bool, 76, fun a => [.v (.int .i64 a.1), .v (.int .i64 a.2.1), .v (.int .i64 a.2.2)], fun a => gf_impl_within a.1 a.2.1 a.2.2, fun a r => ⟨[(false, [.v (.bool r)])], []⟩, fun a => []⟩
/-! impl.ptOk -/
def ib_impl_ptOk : IC :=
 (.seq (.reg [⟨some 1, .box 66 [none, none] (.t 0), none⟩,
 ⟨some 2, .mv (.c (.bool false)), none⟩])
 (.seq (.reg [⟨some 3, .faddr 0 (.t 1), none⟩,
 ⟨some 4, .load 1 false (.t 3), none⟩,
 ⟨some 5, .call 76 [(false, .t 4), (false, .c (.int .i64 (-1000))), (false, .c (.int .i64 1000))], none⟩,
 ⟨some 6, .mv (.t 5), none⟩,
 ⟨some 7, .faddr 1 (.t 1), some (6, true)⟩,
 ⟨some 8, .load 1 false (.t 7), some (6, true)⟩,
 ⟨some 9, .call 76 [(false, .t 8), (false, .c (.int .i64 (-1000))), (false, .c (.int .i64 1000))], some (6, true)⟩,
 ⟨some 10, .pick (.t 6) (.t 9) (.c (.bool false)), none⟩,
 ⟨some 2, .mv (.t 10), none⟩])
 .ret))
def if_impl_ptOk : IFn := ⟨11, [.inl 2], ib_impl_ptOk, lcF []⟩
def ks_impl_ptOk : List (List (Option Nat)) := [[none]]
def gf_impl_ptOk (a0 : Pt) : Option Bool := (gf_impl_within a0.x (-1000) 1000).bind fun x2 => if x2 = true then ((gf_impl_within a0.y (-1000) 1000).bind fun x4 => some (x4)) else (some (false))
def c_impl_ptOk : Con := ⟨Pt, Bool, 79, fun a => [.agg [.v (.int .i64 a.x), .v (.int .i64 a.y)]], fun a => gf_impl_ptOk a, fun a r => ⟨[(false, [.v (.bool r)])], []⟩, fun a => []⟩
/-! impl.WordOk -/
def ib_impl_WordOk : IC :=
 (.seq (.reg [⟨some 2, .mv (.c (.bool false)), none⟩])
 (.seq (.seq (.reg [⟨some 4, .mv (.t 0), none⟩,
 ⟨some 5, .len true (.t 4), none⟩,
 ⟨some 6, .mv (.c (.int .i64 0)), none⟩])
 (blkC 0 (.loop (.seq (.reg [⟨some 7, .bin .lss (.t 6) (.t 5), none⟩])
 (.seq (.cond (.t 7) .skip
 (.exit 0))
 (.seq (.block 1 (.seq (.reg [⟨some 8, .mv (.t 6), none⟩,
 ⟨some 3, .mv (.t 8), none⟩])
 (.seq (.reg [⟨some 9, .mv (.t 0), none⟩,
 ⟨some 10, .mv (.t 3), none⟩,
 ⟨some 11, .sidx (.t 9) (.t 10), none⟩,
 ⟨some 12, .bin .lss (.t 11) (.c (.int .u8 97)), none⟩,
 ⟨some 13, .mv (.t 12), none⟩,
 ⟨some 14, .mv (.t 0), some (13, false)⟩,
 ⟨some 15, .mv (.t 3), some (13, false)⟩,
 ⟨some 16, .sidx (.t 14) (.t 15), some (13, false)⟩,
 ⟨some 17, .bin .gtr (.t 16) (.c (.int .u8 122)), some (13, false)⟩,
 ⟨some 18, .pick (.t 13) (.c (.bool true)) (.t 17), none⟩])
 (.cond (.t 18) (.seq (.reg [⟨some 2, .mv (.c (.bool false)), none⟩])
 .ret)
 .skip))))
 (.reg [⟨some 19, .bin .add (.t 6) (.c (.int .i64 1)), none⟩,
 ⟨some 6, .mv (.t 19), none⟩])))))))
 (.seq (.reg [⟨some 20, .mv (.t 0), none⟩,
 ⟨some 21, .len true (.t 20), none⟩,
 ⟨some 22, .call 76 [(false, .t 21), (false, .c (.int .i64 1)), (false, .c (.int .i64 6))], none⟩,
 ⟨some 2, .mv (.t 22), none⟩])
 .ret)))
def if_impl_WordOk : IFn := ⟨23, [.inl 2], ib_impl_WordOk, lcF []⟩
def ks_impl_WordOk : List (List (Option Nat)) := [[none]]
def gl_impl_WordOk_1 : List UInt8 → Nat → Option (Bool ⊕ Unit)
  | [], k10 => some (.inr ())
  | x11 :: l12, k10 => if (decide ((x11.toNat : Int) < 97)) = true then (some (.inl (false))) else (if (decide ((x11.toNat : Int) > 122)) = true then (some (.inl (false))) else (gl_impl_WordOk_1 l12 (k10 + 1) ))
def gf_impl_WordOk (a0 : Str) : Option Bool := if fits a0.size = true then ((gl_impl_WordOk_1 a0.data.toList 0 ).bind fun q => match q with | .inl r => some r | .inr q8 => (gf_impl_within (a0.size : Int) 1 6).bind fun x19 => some (x19)) else none
def c_impl_WordOk : Con := ⟨Str, Bool, 80, fun a => [.v (.string a)], fun a => gf_impl_WordOk a, fun a r => ⟨[(false, [.v (.bool r)])], []⟩, fun a => []⟩
/-! impl.ShapeOk -/
def ib_impl_ShapeOk : IC :=
 (.seq (.reg [⟨some 1, .box 226 [none, some 66] (.t 0), none⟩,
 ⟨some 2, .mv (.c (.bool false)), none⟩])
 (.seq (.seq (.reg [⟨some 6, .faddr 1 (.t 1), none⟩,
 ⟨some 7, .load 1 false (.t 6), none⟩,
 ⟨some 8, .len false (.t 7), none⟩,
 ⟨some 9, .mv (.c (.int .i64 0)), none⟩])
 (blkC 0 (.loop (.seq (.reg [⟨some 10, .bin .lss (.t 9) (.t 8), none⟩])
 (.seq (.cond (.t 10) .skip
 (.exit 0))
 (.seq (.block 1 (.seq (.reg [⟨some 11, .mv (.t 9), none⟩,
 ⟨some 12, .iaddr 2 (.t 7) (.t 9), none⟩,
 ⟨some 13, .load 2 true (.t 12), none⟩,
 ⟨some 4, .alloc 66 [.v (.int .i64 0), .v (.int .i64 0)], none⟩,
 ⟨some 3, .mv (.t 11), none⟩,
 ⟨none, .store [none, none] (.t 4) (.t 13), none⟩])
 (.seq (.drw [⟨some 14, .load 2 true (.t 4), none⟩,
 ⟨some 15, .call 79 [(false, .t 14)], none⟩,
 ⟨some 16, .un .not (.t 15), none⟩,
 ⟨some 17, .mv (.t 16), none⟩,
 ⟨some 18, .mv (.t 3), some (17, false)⟩,
 ⟨some 19, .bin .gtr (.t 18) (.c (.int .i64 0)), some (17, false)⟩,
 ⟨some 20, .mv (.t 19), some (17, false)⟩,
 ⟨some 21, .faddr 1 (.t 1), some (20, true)⟩,
 ⟨some 22, .load 1 false (.t 21), some (20, true)⟩,
 ⟨some 23, .mv (.t 3), some (20, true)⟩,
 ⟨some 24, .bin .sub (.t 23) (.c (.int .i64 1)), some (20, true)⟩,
 ⟨some 25, .iaddr 2 (.t 22) (.t 24), some (20, true)⟩,
 ⟨some 26, .load 2 true (.t 25), some (20, true)⟩,
 ⟨some 27, .load 2 true (.t 4), some (20, true)⟩,
 ⟨some 28, .eqs false true [0, 0] (.t 26) (.t 27), some (20, true)⟩,
 ⟨some 29, .pick (.t 20) (.t 28) (.c (.bool false)), some (17, false)⟩,
 ⟨some 30, .pick (.t 17) (.c (.bool true)) (.t 29), none⟩] [(8, 13), (12, 13)])
 (.cond (.t 30) (.seq (.reg [⟨some 2, .mv (.c (.bool false)), none⟩])
 .ret)
 .skip))))
 (.reg [⟨some 31, .bin .add (.t 9) (.c (.int .i64 1)), none⟩,
 ⟨some 9, .mv (.t 31), none⟩])))))))
 (.seq (.reg [⟨some 32, .faddr 1 (.t 1), none⟩,
 ⟨some 33, .load 1 false (.t 32), none⟩,
 ⟨some 34, .len false (.t 33), none⟩,
 ⟨some 5, .mv (.t 34), none⟩])
 (.seq (.seq (.reg [⟨some 35, .faddr 0 (.t 1), none⟩,
 ⟨some 36, .load 1 false (.t 35), none⟩])
 (.block 2 (.seq (.reg [⟨some 38, .bin .eql (.t 36) (.c (.int .i64 1)), none⟩,
 ⟨some 37, .mv (.t 38), none⟩])
 (.cond (.t 37) (.seq (.reg [⟨some 39, .mv (.t 5), none⟩,
 ⟨some 40, .bin .eql (.t 39) (.c (.int .i64 1)), none⟩,
 ⟨some 2, .mv (.t 40), none⟩])
 .ret)
 (.seq (.reg [⟨some 42, .bin .eql (.t 36) (.c (.int .i64 2)), none⟩,
 ⟨some 41, .mv (.t 42), none⟩])
 (.cond (.t 41) (.seq (.reg [⟨some 43, .mv (.t 5), none⟩,
 ⟨some 44, .call 76 [(false, .t 43), (false, .c (.int .i64 2)), (false, .c (.int .i64 6))], none⟩,
 ⟨some 2, .mv (.t 44), none⟩])
 .ret)
 (.seq (.reg [⟨some 46, .bin .eql (.t 36) (.c (.int .i64 3)), none⟩,
 ⟨some 45, .mv (.t 46), none⟩])
 (.cond (.t 45) (.seq (.drw [⟨some 47, .mv (.t 5), none⟩,
 ⟨some 48, .call 76 [(false, .t 47), (false, .c (.int .i64 3)), (false, .c (.int .i64 6))], none⟩,
 ⟨some 49, .mv (.t 48), none⟩,
 ⟨some 50, .faddr 1 (.t 1), some (49, true)⟩,
 ⟨some 51, .load 1 false (.t 50), some (49, true)⟩,
 ⟨some 52, .iaddr 2 (.t 51) (.c (.int .i64 0)), some (49, true)⟩,
 ⟨some 53, .load 2 true (.t 52), some (49, true)⟩,
 ⟨some 54, .faddr 1 (.t 1), some (49, true)⟩,
 ⟨some 55, .load 1 false (.t 54), some (49, true)⟩,
 ⟨some 56, .mv (.t 5), some (49, true)⟩,
 ⟨some 57, .bin .sub (.t 56) (.c (.int .i64 1)), some (49, true)⟩,
 ⟨some 58, .iaddr 2 (.t 55) (.t 57), some (49, true)⟩,
 ⟨some 59, .load 2 true (.t 58), some (49, true)⟩,
 ⟨some 60, .eqs true true [0, 0] (.t 53) (.t 59), some (49, true)⟩,
 ⟨some 61, .pick (.t 49) (.t 60) (.c (.bool false)), none⟩,
 ⟨some 2, .mv (.t 61), none⟩] [(4, 8), (6, 8), (4, 12), (6, 12)])
 .ret)
 .skip))))))))
 (.seq (.reg [⟨some 2, .mv (.c (.bool false)), none⟩])
 .ret)))))
def if_impl_ShapeOk : IFn := ⟨62, [.inl 2], ib_impl_ShapeOk, lcF []⟩
def ks_impl_ShapeOk : List (List (Option Nat)) := [[none]]
def gl_impl_ShapeOk_1 (a0 : Shape) : List Pt → Nat → Option (Bool ⊕ Unit)
  | [], k27 => some (.inr ())
  | x28 :: l29, k27 => (gf_impl_ptOk x28).bind fun x37 => if (!x37) = true then (some (.inl (false))) else (if (decide ((k27 : Int) > 0)) = true then ((idx a0.pts (IntKind.i64.wrap ((k27 : Int) - 1))).bind fun x39 => if ((x39.x == x28.x) && ((x39.y == x28.y) && true)) = true then (some (.inl (false))) else (gl_impl_ShapeOk_1 a0 l29 (k27 + 1) )) else (gl_impl_ShapeOk_1 a0 l29 (k27 + 1) ))
def gf_impl_ShapeOk (a0 : Shape) : Option Bool := if fits a0.pts.length = true then ((gl_impl_ShapeOk_1 a0 a0.pts 0 ).bind fun q => match q with | .inl r => some r | .inr q24 => if (a0.kind == 1) = true then (some (((a0.pts.length : Int) == 1))) else (if (a0.kind == 2) = true then ((gf_impl_within (a0.pts.length : Int) 2 6).bind fun x42 => some (x42)) else (if (a0.kind == 3) = true then ((gf_impl_within (a0.pts.length : Int) 3 6).bind fun x44 => if x44 = true then ((idx a0.pts 0).bind fun x46 => (idx a0.pts (IntKind.i64.wrap ((a0.pts.length : Int) - 1))).bind fun x48 => some ((!((x46.x == x48.x) && ((x46.y == x48.y) && true))))) else (some (false))) else (some (false))))) else none
def c_impl_ShapeOk : Con := ⟨Shape, Bool, 81, fun a => [.agg [.v (.int .i64 a.kind), .ro (List.map ePt a.pts)]], fun a => gf_impl_ShapeOk a, fun a r => ⟨[(false, [.v (.bool r)])], []⟩, fun a => []⟩
/-! impl.FeatOk -/
def ib_impl_FeatOk : IC :=
 (.seq (.reg [⟨some 1, .box 100 [none, none, some 66, some 82] (.t 0), none⟩,
 ⟨some 2, .mv (.c (.bool false)), none⟩])
 (.seq (.seq (.reg [⟨some 5, .faddr 3 (.t 1), none⟩,
 ⟨some 6, .load 1 false (.t 5), none⟩,
 ⟨some 7, .len false (.t 6), none⟩,
 ⟨some 8, .mv (.c (.int .i64 0)), none⟩])
 (blkC 0 (.loop (.seq (.reg [⟨some 9, .bin .lss (.t 8) (.t 7), none⟩])
 (.seq (.cond (.t 9) .skip
 (.exit 0))
 (.seq (.block 1 (.seq (.reg [⟨some 10, .mv (.t 8), none⟩,
 ⟨some 11, .iaddr 2 (.t 6) (.t 8), none⟩,
 ⟨some 12, .load 2 true (.t 11), none⟩,
 ⟨some 4, .alloc 82 [.v (.string ⟨#[]⟩), .v (.string ⟨#[]⟩)], none⟩,
 ⟨some 3, .mv (.t 10), none⟩,
 ⟨none, .store [none, none] (.t 4) (.t 12), none⟩])
 (.seq (.drw [⟨some 13, .faddr 0 (.t 4), none⟩,
 ⟨some 14, .load 1 false (.t 13), none⟩,
 ⟨some 15, .call 80 [(false, .t 14)], none⟩,
 ⟨some 16, .un .not (.t 15), none⟩,
 ⟨some 17, .mv (.t 16), none⟩,
 ⟨some 18, .faddr 1 (.t 4), some (17, false)⟩,
 ⟨some 19, .load 1 false (.t 18), some (17, false)⟩,
 ⟨some 20, .call 80 [(false, .t 19)], some (17, false)⟩,
 ⟨some 21, .un .not (.t 20), some (17, false)⟩,
 ⟨some 22, .pick (.t 17) (.c (.bool true)) (.t 21), none⟩,
 ⟨some 23, .mv (.t 22), none⟩,
 ⟨some 24, .mv (.t 3), some (23, false)⟩,
 ⟨some 25, .bin .gtr (.t 24) (.c (.int .i64 0)), some (23, false)⟩,
 ⟨some 26, .mv (.t 25), some (23, false)⟩,
 ⟨some 27, .faddr 3 (.t 1), some (26, true)⟩,
 ⟨some 28, .load 1 false (.t 27), some (26, true)⟩,
 ⟨some 29, .mv (.t 3), some (26, true)⟩,
 ⟨some 30, .bin .sub (.t 29) (.c (.int .i64 1)), some (26, true)⟩,
 ⟨some 31, .iaddr 2 (.t 28) (.t 30), some (26, true)⟩,
 ⟨some 32, .faddr 0 (.t 31), some (26, true)⟩,
 ⟨some 33, .load 1 false (.t 32), some (26, true)⟩,
 ⟨some 34, .faddr 0 (.t 4), some (26, true)⟩,
 ⟨some 35, .load 1 false (.t 34), some (26, true)⟩,
 ⟨some 36, .bin .geq (.t 33) (.t 35), some (26, true)⟩,
 ⟨some 37, .pick (.t 26) (.t 36) (.c (.bool false)), some (23, false)⟩,
 ⟨some 38, .pick (.t 23) (.c (.bool true)) (.t 37), none⟩] [(15, 22), (20, 22)])
 (.cond (.t 38) (.seq (.reg [⟨some 2, .mv (.c (.bool false)), none⟩])
 .ret)
 .skip))))
 (.reg [⟨some 39, .bin .add (.t 8) (.c (.int .i64 1)), none⟩,
 ⟨some 8, .mv (.t 39), none⟩])))))))
 (.seq (.reg [⟨some 40, .faddr 0 (.t 1), none⟩,
 ⟨some 41, .load 1 false (.t 40), none⟩,
 ⟨some 42, .call 80 [(false, .t 41)], none⟩,
 ⟨some 43, .mv (.t 42), none⟩,
 ⟨some 44, .faddr 1 (.t 1), some (43, true)⟩,
 ⟨some 45, .load 2 true (.t 44), some (43, true)⟩,
 ⟨some 46, .call 81 [(false, .t 45)], some (43, true)⟩,
 ⟨some 47, .pick (.t 43) (.t 46) (.c (.bool false)), none⟩,
 ⟨some 48, .mv (.t 47), none⟩,
 ⟨some 49, .faddr 3 (.t 1), some (48, true)⟩,
 ⟨some 50, .load 1 false (.t 49), some (48, true)⟩,
 ⟨some 51, .len false (.t 50), some (48, true)⟩,
 ⟨some 52, .bin .leq (.t 51) (.c (.int .i64 4)), some (48, true)⟩,
 ⟨some 53, .pick (.t 48) (.t 52) (.c (.bool false)), none⟩,
 ⟨some 2, .mv (.t 53), none⟩])
 .ret)))
def if_impl_FeatOk : IFn := ⟨54, [.inl 2], ib_impl_FeatOk, lcF []⟩
def ks_impl_FeatOk : List (List (Option Nat)) := [[none]]
def gl_impl_FeatOk_1 (a0 : Feat) : List Tag → Nat → Option (Bool ⊕ Unit)
  | [], k33 => some (.inr ())
  | x34 :: l35, k33 => (gf_impl_WordOk x34.key).bind fun x43 => if (!x43) = true then (some (.inl (false))) else ((gf_impl_WordOk x34.val).bind fun x45 => if (!x45) = true then (some (.inl (false))) else (if (decide ((k33 : Int) > 0)) = true then ((idx a0.tags (IntKind.i64.wrap ((k33 : Int) - 1))).bind fun x47 => if (!slt x47.key x34.key) = true then (some (.inl (false))) else (gl_impl_FeatOk_1 a0 l35 (k33 + 1) )) else (gl_impl_FeatOk_1 a0 l35 (k33 + 1) )))
def gf_impl_FeatOk (a0 : Feat) : Option Bool := if fits a0.tags.length = true then ((gl_impl_FeatOk_1 a0 a0.tags 0 ).bind fun q => match q with | .inl r => some r | .inr q30 => (gf_impl_WordOk a0.id).bind fun x50 => if x50 = true then ((gf_impl_ShapeOk a0.shape).bind fun x52 => if x52 = true then (some ((decide ((a0.tags.length : Int) ≤ 4)))) else (some (false))) else (some (false))) else none
def c_impl_FeatOk : Con := ⟨Feat, Bool, 82, fun a => [.agg [.v (.string a.id), .v (.int .i64 a.shape.kind), .ro (List.map ePt a.shape.pts), .ro (List.map eTag a.tags)]], fun a => gf_impl_FeatOk a, fun a r => ⟨[(false, [.v (.bool r)])], []⟩, fun a => []⟩
/-! slices.Equal[[]impl.Pt,impl.Pt] -/
def ib_slices_Equal_impl_Pt_impl_Pt : IC :=
 (.seq (.reg [⟨some 4, .mv (.c (.bool false)), none⟩])
 (.seq (.seq (.reg [⟨some 6, .mv (.t 0), none⟩,
 ⟨some 7, .len false (.t 6), none⟩,
 ⟨some 8, .mv (.t 1), none⟩,
 ⟨some 9, .len false (.t 8), none⟩,
 ⟨some 10, .bin .neq (.t 7) (.t 9), none⟩])
 (.cond (.t 10) (.seq (.reg [⟨some 4, .mv (.c (.bool false)), none⟩])
 .ret)
 .skip))
 (.seq (.seq (.reg [⟨some 11, .mv (.t 0), none⟩,
 ⟨some 12, .len false (.t 11), none⟩,
 ⟨some 13, .mv (.c (.int .i64 0)), none⟩])
 (blkC 0 (.loop (.seq (.reg [⟨some 14, .bin .lss (.t 13) (.t 12), none⟩])
 (.seq (.cond (.t 14) .skip
 (.exit 0))
 (.seq (.block 1 (.seq (.reg [⟨some 15, .mv (.t 13), none⟩,
 ⟨some 5, .mv (.t 15), none⟩])
 (.seq (.drw [⟨some 16, .mv (.t 0), none⟩,
 ⟨some 17, .mv (.t 5), none⟩,
 ⟨some 18, .iaddr 2 (.t 16) (.t 17), none⟩,
 ⟨some 19, .load 2 true (.t 18), none⟩,
 ⟨some 20, .mv (.t 1), none⟩,
 ⟨some 21, .mv (.t 5), none⟩,
 ⟨some 22, .iaddr 2 (.t 20) (.t 21), none⟩,
 ⟨some 23, .load 2 true (.t 22), none⟩,
 ⟨some 24, .eqs true true [0, 0] (.t 19) (.t 23), none⟩] [(3, 7)])
 (.cond (.t 24) (.seq (.reg [⟨some 4, .mv (.c (.bool false)), none⟩])
 .ret)
 .skip))))
 (.reg [⟨some 25, .bin .add (.t 13) (.c (.int .i64 1)), none⟩,
 ⟨some 13, .mv (.t 25), none⟩])))))))
 (.seq (.reg [⟨some 4, .mv (.c (.bool true)), none⟩])
 .ret))))
def if_slices_Equal_impl_Pt_impl_Pt : IFn := ⟨26, [.inl 4], ib_slices_Equal_impl_Pt_impl_Pt, lcF []⟩
def ks_slices_Equal_impl_Pt_impl_Pt : List (List (Option Nat)) := [[none]]
def gl_slices_Equal_impl_Pt_impl_Pt_1 (a1 : (List Pt)) : List Pt → Nat → Option (Bool ⊕ Unit)
  | [], k16 => some (.inr ())
  | x17 :: l18, k16 => (idx a1 (k16 : Int)).bind fun x25 => if (!((x17.x == x25.x) && ((x17.y == x25.y) && true))) = true then (some (.inl (false))) else (gl_slices_Equal_impl_Pt_impl_Pt_1 a1 l18 (k16 + 1) )
def gf_slices_Equal_impl_Pt_impl_Pt (a0 : (List Pt)) (a1 : (List Pt)) : Option Bool := if ((a0.length : Int) != (a1.length : Int)) = true then (some (false)) else (if fits a0.length = true then ((gl_slices_Equal_impl_Pt_impl_Pt_1 a1 a0 0 ).bind fun q => match q with | .inl r => some r | .inr q14 => some (true)) else none)
def c_slices_Equal_impl_Pt_impl_Pt : Con := ⟨(List Pt) × (List Pt), Bool, 127, fun a => [.ro (List.map ePt a.1), .ro (List.map ePt a.2)], fun a => gf_slices_Equal_impl_Pt_impl_Pt a.1 a.2, fun a r => ⟨[(false, [.v (.bool r)])], []⟩, fun a => []⟩
/-! impl.ShapeSame -/
def ib_impl_ShapeSame : IC :=
 (.seq (.reg [⟨some 2, .box 226 [none, some 66] (.t 0), none⟩,
 ⟨some 3, .box 226 [none, some 66] (.t 1), none⟩,
 ⟨some 4, .mv (.c (.bool false)), none⟩])
 (.seq (.reg [⟨some 5, .faddr 0 (.t 2), none⟩,
 ⟨some 6, .load 1 false (.t 5), none⟩,
 ⟨some 7, .faddr 0 (.t 3), none⟩,
 ⟨some 8, .load 1 false (.t 7), none⟩,
 ⟨some 9, .bin .eql (.t 6) (.t 8), none⟩,
 ⟨some 10, .mv (.t 9), none⟩,
 ⟨some 11, .faddr 1 (.t 2), some (10, true)⟩,
 ⟨some 12, .load 1 false (.t 11), some (10, true)⟩,
 ⟨some 13, .faddr 1 (.t 3), some (10, true)⟩,
 ⟨some 14, .load 1 false (.t 13), some (10, true)⟩,
 ⟨some 15, .call 127 [(false, .t 12), (false, .t 14)], some (10, true)⟩,
 ⟨some 16, .pick (.t 10) (.t 15) (.c (.bool false)), none⟩,
 ⟨some 4, .mv (.t 16), none⟩])
 .ret))
def if_impl_ShapeSame : IFn := ⟨17, [.inl 4], ib_impl_ShapeSame, lcF []⟩
def ks_impl_ShapeSame : List (List (Option Nat)) := [[none]]
def gf_impl_ShapeSame (a0 : Shape) (a1 : Shape) : Option Bool := if (a0.kind == a1.kind) = true then ((gf_slices_Equal_impl_Pt_impl_Pt a0.pts a1.pts).bind fun x3 => some (x3)) else (some (false))
def c_impl_ShapeSame : Con := ⟨Shape × Shape, Bool, 128, fun a => [.agg [.v (.int .i64 a.1.kind), .ro (List.map ePt a.1.pts)], .agg [.v (.int .i64 a.2.kind), .ro (List.map ePt a.2.pts)]], fun a => gf_impl_ShapeSame a.1 a.2, fun a r => ⟨[(false, [.v (.bool r)])], []⟩, fun a => []⟩
/-! slices.Equal[[]impl.Tag,impl.Tag] -/
def ib_slices_Equal_impl_Tag_impl_Tag : IC :=
 (.seq (.reg [⟨some 4, .mv (.c (.bool false)), none⟩])
 (.seq (.seq (.reg [⟨some 6, .mv (.t 0), none⟩,
 ⟨some 7, .len false (.t 6), none⟩,
 ⟨some 8, .mv (.t 1), none⟩,
 ⟨some 9, .len false (.t 8), none⟩,
 ⟨some 10, .bin .neq (.t 7) (.t 9), none⟩])
 (.cond (.t 10) (.seq (.reg [⟨some 4, .mv (.c (.bool false)), none⟩])
 .ret)
 .skip))
 (.seq (.seq (.reg [⟨some 11, .mv (.t 0), none⟩,
 ⟨some 12, .len false (.t 11), none⟩,
 ⟨some 13, .mv (.c (.int .i64 0)), none⟩])
 (blkC 0 (.loop (.seq (.reg [⟨some 14, .bin .lss (.t 13) (.t 12), none⟩])
 (.seq (.cond (.t 14) .skip
 (.exit 0))
 (.seq (.block 1 (.seq (.reg [⟨some 15, .mv (.t 13), none⟩,
 ⟨some 5, .mv (.t 15), none⟩])
 (.seq (.drw [⟨some 16, .mv (.t 0), none⟩,
 ⟨some 17, .mv (.t 5), none⟩,
 ⟨some 18, .iaddr 2 (.t 16) (.t 17), none⟩,
 ⟨some 19, .load 2 true (.t 18), none⟩,
 ⟨some 20, .mv (.t 1), none⟩,
 ⟨some 21, .mv (.t 5), none⟩,
 ⟨some 22, .iaddr 2 (.t 20) (.t 21), none⟩,
 ⟨some 23, .load 2 true (.t 22), none⟩,
 ⟨some 24, .eqs true true [2, 2] (.t 19) (.t 23), none⟩] [(3, 7)])
 (.cond (.t 24) (.seq (.reg [⟨some 4, .mv (.c (.bool false)), none⟩])
 .ret)
 .skip))))
 (.reg [⟨some 25, .bin .add (.t 13) (.c (.int .i64 1)), none⟩,
 ⟨some 13, .mv (.t 25), none⟩])))))))
 (.seq (.reg [⟨some 4, .mv (.c (.bool true)), none⟩])
 .ret))))
def if_slices_Equal_impl_Tag_impl_Tag : IFn := ⟨26, [.inl 4], ib_slices_Equal_impl_Tag_impl_Tag, lcF []⟩
def ks_slices_Equal_impl_Tag_impl_Tag : List (List (Option Nat)) := [[none]]
def gl_slices_Equal_impl_Tag_impl_Tag_1 (a1 : (List Tag)) : List Tag → Nat → Option (Bool ⊕ Unit)
  | [], k16 => some (.inr ())
  | x17 :: l18, k16 => (idx a1 (k16 : Int)).bind fun x25 => if (!((x17.key == x25.key) && ((x17.val == x25.val) && true))) = true then (some (.inl (false))) else (gl_slices_Equal_impl_Tag_impl_Tag_1 a1 l18 (k16 + 1) )
def gf_slices_Equal_impl_Tag_impl_Tag (a0 : (List Tag)) (a1 : (List Tag)) : Option Bool := if ((a0.length : Int) != (a1.length : Int)) = true then (some (false)) else (if fits a0.length = true then ((gl_slices_Equal_impl_Tag_impl_Tag_1 a1 a0 0 ).bind fun q => match q with | .inl r => some r | .inr q14 => some (true)) else none)
def c_slices_Equal_impl_Tag_impl_Tag : Con := ⟨(List Tag) × (List Tag), Bool, 129, fun a => [.ro (List.map eTag a.1), .ro (List.map eTag a.2)], fun a => gf_slices_Equal_impl_Tag_impl_Tag a.1 a.2, fun a r => ⟨[(false, [.v (.bool r)])], []⟩, fun a => []⟩
/-! impl.FeatSame -/
def ib_impl_FeatSame : IC :=
 (.seq (.reg [⟨some 2, .box 100 [none, none, some 66, some 82] (.t 0), none⟩,
 ⟨some 3, .box 100 [none, none, some 66, some 82] (.t 1), none⟩,
 ⟨some 4, .mv (.c (.bool false)), none⟩])
 (.seq (.reg [⟨some 5, .faddr 0 (.t 2), none⟩,
 ⟨some 6, .load 1 false (.t 5), none⟩,
 ⟨some 7, .faddr 0 (.t 3), none⟩,
 ⟨some 8, .load 1 false (.t 7), none⟩,
 ⟨some 9, .bin .eql (.t 6) (.t 8), none⟩,
 ⟨some 10, .mv (.t 9), none⟩,
 ⟨some 11, .faddr 1 (.t 2), some (10, true)⟩,
 ⟨some 12, .load 2 true (.t 11), some (10, true)⟩,
 ⟨some 13, .faddr 1 (.t 3), some (10, true)⟩,
 ⟨some 14, .load 2 true (.t 13), some (10, true)⟩,
 ⟨some 15, .call 128 [(false, .t 12), (false, .t 14)], some (10, true)⟩,
 ⟨some 16, .pick (.t 10) (.t 15) (.c (.bool false)), none⟩,
 ⟨some 17, .mv (.t 16), none⟩,
 ⟨some 18, .faddr 3 (.t 2), some (17, true)⟩,
 ⟨some 19, .load 1 false (.t 18), some (17, true)⟩,
 ⟨some 20, .faddr 3 (.t 3), some (17, true)⟩,
 ⟨some 21, .load 1 false (.t 20), some (17, true)⟩,
 ⟨some 22, .call 129 [(false, .t 19), (false, .t 21)], some (17, true)⟩,
 ⟨some 23, .pick (.t 17) (.t 22) (.c (.bool false)), none⟩,
 ⟨some 4, .mv (.t 23), none⟩])
 .ret))
def if_impl_FeatSame : IFn := ⟨24, [.inl 4], ib_impl_FeatSame, lcF []⟩
def ks_impl_FeatSame : List (List (Option Nat)) := [[none]]
def gf_impl_FeatSame (a0 : Feat) (a1 : Feat) : Option Bool := if (seq a0.id a1.id) = true then ((gf_impl_ShapeSame a0.shape a1.shape).bind fun x3 => if x3 = true then ((gf_slices_Equal_impl_Tag_impl_Tag a0.tags a1.tags).bind fun x5 => some (x5)) else (some (false))) else (some (false))
def c_impl_FeatSame : Con := ⟨Feat × Feat, Bool, 130, fun a => [.agg [.v (.string a.1.id), .v (.int .i64 a.1.shape.kind), .ro (List.map ePt a.1.shape.pts), .ro (List.map eTag a.1.tags)], .agg [.v (.string a.2.id), .v (.int .i64 a.2.shape.kind), .ro (List.map ePt a.2.shape.pts), .ro (List.map eTag a.2.tags)]], fun a => gf_impl_FeatSame a.1 a.2, fun a r => ⟨[(false, [.v (.bool r)])], []⟩, fun a => []⟩
/-! slices.EqualFunc[[]impl.Feat,[]impl.Feat,impl.Feat,impl.Feat] -/
def ib_slices_EqualFunc_impl_Feat_impl_Feat_impl_Feat_impl_Feat : IC :=
 (.seq (.reg [⟨some 6, .mv (.c (.bool false)), none⟩])
 (.seq (.seq (.reg [⟨some 10, .mv (.t 0), none⟩,
 ⟨some 11, .len false (.t 10), none⟩,
 ⟨some 12, .mv (.t 1), none⟩,
 ⟨some 13, .len false (.t 12), none⟩,
 ⟨some 14, .bin .neq (.t 11) (.t 13), none⟩])
 (.cond (.t 14) (.seq (.reg [⟨some 6, .mv (.c (.bool false)), none⟩])
 .ret)
 .skip))
 (.seq (.seq (.reg [⟨some 15, .mv (.t 0), none⟩,
 ⟨some 16, .len false (.t 15), none⟩,
 ⟨some 17, .mv (.c (.int .i64 0)), none⟩])
 (blkC 0 (.loop (.seq (.reg [⟨some 18, .bin .lss (.t 17) (.t 16), none⟩])
 (.seq (.cond (.t 18) .skip
 (.exit 0))
 (.seq (.block 1 (.seq (.reg [⟨some 19, .mv (.t 17), none⟩,
 ⟨some 20, .iaddr 4 (.t 15) (.t 17), none⟩,
 ⟨some 21, .load 4 true (.t 20), none⟩,
 ⟨some 8, .alloc 100 [.v (.string ⟨#[]⟩), .v (.int .i64 0), .sl true 66 [], .sl true 82 []], none⟩,
 ⟨some 7, .mv (.t 19), none⟩,
 ⟨none, .store [none, none, some 66, some 82] (.t 8) (.t 21), none⟩])
 (.seq (.reg [⟨some 22, .mv (.t 1), none⟩,
 ⟨some 23, .mv (.t 7), none⟩,
 ⟨some 24, .iaddr 4 (.t 22) (.t 23), none⟩,
 ⟨some 25, .load 4 true (.t 24), none⟩,
 ⟨some 9, .alloc 100 [.v (.string ⟨#[]⟩), .v (.int .i64 0), .sl true 66 [], .sl true 82 []], none⟩,
 ⟨none, .store [none, none, some 66, some 82] (.t 9) (.t 25), none⟩])
 (.seq (.reg [⟨some 26, .mv (.t 2), none⟩,
 ⟨some 27, .load 4 true (.t 8), none⟩,
 ⟨some 28, .load 4 true (.t 9), none⟩,
 ⟨some 29, .calld (.t 26) [(false, .t 27), (false, .t 28)], none⟩,
 ⟨some 30, .un .not (.t 29), none⟩])
 (.cond (.t 30) (.seq (.reg [⟨some 6, .mv (.c (.bool false)), none⟩])
 .ret)
 .skip)))))
 (.reg [⟨some 31, .bin .add (.t 17) (.c (.int .i64 1)), none⟩,
 ⟨some 17, .mv (.t 31), none⟩])))))))
 (.seq (.reg [⟨some 6, .mv (.c (.bool true)), none⟩])
 .ret))))
def if_slices_EqualFunc_impl_Feat_impl_Feat_impl_Feat_impl_Feat : IFn := ⟨32, [.inl 6], ib_slices_EqualFunc_impl_Feat_impl_Feat_impl_Feat_impl_Feat, lcF []⟩
def ks_slices_EqualFunc_impl_Feat_impl_Feat_impl_Feat_impl_Feat : List (List (Option Nat)) := [[none]]
def gl_slices_EqualFunc_impl_Feat_impl_Feat_impl_Feat_impl_Feat__impl_FeatSame_1 (a1 : (List Feat)) : List Feat → Nat → Option (Bool ⊕ Unit)
  | [], k28 => some (.inr ())
  | x29 :: l30, k28 => (idx a1 (k28 : Int)).bind fun x38 => (gf_impl_FeatSame x29 x38).bind fun x41 => if (!x41) = true then (some (.inl (false))) else (gl_slices_EqualFunc_impl_Feat_impl_Feat_impl_Feat_impl_Feat__impl_FeatSame_1 a1 l30 (k28 + 1) )
def gf_slices_EqualFunc_impl_Feat_impl_Feat_impl_Feat_impl_Feat__impl_FeatSame (a0 : (List Feat)) (a1 : (List Feat)) : Option Bool := if ((a0.length : Int) != (a1.length : Int)) = true then (some (false)) else (if fits a0.length = true then ((gl_slices_EqualFunc_impl_Feat_impl_Feat_impl_Feat_impl_Feat__impl_FeatSame_1 a1 a0 0 ).bind fun q => match q with | .inl r => some r | .inr q26 => some (true)) else none)
def c_slices_EqualFunc_impl_Feat_impl_Feat_impl_Feat_impl_Feat__impl_FeatSame : Con := ⟨(List Feat) × (List Feat), Bool, 325, fun a => [.ro (List.map (eFeat false) a.1), .ro (List.map (eFeat false) a.2), .fn 130 []], fun a => gf_slices_EqualFunc_impl_Feat_impl_Feat_impl_Feat_impl_Feat__impl_FeatSame a.1 a.2, fun a r => ⟨[(false, [.v (.bool r)])], []⟩, fun a => []⟩
/-! impl.SheetSame -/
def ib_impl_SheetSame : IC :=
 (.seq (.reg [⟨some 4, .mv (.c (.bool false)), none⟩])
 (.seq (.reg [⟨some 5, .mv (.t 0), none⟩,
 ⟨some 6, .mv (.t 1), none⟩,
 ⟨some 7, .call 325 [(false, .t 5), (false, .t 6), (false, .f 130)], none⟩,
 ⟨some 4, .mv (.t 7), none⟩])
 .ret))
def if_impl_SheetSame : IFn := ⟨8, [.inl 4], ib_impl_SheetSame, lcF []⟩
def ks_impl_SheetSame : List (List (Option Nat)) := [[none]]
def gf_impl_SheetSame (a0 : (List Feat)) (a1 : (List Feat)) : Option Bool := (gf_slices_EqualFunc_impl_Feat_impl_Feat_impl_Feat_impl_Feat__impl_FeatSame a0 a1).bind fun x1 => some (x1)
def c_impl_SheetSame : Con := ⟨(List Feat) × (List Feat), Bool, 220, fun a => [.ro (List.map (eFeat false) a.1), .ro (List.map (eFeat false) a.2)], fun a => gf_impl_SheetSame a.1 a.2, fun a r => ⟨[(false, [.v (.bool r)])], []⟩, fun a => []⟩
/-! slices.Equal[[]int,int] -/
def ib_slices_Equal_int_int : IC :=
 (.seq (.reg [⟨some 4, .mv (.c (.bool false)), none⟩])
 (.seq (.seq (.reg [⟨some 6, .mv (.t 0), none⟩,
 ⟨some 7, .len false (.t 6), none⟩,
 ⟨some 8, .mv (.t 1), none⟩,
 ⟨some 9, .len false (.t 8), none⟩,
 ⟨some 10, .bin .neq (.t 7) (.t 9), none⟩])
 (.cond (.t 10) (.seq (.reg [⟨some 4, .mv (.c (.bool false)), none⟩])
 .ret)
 .skip))
 (.seq (.seq (.reg [⟨some 11, .mv (.t 0), none⟩,
 ⟨some 12, .len false (.t 11), none⟩,
 ⟨some 13, .mv (.c (.int .i64 0)), none⟩])
 (blkC 0 (.loop (.seq (.reg [⟨some 14, .bin .lss (.t 13) (.t 12), none⟩])
 (.seq (.cond (.t 14) .skip
 (.exit 0))
 (.seq (.block 1 (.seq (.reg [⟨some 15, .mv (.t 13), none⟩,
 ⟨some 5, .mv (.t 15), none⟩])
 (.seq (.drw [⟨some 16, .mv (.t 0), none⟩,
 ⟨some 17, .mv (.t 5), none⟩,
 ⟨some 18, .iaddr 1 (.t 16) (.t 17), none⟩,
 ⟨some 19, .load 1 false (.t 18), none⟩,
 ⟨some 20, .mv (.t 1), none⟩,
 ⟨some 21, .mv (.t 5), none⟩,
 ⟨some 22, .iaddr 1 (.t 20) (.t 21), none⟩,
 ⟨some 23, .load 1 false (.t 22), none⟩,
 ⟨some 24, .bin .neq (.t 19) (.t 23), none⟩] [(3, 7)])
 (.cond (.t 24) (.seq (.reg [⟨some 4, .mv (.c (.bool false)), none⟩])
 .ret)
 .skip))))
 (.reg [⟨some 25, .bin .add (.t 13) (.c (.int .i64 1)), none⟩,
 ⟨some 13, .mv (.t 25), none⟩])))))))
 (.seq (.reg [⟨some 4, .mv (.c (.bool true)), none⟩])
 .ret))))
def if_slices_Equal_int_int : IFn := ⟨26, [.inl 4], ib_slices_Equal_int_int, lcF []⟩
def ks_slices_Equal_int_int : List (List (Option Nat)) := [[none]]
def gl_slices_Equal_int_int_1 (a1 : (List Int)) : List Int → Nat → Option (Bool ⊕ Unit)
  | [], k16 => some (.inr ())
  | x17 :: l18, k16 => (idx a1 (k16 : Int)).bind fun x25 => if (x17 != x25) = true then (some (.inl (false))) else (gl_slices_Equal_int_int_1 a1 l18 (k16 + 1) )
def gf_slices_Equal_int_int (a0 : (List Int)) (a1 : (List Int)) : Option Bool := if ((a0.length : Int) != (a1.length : Int)) = true then (some (false)) else (if fits a0.length = true then ((gl_slices_Equal_int_int_1 a1 a0 0 ).bind fun q => match q with | .inl r => some r | .inr q14 => some (true)) else none)
def c_slices_Equal_int_int : Con := ⟨(List Int) × (List Int), Bool, 358, fun a => [.ro (List.map eInt a.1), .ro (List.map eInt a.2)], fun a => gf_slices_Equal_int_int a.1 a.2, fun a r => ⟨[(false, [.v (.bool r)])], []⟩, fun a => []⟩
/-! impl.sameCommit -/
def ib_impl_sameCommit : IC :=
 (.seq (.reg [⟨some 2, .box 115 [some 17, some 100, none] (.t 0), none⟩,
 ⟨some 3, .box 115 [some 17, some 100, none] (.t 1), none⟩,
 ⟨some 4, .mv (.c (.bool false)), none⟩])
 (.seq (.reg [⟨some 5, .faddr 0 (.t 2), none⟩,
 ⟨some 6, .load 1 false (.t 5), none⟩,
 ⟨some 7, .faddr 0 (.t 3), none⟩,
 ⟨some 8, .load 1 false (.t 7), none⟩,
 ⟨some 9, .call 358 [(false, .t 6), (false, .t 8)], none⟩,
 ⟨some 10, .mv (.t 9), none⟩,
 ⟨some 11, .faddr 1 (.t 2), some (10, true)⟩,
 ⟨some 12, .load 1 false (.t 11), some (10, true)⟩,
 ⟨some 13, .faddr 1 (.t 3), some (10, true)⟩,
 ⟨some 14, .load 1 false (.t 13), some (10, true)⟩,
 ⟨some 15, .call 220 [(false, .t 12), (false, .t 14)], some (10, true)⟩,
 ⟨some 16, .pick (.t 10) (.t 15) (.c (.bool false)), none⟩,
 ⟨some 17, .mv (.t 16), none⟩,
 ⟨some 18, .faddr 2 (.t 2), some (17, true)⟩,
 ⟨some 19, .load 1 false (.t 18), some (17, true)⟩,
 ⟨some 20, .faddr 2 (.t 3), some (17, true)⟩,
 ⟨some 21, .load 1 false (.t 20), some (17, true)⟩,
 ⟨some 22, .bin .eql (.t 19) (.t 21), some (17, true)⟩,
 ⟨some 23, .pick (.t 17) (.t 22) (.c (.bool false)), none⟩,
 ⟨some 4, .mv (.t 23), none⟩])
 .ret))
def if_impl_sameCommit : IFn := ⟨24, [.inl 4], ib_impl_sameCommit, lcF []⟩
def ks_impl_sameCommit : List (List (Option Nat)) := [[none]]
def gf_impl_sameCommit (a0 : Commit) (a1 : Commit) : Option Bool := (gf_slices_Equal_int_int a0.up a1.up).bind fun x3 => if x3 = true then ((gf_impl_SheetSame a0.sheet a1.sheet).bind fun x5 => if x5 = true then (some ((seq a0.note a1.note))) else (some (false))) else (some (false))
def c_impl_sameCommit : Con := ⟨Commit × Commit, Bool, 330, fun a => [.agg [.ro (List.map eInt a.1.up), .ro (List.map (eFeat false) a.1.sheet), .v (.string a.1.note)], .agg [.ro (List.map eInt a.2.up), .ro (List.map (eFeat false) a.2.sheet), .v (.string a.2.note)]], fun a => gf_impl_sameCommit a.1 a.2, fun a r => ⟨[(false, [.v (.bool r)])], []⟩, fun a => []⟩
/-! slices.Index[[]int,int] -/
def ib_slices_Index_int_int : IC :=
 (.seq (.reg [⟨some 4, .mv (.c (.int .i64 0)), none⟩])
 (.seq (.seq (.reg [⟨some 6, .mv (.t 0), none⟩,
 ⟨some 7, .len false (.t 6), none⟩,
 ⟨some 8, .mv (.c (.int .i64 0)), none⟩])
 (blkC 0 (.loop (.seq (.reg [⟨some 9, .bin .lss (.t 8) (.t 7), none⟩])
 (.seq (.cond (.t 9) .skip
 (.exit 0))
 (.seq (.block 1 (.seq (.reg [⟨some 10, .mv (.t 8), none⟩,
 ⟨some 5, .mv (.t 10), none⟩])
 (.seq (.reg [⟨some 11, .mv (.t 1), none⟩,
 ⟨some 12, .mv (.t 0), none⟩,
 ⟨some 13, .mv (.t 5), none⟩,
 ⟨some 14, .iaddr 1 (.t 12) (.t 13), none⟩,
 ⟨some 15, .load 1 false (.t 14), none⟩,
 ⟨some 16, .bin .eql (.t 11) (.t 15), none⟩])
 (.cond (.t 16) (.seq (.reg [⟨some 17, .mv (.t 5), none⟩,
 ⟨some 4, .mv (.t 17), none⟩])
 .ret)
 .skip))))
 (.reg [⟨some 18, .bin .add (.t 8) (.c (.int .i64 1)), none⟩,
 ⟨some 8, .mv (.t 18), none⟩])))))))
 (.seq (.reg [⟨some 4, .mv (.c (.int .i64 (-1))), none⟩])
 .ret)))
def if_slices_Index_int_int : IFn := ⟨19, [.inl 4], ib_slices_Index_int_int, lcF []⟩
def ks_slices_Index_int_int : List (List (Option Nat)) := [[none]]
def gl_slices_Index_int_int_1 (a1 : Int) : List Int → Nat → Option (Int ⊕ Unit)
  | [], k10 => some (.inr ())
  | x11 :: l12, k10 => if (a1 == x11) = true then (some (.inl ((k10 : Int)))) else (gl_slices_Index_int_int_1 a1 l12 (k10 + 1) )
def gf_slices_Index_int_int (a0 : (List Int)) (a1 : Int) : Option Int := if fits a0.length = true then ((gl_slices_Index_int_int_1 a1 a0 0 ).bind fun q => match q with | .inl r => some r | .inr q8 => some ((-1))) else none
def c_slices_Index_int_int : Con := ⟨(List Int) × Int, Int, 85, fun a => [.ro (List.map eInt a.1), .v (.int .i64 a.2)], fun a => gf_slices_Index_int_int a.1 a.2, fun a r => ⟨[(false, [.v (.int .i64 r)])], []⟩, fun a => []⟩
/-! impl.SheetOk -/
def ib_impl_SheetOk : IC :=
 (.seq (.reg [⟨some 2, .mv (.c (.bool false)), none⟩])
 (.seq (.seq (.reg [⟨some 5, .mv (.t 0), none⟩,
 ⟨some 6, .len false (.t 5), none⟩,
 ⟨some 7, .mv (.c (.int .i64 0)), none⟩])
 (blkC 0 (.loop (.seq (.reg [⟨some 8, .bin .lss (.t 7) (.t 6), none⟩])
 (.seq (.cond (.t 8) .skip
 (.exit 0))
 (.seq (.block 1 (.seq (.reg [⟨some 9, .mv (.t 7), none⟩,
 ⟨some 10, .iaddr 4 (.t 5) (.t 7), none⟩,
 ⟨some 11, .load 4 true (.t 10), none⟩,
 ⟨some 4, .alloc 100 [.v (.string ⟨#[]⟩), .v (.int .i64 0), .sl true 66 [], .sl true 82 []], none⟩,
 ⟨some 3, .mv (.t 9), none⟩,
 ⟨none, .store [none, none, some 66, some 82] (.t 4) (.t 11), none⟩])
 (.seq (.drw [⟨some 12, .load 4 true (.t 4), none⟩,
 ⟨some 13, .call 82 [(false, .t 12)], none⟩,
 ⟨some 14, .un .not (.t 13), none⟩,
 ⟨some 15, .mv (.t 14), none⟩,
 ⟨some 16, .mv (.t 3), some (15, false)⟩,
 ⟨some 17, .bin .gtr (.t 16) (.c (.int .i64 0)), some (15, false)⟩,
 ⟨some 18, .mv (.t 17), some (15, false)⟩,
 ⟨some 19, .mv (.t 0), some (18, true)⟩,
 ⟨some 20, .mv (.t 3), some (18, true)⟩,
 ⟨some 21, .bin .sub (.t 20) (.c (.int .i64 1)), some (18, true)⟩,
 ⟨some 22, .iaddr 4 (.t 19) (.t 21), some (18, true)⟩,
 ⟨some 23, .faddr 0 (.t 22), some (18, true)⟩,
 ⟨some 24, .load 1 false (.t 23), some (18, true)⟩,
 ⟨some 25, .faddr 0 (.t 4), some (18, true)⟩,
 ⟨some 26, .load 1 false (.t 25), some (18, true)⟩,
 ⟨some 27, .bin .geq (.t 24) (.t 26), some (18, true)⟩,
 ⟨some 28, .pick (.t 18) (.t 27) (.c (.bool false)), some (15, false)⟩,
 ⟨some 29, .pick (.t 15) (.c (.bool true)) (.t 28), none⟩] [(12, 14)])
 (.cond (.t 29) (.seq (.reg [⟨some 2, .mv (.c (.bool false)), none⟩])
 .ret)
 .skip))))
 (.reg [⟨some 30, .bin .add (.t 7) (.c (.int .i64 1)), none⟩,
 ⟨some 7, .mv (.t 30), none⟩])))))))
 (.seq (.reg [⟨some 31, .mv (.t 0), none⟩,
 ⟨some 32, .len false (.t 31), none⟩,
 ⟨some 33, .bin .leq (.t 32) (.c (.int .i64 8)), none⟩,
 ⟨some 2, .mv (.t 33), none⟩])
 .ret)))
def if_impl_SheetOk : IFn := ⟨34, [.inl 2], ib_impl_SheetOk, lcF []⟩
def ks_impl_SheetOk : List (List (Option Nat)) := [[none]]
def gl_impl_SheetOk_1 (a0 : (List Feat)) : List Feat → Nat → Option (Bool ⊕ Unit)
  | [], k23 => some (.inr ())
  | x24 :: l25, k23 => (gf_impl_FeatOk x24).bind fun x33 => if (!x33) = true then (some (.inl (false))) else (if (decide ((k23 : Int) > 0)) = true then ((idx a0 (IntKind.i64.wrap ((k23 : Int) - 1))).bind fun x35 => if (!slt x35.id x24.id) = true then (some (.inl (false))) else (gl_impl_SheetOk_1 a0 l25 (k23 + 1) )) else (gl_impl_SheetOk_1 a0 l25 (k23 + 1) ))
def gf_impl_SheetOk (a0 : (List Feat)) : Option Bool := if fits a0.length = true then ((gl_impl_SheetOk_1 a0 a0 0 ).bind fun q => match q with | .inl r => some r | .inr q21 => some ((decide ((a0.length : Int) ≤ 8)))) else none
def c_impl_SheetOk : Con := ⟨(List Feat), Bool, 86, fun a => [.ro (List.map (eFeat false) a)], fun a => gf_impl_SheetOk a, fun a r => ⟨[(false, [.v (.bool r)])], []⟩, fun a => []⟩
/-! (impl.Repo).commit$1 -/
def ib_impl_Repo_commit_1 : IC :=
 (.seq (.reg [⟨some 2, .box 115 [some 17, some 100, none] (.t 0), none⟩,
 ⟨some 3, .mv (.c (.bool false)), none⟩])
 (.seq (.reg [⟨some 4, .load 3 true (.t 2), none⟩,
 ⟨some 5, .load 3 true (.t 1), none⟩,
 ⟨some 6, .call 330 [(false, .t 4), (false, .t 5)], none⟩,
 ⟨some 3, .mv (.t 6), none⟩])
 .ret))
def if_impl_Repo_commit_1 : IFn := ⟨7, [.inl 3], ib_impl_Repo_commit_1, lcF []⟩
def ks_impl_Repo_commit_1 : List (List (Option Nat)) := [[none]]
def gf_impl_Repo_commit_1 (a0 : Commit) (a1 : Commit) : Option Bool := (gf_impl_sameCommit a0 a1).bind fun x2 => some (x2)
def c_impl_Repo_commit_1 : Con := ⟨Commit × Commit, Bool, 83, fun a => [.agg [.ro (List.map eInt a.1.up), .ro (List.map (eFeat false) a.1.sheet), .v (.string a.1.note)], .rptr [.sl false 1 (List.map eInt a.2.up), .sl false 4 (List.map (eFeat false) a.2.sheet), .v (.string a.2.note)]], fun a => gf_impl_Repo_commit_1 a.1 a.2, fun a r => ⟨[(false, [.v (.bool r)])], []⟩, fun a => []⟩
/-! slices.IndexFunc[[]impl.Commit,impl.Commit] -/
def ib_slices_IndexFunc_impl_Commit_impl_Commit : IC :=
 (.seq (.reg [⟨some 4, .mv (.c (.int .i64 0)), none⟩])
 (.seq (.seq (.reg [⟨some 6, .mv (.t 0), none⟩,
 ⟨some 7, .len false (.t 6), none⟩,
 ⟨some 8, .mv (.c (.int .i64 0)), none⟩])
 (blkC 0 (.loop (.seq (.reg [⟨some 9, .bin .lss (.t 8) (.t 7), none⟩])
 (.seq (.cond (.t 9) .skip
 (.exit 0))
 (.seq (.block 1 (.seq (.reg [⟨some 10, .mv (.t 8), none⟩,
 ⟨some 5, .mv (.t 10), none⟩])
 (.seq (.reg [⟨some 11, .mv (.t 1), none⟩,
 ⟨some 12, .mv (.t 0), none⟩,
 ⟨some 13, .mv (.t 5), none⟩,
 ⟨some 14, .iaddr 3 (.t 12) (.t 13), none⟩,
 ⟨some 15, .load 3 true (.t 14), none⟩,
 ⟨some 16, .calld (.t 11) [(false, .t 15)], none⟩])
 (.cond (.t 16) (.seq (.reg [⟨some 17, .mv (.t 5), none⟩,
 ⟨some 4, .mv (.t 17), none⟩])
 .ret)
 .skip))))
 (.reg [⟨some 18, .bin .add (.t 8) (.c (.int .i64 1)), none⟩,
 ⟨some 8, .mv (.t 18), none⟩])))))))
 (.seq (.reg [⟨some 4, .mv (.c (.int .i64 (-1))), none⟩])
 .ret)))
def if_slices_IndexFunc_impl_Commit_impl_Commit : IFn := ⟨19, [.inl 4], ib_slices_IndexFunc_impl_Commit_impl_Commit, lcF []⟩
def ks_slices_IndexFunc_impl_Commit_impl_Commit : List (List (Option Nat)) := [[none]]
def gl_slices_IndexFunc_impl_Commit_impl_Commit__impl_Repo_commit_1_1 (a1 : Commit) : List Commit → Nat → Option (Int ⊕ Unit)
  | [], k16 => some (.inr ())
  | x17 :: l18, k16 => (gf_impl_Repo_commit_1 x17 a1).bind fun x25 => if x25 = true then (some (.inl ((k16 : Int)))) else (gl_slices_IndexFunc_impl_Commit_impl_Commit__impl_Repo_commit_1_1 a1 l18 (k16 + 1) )
def gf_slices_IndexFunc_impl_Commit_impl_Commit__impl_Repo_commit_1 (a0 : (List Commit)) (a1 : Commit) : Option Int := if fits a0.length = true then ((gl_slices_IndexFunc_impl_Commit_impl_Commit__impl_Repo_commit_1_1 a1 a0 0 ).bind fun q => match q with | .inl r => some r | .inr q14 => some ((-1))) else none
def c_slices_IndexFunc_impl_Commit_impl_Commit__impl_Repo_commit_1 : Con := ⟨(List Commit) × Commit, Int, 84, fun a => [.ro (List.map (eCommit false) a.1), .fn 83 [.rptr [.sl false 1 (List.map eInt a.2.up), .sl false 4 (List.map (eFeat false) a.2.sheet), .v (.string a.2.note)]]], fun a => gf_slices_IndexFunc_impl_Commit_impl_Commit__impl_Repo_commit_1 a.1 a.2, fun a r => ⟨[(false, [.v (.int .i64 r)])], []⟩, fun a => []⟩
/-! (impl.Repo).commit -/
def ib_impl_Repo_commit : IC :=
 (.seq (.reg [⟨some 2, .box 210 [some 115, some 130] (.t 0), none⟩,
 ⟨some 3, .box 115 [some 17, some 100, none] (.t 1), none⟩,
 ⟨some 4, .mv (.c (.int .i64 0)), none⟩])
 (.seq (.reg [⟨some 5, .faddr 0 (.t 2), none⟩,
 ⟨some 6, .load 1 false (.t 5), none⟩,
 ⟨some 7, .mkf 83 [.t 3], none⟩,
 ⟨some 8, .call 84 [(false, .t 6), (false, .t 7)], none⟩,
 ⟨some 4, .mv (.t 8), none⟩])
 .ret))
def if_impl_Repo_commit : IFn := ⟨9, [.inl 4], ib_impl_Repo_commit, lcF []⟩
def ks_impl_Repo_commit : List (List (Option Nat)) := [[none]]
def gf_impl_Repo_commit (a0 : Repo) (a1 : Commit) : Option Int := (gf_slices_IndexFunc_impl_Commit_impl_Commit__impl_Repo_commit_1 a0.commits a1).bind fun x3 => some (x3)
def c_impl_Repo_commit : Con := ⟨Repo × Commit, Int, 87, fun a => [.agg [.ro (List.map (eCommit false) a.1.commits), .ro (List.map eHead a.1.heads)], .agg [.ro (List.map eInt a.2.up), .ro (List.map (eFeat false) a.2.sheet), .v (.string a.2.note)]], fun a => gf_impl_Repo_commit a.1 a.2, fun a r => ⟨[(false, [.v (.int .i64 r)])], []⟩, fun a => []⟩
/-! slices.Contains[[]int,int] -/
def ib_slices_Contains_int_int : IC :=
 (.seq (.reg [⟨some 4, .mv (.c (.bool false)), none⟩])
 (.seq (.reg [⟨some 5, .mv (.t 0), none⟩,
 ⟨some 6, .mv (.t 1), none⟩,
 ⟨some 7, .call 85 [(false, .t 5), (false, .t 6)], none⟩,
 ⟨some 8, .bin .geq (.t 7) (.c (.int .i64 0)), none⟩,
 ⟨some 4, .mv (.t 8), none⟩])
 .ret))
def if_slices_Contains_int_int : IFn := ⟨9, [.inl 4], ib_slices_Contains_int_int, lcF []⟩
def ks_slices_Contains_int_int : List (List (Option Nat)) := [[none]]
def gf_slices_Contains_int_int (a0 : (List Int)) (a1 : Int) : Option Bool := (gf_slices_Index_int_int a0 a1).bind fun x1 => some ((decide (x1 ≥ 0)))
def c_slices_Contains_int_int : Con := ⟨(List Int) × Int, Bool, 88, fun a => [.ro (List.map eInt a.1), .v (.int .i64 a.2)], fun a => gf_slices_Contains_int_int a.1 a.2, fun a r => ⟨[(false, [.v (.bool r)])], []⟩, fun a => []⟩
/-! (impl.Repo).head$1 -/
def ib_impl_Repo_head_1 : IC :=
 (.seq (.reg [⟨some 2, .box 130 [none, none] (.t 0), none⟩,
 ⟨some 3, .mv (.c (.bool false)), none⟩])
 (.seq (.reg [⟨some 4, .faddr 0 (.t 2), none⟩,
 ⟨some 5, .load 1 false (.t 4), none⟩,
 ⟨some 6, .load 1 false (.t 1), none⟩,
 ⟨some 7, .bin .eql (.t 5) (.t 6), none⟩,
 ⟨some 3, .mv (.t 7), none⟩])
 .ret))
def if_impl_Repo_head_1 : IFn := ⟨8, [.inl 3], ib_impl_Repo_head_1, lcF []⟩
def ks_impl_Repo_head_1 : List (List (Option Nat)) := [[none]]
def gf_impl_Repo_head_1 (a0 : Head) (a1 : Str) : Option Bool := some ((seq a0.name a1))
def c_impl_Repo_head_1 : Con := ⟨Head × Str, Bool, 77, fun a => [.agg [.v (.string a.1.name), .v (.int .i64 a.1.at_)], .rptr [.v (.string a.2)]], fun a => gf_impl_Repo_head_1 a.1 a.2, fun a r => ⟨[(false, [.v (.bool r)])], []⟩, fun a => []⟩
/-! slices.IndexFunc[[]impl.Head,impl.Head] -/
def ib_slices_IndexFunc_impl_Head_impl_Head : IC :=
 (.seq (.reg [⟨some 4, .mv (.c (.int .i64 0)), none⟩])
 (.seq (.seq (.reg [⟨some 6, .mv (.t 0), none⟩,
 ⟨some 7, .len false (.t 6), none⟩,
 ⟨some 8, .mv (.c (.int .i64 0)), none⟩])
 (blkC 0 (.loop (.seq (.reg [⟨some 9, .bin .lss (.t 8) (.t 7), none⟩])
 (.seq (.cond (.t 9) .skip
 (.exit 0))
 (.seq (.block 1 (.seq (.reg [⟨some 10, .mv (.t 8), none⟩,
 ⟨some 5, .mv (.t 10), none⟩])
 (.seq (.reg [⟨some 11, .mv (.t 1), none⟩,
 ⟨some 12, .mv (.t 0), none⟩,
 ⟨some 13, .mv (.t 5), none⟩,
 ⟨some 14, .iaddr 2 (.t 12) (.t 13), none⟩,
 ⟨some 15, .load 2 true (.t 14), none⟩,
 ⟨some 16, .calld (.t 11) [(false, .t 15)], none⟩])
 (.cond (.t 16) (.seq (.reg [⟨some 17, .mv (.t 5), none⟩,
 ⟨some 4, .mv (.t 17), none⟩])
 .ret)
 .skip))))
 (.reg [⟨some 18, .bin .add (.t 8) (.c (.int .i64 1)), none⟩,
 ⟨some 8, .mv (.t 18), none⟩])))))))
 (.seq (.reg [⟨some 4, .mv (.c (.int .i64 (-1))), none⟩])
 .ret)))
def if_slices_IndexFunc_impl_Head_impl_Head : IFn := ⟨19, [.inl 4], ib_slices_IndexFunc_impl_Head_impl_Head, lcF []⟩
def ks_slices_IndexFunc_impl_Head_impl_Head : List (List (Option Nat)) := [[none]]
def gl_slices_IndexFunc_impl_Head_impl_Head__impl_Repo_head_1_1 (a1 : Str) : List Head → Nat → Option (Int ⊕ Unit)
  | [], k16 => some (.inr ())
  | x17 :: l18, k16 => (gf_impl_Repo_head_1 x17 a1).bind fun x25 => if x25 = true then (some (.inl ((k16 : Int)))) else (gl_slices_IndexFunc_impl_Head_impl_Head__impl_Repo_head_1_1 a1 l18 (k16 + 1) )
def gf_slices_IndexFunc_impl_Head_impl_Head__impl_Repo_head_1 (a0 : (List Head)) (a1 : Str) : Option Int := if fits a0.length = true then ((gl_slices_IndexFunc_impl_Head_impl_Head__impl_Repo_head_1_1 a1 a0 0 ).bind fun q => match q with | .inl r => some r | .inr q14 => some ((-1))) else none
def c_slices_IndexFunc_impl_Head_impl_Head__impl_Repo_head_1 : Con := ⟨(List Head) × Str, Int, 78, fun a => [.ro (List.map eHead a.1), .fn 77 [.rptr [.v (.string a.2)]]], fun a => gf_slices_IndexFunc_impl_Head_impl_Head__impl_Repo_head_1 a.1 a.2, fun a r => ⟨[(false, [.v (.int .i64 r)])], []⟩, fun a => []⟩
/-! (impl.Repo).head -/
def ib_impl_Repo_head : IC :=
 (.seq (.reg [⟨some 2, .box 210 [some 115, some 130] (.t 0), none⟩,
 ⟨some 3, .box 49 [none] (.t 1), none⟩,
 ⟨some 4, .mv (.c (.int .i64 0)), none⟩])
 (.seq (.reg [⟨some 5, .faddr 1 (.t 2), none⟩,
 ⟨some 6, .load 1 false (.t 5), none⟩,
 ⟨some 7, .mkf 77 [.t 3], none⟩,
 ⟨some 8, .call 78 [(false, .t 6), (false, .t 7)], none⟩,
 ⟨some 4, .mv (.t 8), none⟩])
 .ret))
def if_impl_Repo_head : IFn := ⟨9, [.inl 4], ib_impl_Repo_head, lcF []⟩
def ks_impl_Repo_head : List (List (Option Nat)) := [[none]]
def gf_impl_Repo_head (a0 : Repo) (a1 : Str) : Option Int := (gf_slices_IndexFunc_impl_Head_impl_Head__impl_Repo_head_1 a0.heads a1).bind fun x3 => some (x3)
def c_impl_Repo_head : Con := ⟨Repo × Str, Int, 89, fun a => [.agg [.ro (List.map (eCommit false) a.1.commits), .ro (List.map eHead a.1.heads)], .v (.string a.2)], fun a => gf_impl_Repo_head a.1 a.2, fun a r => ⟨[(false, [.v (.int .i64 r)])], []⟩, fun a => []⟩
/-! (impl.Repo).version -/
def ib_impl_Repo_version : IC :=
 (.seq (.reg [⟨some 2, .box 210 [some 115, some 130] (.t 0), none⟩,
 ⟨some 4, .mv (.c (.bool false)), none⟩])
 (.seq (.reg [⟨some 5, .mv (.t 1), none⟩,
 ⟨some 6, .faddr 0 (.t 2), none⟩,
 ⟨some 7, .load 1 false (.t 6), none⟩,
 ⟨some 8, .len false (.t 7), none⟩,
 ⟨some 9, .bin .sub (.t 8) (.c (.int .i64 1)), none⟩,
 ⟨some 10, .call 76 [(false, .t 5), (false, .c (.int .i64 0)), (false, .t 9)], none⟩,
 ⟨some 4, .mv (.t 10), none⟩])
 .ret))
def if_impl_Repo_version : IFn := ⟨11, [.inl 4], ib_impl_Repo_version, lcF []⟩
def ks_impl_Repo_version : List (List (Option Nat)) := [[none]]
def gf_impl_Repo_version (a0 : Repo) (a1 : Int) : Option Bool := (gf_impl_within a1 0 (IntKind.i64.wrap ((a0.commits.length : Int) - 1))).bind fun x2 => some (x2)
def c_impl_Repo_version : Con := ⟨Repo × Int, Bool, 90, fun a => [.agg [.ro (List.map (eCommit false) a.1.commits), .ro (List.map eHead a.1.heads)], .v (.int .i64 a.2)], fun a => gf_impl_Repo_version a.1 a.2, fun a r => ⟨[(false, [.v (.bool r)])], []⟩, fun a => []⟩
/-! impl.cloneShape -/
def ib_impl_cloneShape : IC :=
 (.seq (.reg [⟨some 1, .box 226 [none, some 66] (.t 0), none⟩,
 ⟨some 2, .alloc 226 [.v (.int .i64 0), .sl true 66 []], none⟩])
 (.seq (.drw [⟨some 3, .faddr 0 (.t 1), none⟩,
 ⟨some 4, .load 1 false (.t 3), none⟩,
 ⟨some 5, .lit 66 [none, none] [.v (.int .i64 0), .v (.int .i64 0)] 0 [], none⟩,
 ⟨some 6, .faddr 1 (.t 1), none⟩,
 ⟨some 7, .load 1 false (.t 6), none⟩,
 ⟨some 8, .app 66 false (.t 5) (.t 7), none⟩,
 ⟨some 9, .build [.v (.int .i64 0), .nil] [(0, 1, .t 4), (1, 1, .t 8)], none⟩,
 ⟨none, .store [none, some 66] (.t 2) (.t 9), none⟩] [(1, 2), (1, 4), (2, 4), (1, 5)])
 .ret))
def if_impl_cloneShape : IFn := ⟨10, [.inr (2, 2)], ib_impl_cloneShape, lcF []⟩
def ks_impl_cloneShape : List (List (Option Nat)) := [[none, some 66]]
def gf_impl_cloneShape (a0 : Shape) : Option Shape := if fits ([] ++ a0.pts).length = true then some ((⟨a0.kind, ([] ++ a0.pts)⟩ : Shape)) else none
def c_impl_cloneShape : Con := ⟨Shape, Shape, 91, fun a => [.agg [.v (.int .i64 a.kind), .ro (List.map ePt a.pts)]], fun a => gf_impl_cloneShape a, fun a r => ⟨[(true, eShape true r)], []⟩, fun a => []⟩
/-! impl.cloneFeat -/
def ib_impl_cloneFeat : IC :=
 (.seq (.reg [⟨some 1, .box 100 [none, none, some 66, some 82] (.t 0), none⟩,
 ⟨some 2, .alloc 100 [.v (.string ⟨#[]⟩), .v (.int .i64 0), .sl true 66 [], .sl true 82 []], none⟩])
 (.seq (.drw [⟨some 3, .faddr 0 (.t 1), none⟩,
 ⟨some 4, .load 1 false (.t 3), none⟩,
 ⟨some 5, .faddr 1 (.t 1), none⟩,
 ⟨some 6, .load 2 true (.t 5), none⟩,
 ⟨some 7, .call 91 [(false, .t 6)], none⟩,
 ⟨some 8, .lit 82 [none, none] [.v (.string ⟨#[]⟩), .v (.string ⟨#[]⟩)] 0 [], none⟩,
 ⟨some 9, .faddr 3 (.t 1), none⟩,
 ⟨some 10, .load 1 false (.t 9), none⟩,
 ⟨some 11, .app 82 false (.t 8) (.t 10), none⟩,
 ⟨some 12, .build [.v (.string ⟨#[]⟩), .v (.int .i64 0), .nil, .nil] [(0, 1, .t 4), (1, 2, .t 7), (3, 1, .t 11)], none⟩,
 ⟨none, .store [none, none, some 66, some 82] (.t 2) (.t 12), none⟩] [(1, 3), (1, 4), (1, 5), (3, 5), (4, 5), (1, 7), (3, 7), (4, 7), (5, 7), (1, 8)])
 .ret))
def if_impl_cloneFeat : IFn := ⟨13, [.inr (2, 4)], ib_impl_cloneFeat, lcF []⟩
def ks_impl_cloneFeat : List (List (Option Nat)) := [[none, none, some 66, some 82]]
def gf_impl_cloneFeat (a0 : Feat) : Option Feat := (gf_impl_cloneShape a0.shape).bind fun x3 => if fits ([] ++ a0.tags).length = true then some ((⟨a0.id, x3, ([] ++ a0.tags)⟩ : Feat)) else none
def c_impl_cloneFeat : Con := ⟨Feat, Feat, 92, fun a => [.agg [.v (.string a.id), .v (.int .i64 a.shape.kind), .ro (List.map ePt a.shape.pts), .ro (List.map eTag a.tags)]], fun a => gf_impl_cloneFeat a, fun a r => ⟨[(true, eFeat true r)], []⟩, fun a => []⟩
/-! impl.cloneSheet -/
def ib_impl_cloneSheet : IC :=
 (.seq (.reg [⟨some 2, .mv (.c (.slice none 0 0)), none⟩])
 (.seq (.reg [⟨some 6, .lit 100 [none, none, some 66, some 82] [.v (.string ⟨#[]⟩), .v (.int .i64 0), .sl true 66 [], .sl true 82 []] 0 [], none⟩,
 ⟨some 3, .mv (.t 6), none⟩])
 (.seq (.seq (.reg [⟨some 7, .mv (.t 0), none⟩,
 ⟨some 8, .len false (.t 7), none⟩,
 ⟨some 9, .mv (.c (.int .i64 0)), none⟩])
 (blkC 0 (.loop (.seq (.reg [⟨some 10, .bin .lss (.t 9) (.t 8), none⟩])
 (.seq (.cond (.t 10) .skip
 (.exit 0))
 (.seq (.block 1 (.seq (.reg [⟨some 11, .iaddr 4 (.t 7) (.t 9), none⟩,
 ⟨some 12, .load 4 true (.t 11), none⟩,
 ⟨some 5, .alloc 100 [.v (.string ⟨#[]⟩), .v (.int .i64 0), .sl true 66 [], .sl true 82 []], none⟩,
 ⟨none, .store [none, none, some 66, some 82] (.t 5) (.t 12), none⟩])
 (.reg [⟨some 13, .mv (.t 3), none⟩,
 ⟨some 14, .load 4 true (.t 5), none⟩,
 ⟨some 15, .call 92 [(false, .t 14)], none⟩,
 ⟨some 16, .lit 100 [none, none, some 66, some 82] [.v (.string ⟨#[]⟩), .v (.int .i64 0), .sl true 66 [], .sl true 82 []] 1 [(0, .t 15)], none⟩,
 ⟨some 17, .app 100 true (.t 13) (.t 16), none⟩,
 ⟨some 3, .mv (.t 17), none⟩])))
 (.reg [⟨some 18, .bin .add (.t 9) (.c (.int .i64 1)), none⟩,
 ⟨some 9, .mv (.t 18), none⟩])))))))
 (.seq (.reg [⟨some 19, .mv (.t 3), none⟩,
 ⟨some 2, .mv (.t 19), none⟩])
 .ret))))
def if_impl_cloneSheet : IFn := ⟨20, [.inl 2], ib_impl_cloneSheet, lcF []⟩
def ks_impl_cloneSheet : List (List (Option Nat)) := [[some 100]]
def gl_impl_cloneSheet_1 : List Feat → Nat → (List Feat) → Option (List Feat)
  | [], k52, v49 => some v49
  | x53 :: l54, k52, v49 => (gf_impl_cloneFeat x53).bind fun x62 => if fits (v49 ++ ([x62] : (List Feat))).length = true then gl_impl_cloneSheet_1 l54 (k52 + 1) (v49 ++ ([x62] : (List Feat))) else none
def gf_impl_cloneSheet (a0 : (List Feat)) : Option (List Feat) := if fits a0.length = true then ((gl_impl_cloneSheet_1 a0 0 []).bind fun q47 => some (q47)) else none
def c_impl_cloneSheet : Con := ⟨(List Feat), (List Feat), 93, fun a => [.ro (List.map (eFeat false) a)], fun a => gf_impl_cloneSheet a, fun a r => ⟨[(false, [sl true 100 (List.map (eFeat true) r)])], []⟩, fun a => []⟩
/-! impl.cloneCommit -/
def ib_impl_cloneCommit : IC :=
 (.seq (.reg [⟨some 1, .box 115 [some 17, some 100, none] (.t 0), none⟩,
 ⟨some 2, .alloc 115 [.sl true 17 [], .sl true 100 [], .v (.string ⟨#[]⟩)], none⟩])
 (.seq (.drw [⟨some 3, .lit 17 [none] [.v (.int .i64 0)] 0 [], none⟩,
 ⟨some 4, .faddr 0 (.t 1), none⟩,
 ⟨some 5, .load 1 false (.t 4), none⟩,
 ⟨some 6, .app 17 false (.t 3) (.t 5), none⟩,
 ⟨some 7, .faddr 1 (.t 1), none⟩,
 ⟨some 8, .load 1 false (.t 7), none⟩,
 ⟨some 9, .call 93 [(false, .t 8)], none⟩,
 ⟨some 10, .faddr 2 (.t 1), none⟩,
 ⟨some 11, .load 1 false (.t 10), none⟩,
 ⟨some 12, .build [.nil, .nil, .v (.string ⟨#[]⟩)] [(0, 1, .t 6), (1, 1, .t 9), (2, 1, .t 11)], none⟩,
 ⟨none, .store [some 17, some 100, none] (.t 2) (.t 12), none⟩] [(0, 2), (0, 5), (2, 5), (3, 5), (0, 8), (2, 8), (3, 8), (5, 8), (6, 8)])
 .ret))
def if_impl_cloneCommit : IFn := ⟨13, [.inr (2, 3)], ib_impl_cloneCommit, lcF []⟩
def ks_impl_cloneCommit : List (List (Option Nat)) := [[some 17, some 100, none]]
def gf_impl_cloneCommit (a0 : Commit) : Option Commit := if fits ([] ++ a0.up).length = true then (gf_impl_cloneSheet a0.sheet).bind fun x7 => some ((⟨([] ++ a0.up), x7, a0.note⟩ : Commit)) else none
def c_impl_cloneCommit : Con := ⟨Commit, Commit, 94, fun a => [.agg [.ro (List.map eInt a.up), .ro (List.map (eFeat false) a.sheet), .v (.string a.note)]], fun a => gf_impl_cloneCommit a, fun a r => ⟨[(true, eCommit true r)], []⟩, fun a => []⟩
/-! impl.RepoOk -/
def ib_impl_RepoOk : IC :=
 (.seq (.reg [⟨some 1, .box 210 [some 115, some 130] (.t 0), none⟩,
 ⟨some 2, .mv (.c (.bool false)), none⟩])
 (.seq (.seq (.reg [⟨some 9, .faddr 0 (.t 1), none⟩,
 ⟨some 10, .load 1 false (.t 9), none⟩,
 ⟨some 11, .len false (.t 10), none⟩,
 ⟨some 12, .call 76 [(false, .t 11), (false, .c (.int .i64 1)), (false, .c (.int .i64 14))], none⟩,
 ⟨some 13, .un .not (.t 12), none⟩,
 ⟨some 14, .mv (.t 13), none⟩,
 ⟨some 15, .faddr 1 (.t 1), some (14, false)⟩,
 ⟨some 16, .load 1 false (.t 15), some (14, false)⟩,
 ⟨some 17, .len false (.t 16), some (14, false)⟩,
 ⟨some 18, .call 76 [(false, .t 17), (false, .c (.int .i64 1)), (false, .c (.int .i64 4))], some (14, false)⟩,
 ⟨some 19, .un .not (.t 18), some (14, false)⟩,
 ⟨some 20, .pick (.t 14) (.c (.bool true)) (.t 19), none⟩])
 (.cond (.t 20) (.seq (.reg [⟨some 2, .mv (.c (.bool false)), none⟩])
 .ret)
 .skip))
 (.seq (.seq (.reg [⟨some 21, .faddr 0 (.t 1), none⟩,
 ⟨some 22, .load 1 false (.t 21), none⟩,
 ⟨some 23, .len false (.t 22), none⟩,
 ⟨some 24, .mv (.c (.int .i64 0)), none⟩])
 (blkC 0 (.loop (.seq (.reg [⟨some 25, .bin .lss (.t 24) (.t 23), none⟩])
 (.seq (.cond (.t 25) .skip
 (.exit 0))
 (.seq (.block 1 (.seq (.reg [⟨some 26, .mv (.t 24), none⟩,
 ⟨some 27, .iaddr 3 (.t 22) (.t 24), none⟩,
 ⟨some 28, .load 3 true (.t 27), none⟩,
 ⟨some 4, .alloc 115 [.sl true 17 [], .sl true 100 [], .v (.string ⟨#[]⟩)], none⟩,
 ⟨some 3, .mv (.t 26), none⟩,
 ⟨none, .store [some 17, some 100, none] (.t 4) (.t 28), none⟩])
 (.seq (.seq (.reg [⟨some 29, .faddr 1 (.t 4), none⟩,
 ⟨some 30, .load 1 false (.t 29), none⟩,
 ⟨some 31, .call 86 [(false, .t 30)], none⟩,
 ⟨some 32, .un .not (.t 31), none⟩,
 ⟨some 33, .mv (.t 32), none⟩,
 ⟨some 34, .faddr 2 (.t 4), some (33, false)⟩,
 ⟨some 35, .load 1 false (.t 34), some (33, false)⟩,
 ⟨some 36, .call 80 [(false, .t 35)], some (33, false)⟩,
 ⟨some 37, .un .not (.t 36), some (33, false)⟩,
 ⟨some 38, .pick (.t 33) (.c (.bool true)) (.t 37), none⟩,
 ⟨some 39, .mv (.t 38), none⟩,
 ⟨some 40, .load 2 true (.t 1), some (39, false)⟩,
 ⟨some 41, .load 3 true (.t 4), some (39, false)⟩,
 ⟨some 42, .call 87 [(false, .t 40), (false, .t 41)], some (39, false)⟩,
 ⟨some 43, .mv (.t 3), some (39, false)⟩,
 ⟨some 44, .bin .neq (.t 42) (.t 43), some (39, false)⟩,
 ⟨some 45, .pick (.t 39) (.c (.bool true)) (.t 44), none⟩,
 ⟨some 46, .mv (.t 45), none⟩,
 ⟨some 47, .mv (.t 3), some (46, false)⟩,
 ⟨some 48, .bin .eql (.t 47) (.c (.int .i64 0)), some (46, false)⟩,
 ⟨some 49, .faddr 0 (.t 4), some (46, false)⟩,
 ⟨some 50, .load 1 false (.t 49), some (46, false)⟩,
 ⟨some 51, .len false (.t 50), some (46, false)⟩,
 ⟨some 52, .bin .eql (.t 51) (.c (.int .i64 0)), some (46, false)⟩,
 ⟨some 53, .eqs true false [1] (.t 48) (.t 52), some (46, false)⟩,
 ⟨some 54, .pick (.t 46) (.c (.bool true)) (.t 53), none⟩,
 ⟨some 55, .mv (.t 54), none⟩,
 ⟨some 56, .faddr 0 (.t 4), some (55, false)⟩,
 ⟨some 57, .load 1 false (.t 56), some (55, false)⟩,
 ⟨some 58, .len false (.t 57), some (55, false)⟩,
 ⟨some 59, .bin .gtr (.t 58) (.c (.int .i64 2)), some (55, false)⟩,
 ⟨some 60, .pick (.t 55) (.c (.bool true)) (.t 59), none⟩])
 (.cond (.t 60) (.seq (.reg [⟨some 2, .mv (.c (.bool false)), none⟩])
 .ret)
 .skip))
 (.seq (.reg [⟨some 61, .faddr 0 (.t 4), none⟩,
 ⟨some 62, .load 1 false (.t 61), none⟩,
 ⟨some 63, .len false (.t 62), none⟩,
 ⟨some 64, .mv (.c (.int .i64 0)), none⟩])
 (blkC 2 (.loop (.seq (.reg [⟨some 65, .bin .lss (.t 64) (.t 63), none⟩])
 (.seq (.cond (.t 65) .skip
 (.exit 2))
 (.seq (.block 3 (.seq (.reg [⟨some 66, .mv (.t 64), none⟩,
 ⟨some 67, .iaddr 1 (.t 62) (.t 64), none⟩,
 ⟨some 68, .load 1 false (.t 67), none⟩,
 ⟨some 5, .mv (.t 66), none⟩,
 ⟨some 6, .mv (.t 68), none⟩])
 (.seq (.reg [⟨some 69, .mv (.t 6), none⟩,
 ⟨some 70, .mv (.t 3), none⟩,
 ⟨some 71, .bin .sub (.t 70) (.c (.int .i64 1)), none⟩,
 ⟨some 72, .call 76 [(false, .t 69), (false, .c (.int .i64 0)), (false, .t 71)], none⟩,
 ⟨some 73, .un .not (.t 72), none⟩,
 ⟨some 74, .mv (.t 73), none⟩,
 ⟨some 75, .faddr 0 (.t 4), some (74, false)⟩,
 ⟨some 76, .load 1 false (.t 75), some (74, false)⟩,
 ⟨some 77, .mv (.t 5), some (74, false)⟩,
 ⟨some 78, .sls 1 (.t 76) none (some (.t 77)), some (74, false)⟩,
 ⟨some 79, .mv (.t 6), some (74, false)⟩,
 ⟨some 80, .call 88 [(false, .t 78), (false, .t 79)], some (74, false)⟩,
 ⟨some 81, .pick (.t 74) (.c (.bool true)) (.t 80), none⟩])
 (.cond (.t 81) (.seq (.reg [⟨some 2, .mv (.c (.bool false)), none⟩])
 .ret)
 .skip))))
 (.reg [⟨some 82, .bin .add (.t 64) (.c (.int .i64 1)), none⟩,
 ⟨some 64, .mv (.t 82), none⟩]))))))))))
 (.reg [⟨some 83, .bin .add (.t 24) (.c (.int .i64 1)), none⟩,
 ⟨some 24, .mv (.t 83), none⟩])))))))
 (.seq (.seq (.reg [⟨some 84, .faddr 1 (.t 1), none⟩,
 ⟨some 85, .load 1 false (.t 84), none⟩,
 ⟨some 86, .len false (.t 85), none⟩,
 ⟨some 87, .mv (.c (.int .i64 0)), none⟩])
 (blkC 4 (.loop (.seq (.reg [⟨some 88, .bin .lss (.t 87) (.t 86), none⟩])
 (.seq (.cond (.t 88) .skip
 (.exit 4))
 (.seq (.block 5 (.seq (.reg [⟨some 89, .mv (.t 87), none⟩,
 ⟨some 90, .iaddr 2 (.t 85) (.t 87), none⟩,
 ⟨some 91, .load 2 true (.t 90), none⟩,
 ⟨some 8, .alloc 130 [.v (.string ⟨#[]⟩), .v (.int .i64 0)], none⟩,
 ⟨some 7, .mv (.t 89), none⟩,
 ⟨none, .store [none, none] (.t 8) (.t 91), none⟩])
 (.seq (.reg [⟨some 92, .faddr 0 (.t 8), none⟩,
 ⟨some 93, .load 1 false (.t 92), none⟩,
 ⟨some 94, .call 80 [(false, .t 93)], none⟩,
 ⟨some 95, .un .not (.t 94), none⟩,
 ⟨some 96, .mv (.t 95), none⟩,
 ⟨some 97, .load 2 true (.t 1), some (96, false)⟩,
 ⟨some 98, .faddr 0 (.t 8), some (96, false)⟩,
 ⟨some 99, .load 1 false (.t 98), some (96, false)⟩,
 ⟨some 100, .call 89 [(false, .t 97), (false, .t 99)], some (96, false)⟩,
 ⟨some 101, .mv (.t 7), some (96, false)⟩,
 ⟨some 102, .bin .neq (.t 100) (.t 101), some (96, false)⟩,
 ⟨some 103, .pick (.t 96) (.c (.bool true)) (.t 102), none⟩,
 ⟨some 104, .mv (.t 103), none⟩,
 ⟨some 105, .load 2 true (.t 1), some (104, false)⟩,
 ⟨some 106, .faddr 1 (.t 8), some (104, false)⟩,
 ⟨some 107, .load 1 false (.t 106), some (104, false)⟩,
 ⟨some 108, .call 90 [(false, .t 105), (false, .t 107)], some (104, false)⟩,
 ⟨some 109, .un .not (.t 108), some (104, false)⟩,
 ⟨some 110, .pick (.t 104) (.c (.bool true)) (.t 109), none⟩])
 (.cond (.t 110) (.seq (.reg [⟨some 2, .mv (.c (.bool false)), none⟩])
 .ret)
 .skip))))
 (.reg [⟨some 111, .bin .add (.t 87) (.c (.int .i64 1)), none⟩,
 ⟨some 87, .mv (.t 111), none⟩])))))))
 (.seq (.reg [⟨some 2, .mv (.c (.bool true)), none⟩])
 .ret)))))
def if_impl_RepoOk : IFn := ⟨112, [.inl 2], ib_impl_RepoOk, lcF []⟩
def ks_impl_RepoOk : List (List (Option Nat)) := [[none]]
def gl_impl_RepoOk_5 (k189 : Nat) (x190 : Commit) : List Int → Nat → Option (Bool ⊕ Unit)
  | [], k238 => some (.inr ())
  | x239 :: l240, k238 => (gf_impl_within x239 0 (IntKind.i64.wrap ((k189 : Int) - 1))).bind fun x247 => if (!x247) = true then (some (.inl (false))) else ((slc x190.up 0 (k238 : Int)).bind fun x249 => (gf_slices_Contains_int_int x249 x239).bind fun x251 => if x251 = true then (some (.inl (false))) else (gl_impl_RepoOk_5 k189 x190 l240 (k238 + 1) ))
def gl_impl_RepoOk_4 (a0 : Repo) : List Commit → Nat → Option (Bool ⊕ Unit)
  | [], k189 => some (.inr ())
  | x190 :: l191, k189 => (gf_impl_SheetOk x190.sheet).bind fun x199 => if (!x199) = true then (some (.inl (false))) else ((gf_impl_WordOk x190.note).bind fun x201 => if (!x201) = true then (some (.inl (false))) else ((gf_impl_Repo_commit a0 x190).bind fun x203 => if (x203 != (k189 : Int)) = true then (some (.inl (false))) else (if (!(((k189 : Int) == 0) == ((x190.up.length : Int) == 0))) = true then (some (.inl (false))) else (if (decide ((x190.up.length : Int) > 2)) = true then (some (.inl (false))) else (if fits x190.up.length = true then ((gl_impl_RepoOk_5 k189 x190 x190.up 0 ).bind fun q => match q with | .inl r => some (.inl r) | .inr q234 => gl_impl_RepoOk_4 a0 l191 (k189 + 1) ) else none)))))
def gl_impl_RepoOk_6 (a0 : Repo) : List Head → Nat → Option (Bool ⊕ Unit)
  | [], k289 => some (.inr ())
  | x290 :: l291, k289 => (gf_impl_WordOk x290.name).bind fun x299 => if (!x299) = true then (some (.inl (false))) else ((gf_impl_Repo_head a0 x290.name).bind fun x301 => if (x301 != (k289 : Int)) = true then (some (.inl (false))) else ((gf_impl_Repo_version a0 x290.at_).bind fun x303 => if (!x303) = true then (some (.inl (false))) else (gl_impl_RepoOk_6 a0 l291 (k289 + 1) )))
def gf_impl_RepoOk (a0 : Repo) : Option Bool := (gf_impl_within (a0.commits.length : Int) 1 14).bind fun x2 => if (!x2) = true then (some (false)) else ((gf_impl_within (a0.heads.length : Int) 1 4).bind fun x4 => if (!x4) = true then (some (false)) else (if fits a0.commits.length = true then ((gl_impl_RepoOk_4 a0 a0.commits 0 ).bind fun q => match q with | .inl r => some r | .inr q186 => if fits a0.heads.length = true then ((gl_impl_RepoOk_6 a0 a0.heads 0 ).bind fun q => match q with | .inl r => some r | .inr q286 => some (true)) else none) else none))
def c_impl_RepoOk : Con := ⟨Repo, Bool, 96, fun a => [.agg [.ro (List.map (eCommit false) a.commits), .ro (List.map eHead a.heads)]], fun a => gf_impl_RepoOk a, fun a r => ⟨[(false, [.v (.bool r)])], []⟩, fun a => []⟩
/-! impl.cloneRepo -/
def ib_impl_cloneRepo : IC :=
 (.seq (.reg [⟨some 1, .box 210 [some 115, some 130] (.t 0), none⟩,
 ⟨some 2, .alloc 210 [.sl true 115 [], .sl true 130 []], none⟩])
 (.seq (.reg [⟨some 6, .lit 115 [some 17, some 100, none] [.sl true 17 [], .sl true 100 [], .v (.string ⟨#[]⟩)] 0 [], none⟩,
 ⟨some 7, .lit 130 [none, none] [.v (.string ⟨#[]⟩), .v (.int .i64 0)] 0 [], none⟩,
 ⟨some 8, .faddr 1 (.t 1), none⟩,
 ⟨some 9, .load 1 false (.t 8), none⟩,
 ⟨some 10, .app 130 false (.t 7) (.t 9), none⟩,
 ⟨some 11, .build [.nil, .nil] [(0, 1, .t 6), (1, 1, .t 10)], none⟩,
 ⟨some 3, .alloc 210 [.sl true 115 [], .sl true 130 []], none⟩,
 ⟨none, .store [some 115, some 130] (.t 3) (.t 11), none⟩])
 (.seq (.seq (.reg [⟨some 12, .faddr 0 (.t 1), none⟩,
 ⟨some 13, .load 1 false (.t 12), none⟩,
 ⟨some 14, .len false (.t 13), none⟩,
 ⟨some 15, .mv (.c (.int .i64 0)), none⟩])
 (blkC 0 (.loop (.seq (.reg [⟨some 16, .bin .lss (.t 15) (.t 14), none⟩])
 (.seq (.cond (.t 16) .skip
 (.exit 0))
 (.seq (.block 1 (.seq (.reg [⟨some 17, .iaddr 3 (.t 13) (.t 15), none⟩,
 ⟨some 18, .load 3 true (.t 17), none⟩,
 ⟨some 5, .alloc 115 [.sl true 17 [], .sl true 100 [], .v (.string ⟨#[]⟩)], none⟩,
 ⟨none, .store [some 17, some 100, none] (.t 5) (.t 18), none⟩])
 (.drw [⟨some 19, .faddr 0 (.t 3), none⟩,
 ⟨some 20, .load 1 false (.t 19), none⟩,
 ⟨some 21, .load 3 true (.t 5), none⟩,
 ⟨some 22, .call 94 [(false, .t 21)], none⟩,
 ⟨some 23, .lit 115 [some 17, some 100, none] [.sl true 17 [], .sl true 100 [], .v (.string ⟨#[]⟩)] 1 [(0, .t 22)], none⟩,
 ⟨some 24, .app 115 true (.t 20) (.t 23), none⟩,
 ⟨some 25, .faddr 0 (.t 3), none⟩,
 ⟨none, .store [some 115] (.t 25) (.t 24), none⟩] [(1, 2), (1, 3), (1, 4)])))
 (.reg [⟨some 26, .bin .add (.t 15) (.c (.int .i64 1)), none⟩,
 ⟨some 15, .mv (.t 26), none⟩])))))))
 (.seq (.reg [⟨some 27, .load 2 true (.t 3), none⟩,
 ⟨none, .store [some 115, some 130] (.t 2) (.t 27), none⟩])
 .ret))))
def if_impl_cloneRepo : IFn := ⟨28, [.inr (2, 2)], ib_impl_cloneRepo, lcF []⟩
def ks_impl_cloneRepo : List (List (Option Nat)) := [[some 115, some 130]]
def gl_impl_cloneRepo_1 : List Commit → Nat → (List Commit) → Option (List Commit)
  | [], k83, v77 => some v77
  | x84 :: l85, k83, v77 => (gf_impl_cloneCommit x84).bind fun x93 => if fits (v77 ++ ([x93] : (List Commit))).length = true then gl_impl_cloneRepo_1 l85 (k83 + 1) (v77 ++ ([x93] : (List Commit))) else none
def gf_impl_cloneRepo (a0 : Repo) : Option Repo := if fits ([] ++ a0.heads).length = true then if fits a0.commits.length = true then ((gl_impl_cloneRepo_1 a0.commits 0 []).bind fun q70 => some ((⟨q70, ([] ++ a0.heads)⟩ : Repo))) else none else none
def c_impl_cloneRepo : Con := ⟨Repo, Repo, 150, fun a => [.agg [.ro (List.map (eCommit false) a.commits), .ro (List.map eHead a.heads)]], fun a => gf_impl_cloneRepo a, fun a r => ⟨[(true, eRepo true r)], []⟩, fun a => []⟩
/-! (*impl.Repo).set -/
def ib_impl_Repo_set : IC :=
 (.seq (.reg [⟨some 5, .box 115 [some 17, some 100, none] (.t 2), none⟩,
 ⟨some 6, .mv (.c (.bool false)), none⟩])
 (.seq (.drw [⟨some 8, .mv (.t 0), none⟩,
 ⟨some 9, .nilck (.t 8), none⟩,
 ⟨some 10, .load 2 true (.t 9), none⟩,
 ⟨some 11, .load 3 true (.t 5), none⟩,
 ⟨some 12, .call 87 [(false, .t 10), (false, .t 11)], none⟩,
 ⟨some 7, .mv (.t 12), none⟩] [(2, 3)])
 (.seq (.seq (.reg [⟨some 13, .mv (.t 7), none⟩,
 ⟨some 14, .bin .lss (.t 13) (.c (.int .i64 0)), none⟩])
 (.cond (.t 14) (.seq (.seq (.reg [⟨some 15, .mv (.t 0), none⟩,
 ⟨some 16, .nilck (.t 15), none⟩,
 ⟨some 17, .faddr 0 (.t 16), none⟩,
 ⟨some 18, .load 1 false (.t 17), none⟩,
 ⟨some 19, .len false (.t 18), none⟩,
 ⟨some 20, .bin .eql (.t 19) (.c (.int .i64 14)), none⟩])
 (.cond (.t 20) (.seq (.reg [⟨some 6, .mv (.c (.bool false)), none⟩])
 .ret)
 .skip))
 (.seq (.reg [⟨some 21, .mv (.t 0), none⟩,
 ⟨some 22, .nilck (.t 21), none⟩,
 ⟨some 23, .faddr 0 (.t 22), none⟩,
 ⟨some 24, .load 1 false (.t 23), none⟩,
 ⟨some 25, .len false (.t 24), none⟩,
 ⟨some 7, .mv (.t 25), none⟩])
 (.drw [⟨some 26, .mv (.t 0), none⟩,
 ⟨some 27, .mv (.t 0), none⟩,
 ⟨some 28, .nilck (.t 27), none⟩,
 ⟨some 29, .faddr 0 (.t 28), none⟩,
 ⟨some 30, .load 1 false (.t 29), none⟩,
 ⟨some 31, .load 3 true (.t 5), none⟩,
 ⟨some 32, .call 94 [(false, .t 31)], none⟩,
 ⟨some 33, .lit 115 [some 17, some 100, none] [.sl true 17 [], .sl true 100 [], .v (.string ⟨#[]⟩)] 1 [(0, .t 32)], none⟩,
 ⟨some 34, .app 115 true (.t 30) (.t 33), none⟩,
 ⟨some 35, .nilck (.t 26), none⟩,
 ⟨some 36, .faddr 0 (.t 35), none⟩,
 ⟨none, .store [some 115] (.t 36) (.t 34), none⟩] [(4, 5), (4, 6), (4, 7)])))
 .skip))
 (.seq (.reg [⟨some 37, .mv (.t 0), none⟩,
 ⟨some 38, .nilck (.t 37), none⟩,
 ⟨some 39, .faddr 1 (.t 38), none⟩,
 ⟨some 40, .load 1 false (.t 39), none⟩,
 ⟨some 41, .mv (.t 1), none⟩,
 ⟨some 42, .mv (.t 7), none⟩,
 ⟨some 43, .iaddr 2 (.t 40) (.t 41), none⟩,
 ⟨some 44, .faddr 1 (.t 43), none⟩,
 ⟨none, .store [none] (.t 44) (.t 42), none⟩])
 (.seq (.reg [⟨some 6, .mv (.c (.bool true)), none⟩])
 .ret)))))
def if_impl_Repo_set : IFn := ⟨45, [.inl 6], ib_impl_Repo_set, lcF []⟩
def ks_impl_Repo_set : List (List (Option Nat)) := [[none]]
def gf_impl_Repo_set (a0 : Repo) (a1 : Int) (a2 : Commit) : Option (Bool × Repo) := (gf_impl_Repo_commit a0 a2).bind fun x6 => if (decide (x6 < 0)) = true then (if ((a0.commits.length : Int) == 14) = true then (some (false, a0)) else ((gf_impl_cloneCommit a2).bind fun x8 => if fits (a0.commits ++ ([x8] : (List Commit))).length = true then (idx a0.heads a1).bind fun x18 => some (true, (⟨(a0.commits ++ ([x8] : (List Commit))), (List.set a0.heads a1.toNat (⟨x18.name, (a0.commits.length : Int)⟩ : Head))⟩ : Repo)) else none)) else ((idx a0.heads a1).bind fun x20 => some (true, (⟨a0.commits, (List.set a0.heads a1.toNat (⟨x20.name, x6⟩ : Head))⟩ : Repo)))
def c_impl_Repo_set : Con := ⟨Repo × Int × Commit, (Bool × Repo), 152, fun a => [.pio 0 210, .v (.int .i64 a.2.1), .agg [.ro (List.map eInt a.2.2.up), .ro (List.map (eFeat false) a.2.2.sheet), .v (.string a.2.2.note)]], fun a => gf_impl_Repo_set a.1 a.2.1 a.2.2, fun a r => ⟨[(false, [.v (.bool r.1)])], [some [[.sl true 115 (List.map (eCommit true) r.2.commits), .sl true 130 (List.map eHead r.2.heads)]]]⟩, fun a => [(true, 210, [[.sl true 115 (List.map (eCommit true) a.1.commits), .sl true 130 (List.map eHead a.1.heads)]])]⟩
/-! laws.eqPt -/
def ib_laws_eqPt : IC :=
 (.seq (.reg [⟨some 2, .box 66 [none, none] (.t 0), none⟩,
 ⟨some 3, .box 66 [none, none] (.t 1), none⟩,
 ⟨some 4, .mv (.c (.bool false)), none⟩])
 (.seq (.seq (.reg [⟨some 5, .faddr 0 (.t 2), none⟩,
 ⟨some 6, .load 1 false (.t 5), none⟩,
 ⟨some 7, .faddr 0 (.t 3), none⟩,
 ⟨some 8, .load 1 false (.t 7), none⟩,
 ⟨some 9, .bin .neq (.t 6) (.t 8), none⟩])
 (.cond (.t 9) (.seq (.reg [⟨some 4, .mv (.c (.bool false)), none⟩])
 .ret)
 .skip))
 (.seq (.seq (.reg [⟨some 10, .faddr 1 (.t 2), none⟩,
 ⟨some 11, .load 1 false (.t 10), none⟩,
 ⟨some 12, .faddr 1 (.t 3), none⟩,
 ⟨some 13, .load 1 false (.t 12), none⟩,
 ⟨some 14, .bin .neq (.t 11) (.t 13), none⟩])
 (.cond (.t 14) (.seq (.reg [⟨some 4, .mv (.c (.bool false)), none⟩])
 .ret)
 .skip))
 (.seq (.reg [⟨some 4, .mv (.c (.bool true)), none⟩])
 .ret))))
def if_laws_eqPt : IFn := ⟨15, [.inl 4], ib_laws_eqPt, lcF []⟩
def ks_laws_eqPt : List (List (Option Nat)) := [[none]]
def gf_laws_eqPt (a0 : Pt) (a1 : Pt) : Option Bool := if (a0.x != a1.x) = true then (some (false)) else (if (a0.y != a1.y) = true then (some (false)) else (some (true)))
def c_laws_eqPt : Con := ⟨Pt × Pt, Bool, 153, fun a => [.agg [.v (.int .i64 a.1.x), .v (.int .i64 a.1.y)], .agg [.v (.int .i64 a.2.x), .v (.int .i64 a.2.y)]], fun a => gf_laws_eqPt a.1 a.2, fun a r => ⟨[(false, [.v (.bool r)])], []⟩, fun a => []⟩
/-! laws.eqPtS -/
def ib_laws_eqPtS : IC :=
 (.seq (.reg [⟨some 4, .mv (.c (.bool false)), none⟩])
 (.seq (.seq (.reg [⟨some 6, .mv (.t 0), none⟩,
 ⟨some 7, .len false (.t 6), none⟩,
 ⟨some 8, .mv (.t 1), none⟩,
 ⟨some 9, .len false (.t 8), none⟩,
 ⟨some 10, .bin .neq (.t 7) (.t 9), none⟩])
 (.cond (.t 10) (.seq (.reg [⟨some 4, .mv (.c (.bool false)), none⟩])
 .ret)
 .skip))
 (.seq (.seq (.reg [⟨some 5, .mv (.c (.int .i64 0)), none⟩])
 (blkC 0 (.loop (.seq (.seq (.reg [⟨some 11, .mv (.t 5), none⟩,
 ⟨some 12, .mv (.t 0), none⟩,
 ⟨some 13, .len false (.t 12), none⟩,
 ⟨some 14, .bin .lss (.t 11) (.t 13), none⟩])
 (.cond (.t 14) .skip
 (.exit 0)))
 (.seq (.block 1 (.seq (.drw [⟨some 17, .mv (.t 0), none⟩,
 ⟨some 18, .mv (.t 5), none⟩,
 ⟨some 19, .iaddr 2 (.t 17) (.t 18), none⟩,
 ⟨some 20, .load 2 true (.t 19), none⟩,
 ⟨some 21, .mv (.t 1), none⟩,
 ⟨some 22, .mv (.t 5), none⟩,
 ⟨some 23, .iaddr 2 (.t 21) (.t 22), none⟩,
 ⟨some 24, .load 2 true (.t 23), none⟩,
 ⟨some 25, .call 153 [(false, .t 20), (false, .t 24)], none⟩,
 ⟨some 26, .un .not (.t 25), none⟩] [(3, 7)])
 (.cond (.t 26) (.seq (.reg [⟨some 4, .mv (.c (.bool false)), none⟩])
 .ret)
 .skip)))
 (.reg [⟨some 15, .mv (.t 5), none⟩,
 ⟨some 16, .bin .add (.t 15) (.c (.int .i64 1)), none⟩,
 ⟨some 5, .mv (.t 16), none⟩]))))))
 (.seq (.reg [⟨some 4, .mv (.c (.bool true)), none⟩])
 .ret))))
def if_laws_eqPtS : IFn := ⟨27, [.inl 4], ib_laws_eqPtS, lcF []⟩
def ks_laws_eqPtS : List (List (Option Nat)) := [[none]]
def gl_laws_eqPtS_1 (a1 : (List Pt)) : List Pt → Nat → Option (Bool ⊕ Unit)
  | [], k22 => some (.inr ())
  | x23 :: l24, k22 => (idx a1 (k22 : Int)).bind fun x31 => (gf_laws_eqPt x23 x31).bind fun x33 => if (!x33) = true then (some (.inl (false))) else (gl_laws_eqPtS_1 a1 l24 (k22 + 1) )
def gf_laws_eqPtS (a0 : (List Pt)) (a1 : (List Pt)) : Option Bool := if ((a0.length : Int) != (a1.length : Int)) = true then (some (false)) else (if fits a0.length = true then ((gl_laws_eqPtS_1 a1 a0 0 ).bind fun q => match q with | .inl r => some r | .inr q20 => some (true)) else none)
def c_laws_eqPtS : Con := ⟨(List Pt) × (List Pt), Bool, 154, fun a => [.ro (List.map ePt a.1), .ro (List.map ePt a.2)], fun a => gf_laws_eqPtS a.1 a.2, fun a r => ⟨[(false, [.v (.bool r)])], []⟩, fun a => []⟩
/-! laws.eqTag -/
def ib_laws_eqTag : IC :=
 (.seq (.reg [⟨some 2, .box 82 [none, none] (.t 0), none⟩,
 ⟨some 3, .box 82 [none, none] (.t 1), none⟩,
 ⟨some 4, .mv (.c (.bool false)), none⟩])
 (.seq (.seq (.reg [⟨some 5, .faddr 0 (.t 2), none⟩,
 ⟨some 6, .load 1 false (.t 5), none⟩,
 ⟨some 7, .faddr 0 (.t 3), none⟩,
 ⟨some 8, .load 1 false (.t 7), none⟩,
 ⟨some 9, .bin .neq (.t 6) (.t 8), none⟩])
 (.cond (.t 9) (.seq (.reg [⟨some 4, .mv (.c (.bool false)), none⟩])
 .ret)
 .skip))
 (.seq (.seq (.reg [⟨some 10, .faddr 1 (.t 2), none⟩,
 ⟨some 11, .load 1 false (.t 10), none⟩,
 ⟨some 12, .faddr 1 (.t 3), none⟩,
 ⟨some 13, .load 1 false (.t 12), none⟩,
 ⟨some 14, .bin .neq (.t 11) (.t 13), none⟩])
 (.cond (.t 14) (.seq (.reg [⟨some 4, .mv (.c (.bool false)), none⟩])
 .ret)
 .skip))
 (.seq (.reg [⟨some 4, .mv (.c (.bool true)), none⟩])
 .ret))))
def if_laws_eqTag : IFn := ⟨15, [.inl 4], ib_laws_eqTag, lcF []⟩
def ks_laws_eqTag : List (List (Option Nat)) := [[none]]
def gf_laws_eqTag (a0 : Tag) (a1 : Tag) : Option Bool := if (!seq a0.key a1.key) = true then (some (false)) else (if (!seq a0.val a1.val) = true then (some (false)) else (some (true)))
def c_laws_eqTag : Con := ⟨Tag × Tag, Bool, 155, fun a => [.agg [.v (.string a.1.key), .v (.string a.1.val)], .agg [.v (.string a.2.key), .v (.string a.2.val)]], fun a => gf_laws_eqTag a.1 a.2, fun a r => ⟨[(false, [.v (.bool r)])], []⟩, fun a => []⟩
/-! laws.eqShape -/
def ib_laws_eqShape : IC :=
 (.seq (.reg [⟨some 2, .box 226 [none, some 66] (.t 0), none⟩,
 ⟨some 3, .box 226 [none, some 66] (.t 1), none⟩,
 ⟨some 4, .mv (.c (.bool false)), none⟩])
 (.seq (.seq (.reg [⟨some 5, .faddr 0 (.t 2), none⟩,
 ⟨some 6, .load 1 false (.t 5), none⟩,
 ⟨some 7, .faddr 0 (.t 3), none⟩,
 ⟨some 8, .load 1 false (.t 7), none⟩,
 ⟨some 9, .bin .neq (.t 6) (.t 8), none⟩])
 (.cond (.t 9) (.seq (.reg [⟨some 4, .mv (.c (.bool false)), none⟩])
 .ret)
 .skip))
 (.seq (.seq (.reg [⟨some 10, .faddr 1 (.t 2), none⟩,
 ⟨some 11, .load 1 false (.t 10), none⟩,
 ⟨some 12, .faddr 1 (.t 3), none⟩,
 ⟨some 13, .load 1 false (.t 12), none⟩,
 ⟨some 14, .call 154 [(false, .t 11), (false, .t 13)], none⟩,
 ⟨some 15, .un .not (.t 14), none⟩])
 (.cond (.t 15) (.seq (.reg [⟨some 4, .mv (.c (.bool false)), none⟩])
 .ret)
 .skip))
 (.seq (.reg [⟨some 4, .mv (.c (.bool true)), none⟩])
 .ret))))
def if_laws_eqShape : IFn := ⟨16, [.inl 4], ib_laws_eqShape, lcF []⟩
def ks_laws_eqShape : List (List (Option Nat)) := [[none]]
def gf_laws_eqShape (a0 : Shape) (a1 : Shape) : Option Bool := if (a0.kind != a1.kind) = true then (some (false)) else ((gf_laws_eqPtS a0.pts a1.pts).bind fun x3 => if (!x3) = true then (some (false)) else (some (true)))
def c_laws_eqShape : Con := ⟨Shape × Shape, Bool, 156, fun a => [.agg [.v (.int .i64 a.1.kind), .ro (List.map ePt a.1.pts)], .agg [.v (.int .i64 a.2.kind), .ro (List.map ePt a.2.pts)]], fun a => gf_laws_eqShape a.1 a.2, fun a r => ⟨[(false, [.v (.bool r)])], []⟩, fun a => []⟩
/-! laws.eqTagS -/
def ib_laws_eqTagS : IC :=
 (.seq (.reg [⟨some 4, .mv (.c (.bool false)), none⟩])
 (.seq (.seq (.reg [⟨some 6, .mv (.t 0), none⟩,
 ⟨some 7, .len false (.t 6), none⟩,
 ⟨some 8, .mv (.t 1), none⟩,
 ⟨some 9, .len false (.t 8), none⟩,
 ⟨some 10, .bin .neq (.t 7) (.t 9), none⟩])
 (.cond (.t 10) (.seq (.reg [⟨some 4, .mv (.c (.bool false)), none⟩])
 .ret)
 .skip))
 (.seq (.seq (.reg [⟨some 5, .mv (.c (.int .i64 0)), none⟩])
 (blkC 0 (.loop (.seq (.seq (.reg [⟨some 11, .mv (.t 5), none⟩,
 ⟨some 12, .mv (.t 0), none⟩,
 ⟨some 13, .len false (.t 12), none⟩,
 ⟨some 14, .bin .lss (.t 11) (.t 13), none⟩])
 (.cond (.t 14) .skip
 (.exit 0)))
 (.seq (.block 1 (.seq (.drw [⟨some 17, .mv (.t 0), none⟩,
 ⟨some 18, .mv (.t 5), none⟩,
 ⟨some 19, .iaddr 2 (.t 17) (.t 18), none⟩,
 ⟨some 20, .load 2 true (.t 19), none⟩,
 ⟨some 21, .mv (.t 1), none⟩,
 ⟨some 22, .mv (.t 5), none⟩,
 ⟨some 23, .iaddr 2 (.t 21) (.t 22), none⟩,
 ⟨some 24, .load 2 true (.t 23), none⟩,
 ⟨some 25, .call 155 [(false, .t 20), (false, .t 24)], none⟩,
 ⟨some 26, .un .not (.t 25), none⟩] [(3, 7)])
 (.cond (.t 26) (.seq (.reg [⟨some 4, .mv (.c (.bool false)), none⟩])
 .ret)
 .skip)))
 (.reg [⟨some 15, .mv (.t 5), none⟩,
 ⟨some 16, .bin .add (.t 15) (.c (.int .i64 1)), none⟩,
 ⟨some 5, .mv (.t 16), none⟩]))))))
 (.seq (.reg [⟨some 4, .mv (.c (.bool true)), none⟩])
 .ret))))
def if_laws_eqTagS : IFn := ⟨27, [.inl 4], ib_laws_eqTagS, lcF []⟩
def ks_laws_eqTagS : List (List (Option Nat)) := [[none]]
def gl_laws_eqTagS_1 (a1 : (List Tag)) : List Tag → Nat → Option (Bool ⊕ Unit)
  | [], k22 => some (.inr ())
  | x23 :: l24, k22 => (idx a1 (k22 : Int)).bind fun x31 => (gf_laws_eqTag x23 x31).bind fun x33 => if (!x33) = true then (some (.inl (false))) else (gl_laws_eqTagS_1 a1 l24 (k22 + 1) )
def gf_laws_eqTagS (a0 : (List Tag)) (a1 : (List Tag)) : Option Bool := if ((a0.length : Int) != (a1.length : Int)) = true then (some (false)) else (if fits a0.length = true then ((gl_laws_eqTagS_1 a1 a0 0 ).bind fun q => match q with | .inl r => some r | .inr q20 => some (true)) else none)
def c_laws_eqTagS : Con := ⟨(List Tag) × (List Tag), Bool, 157, fun a => [.ro (List.map eTag a.1), .ro (List.map eTag a.2)], fun a => gf_laws_eqTagS a.1 a.2, fun a r => ⟨[(false, [.v (.bool r)])], []⟩, fun a => []⟩
/-! laws.eqFeat -/
def ib_laws_eqFeat : IC :=
 (.seq (.reg [⟨some 2, .box 100 [none, none, some 66, some 82] (.t 0), none⟩,
 ⟨some 3, .box 100 [none, none, some 66, some 82] (.t 1), none⟩,
 ⟨some 4, .mv (.c (.bool false)), none⟩])
 (.seq (.seq (.reg [⟨some 5, .faddr 0 (.t 2), none⟩,
 ⟨some 6, .load 1 false (.t 5), none⟩,
 ⟨some 7, .faddr 0 (.t 3), none⟩,
 ⟨some 8, .load 1 false (.t 7), none⟩,
 ⟨some 9, .bin .neq (.t 6) (.t 8), none⟩])
 (.cond (.t 9) (.seq (.reg [⟨some 4, .mv (.c (.bool false)), none⟩])
 .ret)
 .skip))
 (.seq (.seq (.reg [⟨some 10, .faddr 1 (.t 2), none⟩,
 ⟨some 11, .load 2 true (.t 10), none⟩,
 ⟨some 12, .faddr 1 (.t 3), none⟩,
 ⟨some 13, .load 2 true (.t 12), none⟩,
 ⟨some 14, .call 156 [(false, .t 11), (false, .t 13)], none⟩,
 ⟨some 15, .un .not (.t 14), none⟩])
 (.cond (.t 15) (.seq (.reg [⟨some 4, .mv (.c (.bool false)), none⟩])
 .ret)
 .skip))
 (.seq (.seq (.reg [⟨some 16, .faddr 3 (.t 2), none⟩,
 ⟨some 17, .load 1 false (.t 16), none⟩,
 ⟨some 18, .faddr 3 (.t 3), none⟩,
 ⟨some 19, .load 1 false (.t 18), none⟩,
 ⟨some 20, .call 157 [(false, .t 17), (false, .t 19)], none⟩,
 ⟨some 21, .un .not (.t 20), none⟩])
 (.cond (.t 21) (.seq (.reg [⟨some 4, .mv (.c (.bool false)), none⟩])
 .ret)
 .skip))
 (.seq (.reg [⟨some 4, .mv (.c (.bool true)), none⟩])
 .ret)))))
def if_laws_eqFeat : IFn := ⟨22, [.inl 4], ib_laws_eqFeat, lcF []⟩
def ks_laws_eqFeat : List (List (Option Nat)) := [[none]]
def gf_laws_eqFeat (a0 : Feat) (a1 : Feat) : Option Bool := if (!seq a0.id a1.id) = true then (some (false)) else ((gf_laws_eqShape a0.shape a1.shape).bind fun x3 => if (!x3) = true then (some (false)) else ((gf_laws_eqTagS a0.tags a1.tags).bind fun x5 => if (!x5) = true then (some (false)) else (some (true))))
def c_laws_eqFeat : Con := ⟨Feat × Feat, Bool, 158, fun a => [.agg [.v (.string a.1.id), .v (.int .i64 a.1.shape.kind), .ro (List.map ePt a.1.shape.pts), .ro (List.map eTag a.1.tags)], .agg [.v (.string a.2.id), .v (.int .i64 a.2.shape.kind), .ro (List.map ePt a.2.shape.pts), .ro (List.map eTag a.2.tags)]], fun a => gf_laws_eqFeat a.1 a.2, fun a r => ⟨[(false, [.v (.bool r)])], []⟩, fun a => []⟩
/-! laws.eqIntS -/
def ib_laws_eqIntS : IC :=
 (.seq (.reg [⟨some 4, .mv (.c (.bool false)), none⟩])
 (.seq (.seq (.reg [⟨some 6, .mv (.t 0), none⟩,
 ⟨some 7, .len false (.t 6), none⟩,
 ⟨some 8, .mv (.t 1), none⟩,
 ⟨some 9, .len false (.t 8), none⟩,
 ⟨some 10, .bin .neq (.t 7) (.t 9), none⟩])
 (.cond (.t 10) (.seq (.reg [⟨some 4, .mv (.c (.bool false)), none⟩])
 .ret)
 .skip))
 (.seq (.seq (.reg [⟨some 5, .mv (.c (.int .i64 0)), none⟩])
 (blkC 0 (.loop (.seq (.seq (.reg [⟨some 11, .mv (.t 5), none⟩,
 ⟨some 12, .mv (.t 0), none⟩,
 ⟨some 13, .len false (.t 12), none⟩,
 ⟨some 14, .bin .lss (.t 11) (.t 13), none⟩])
 (.cond (.t 14) .skip
 (.exit 0)))
 (.seq (.block 1 (.seq (.drw [⟨some 17, .mv (.t 0), none⟩,
 ⟨some 18, .mv (.t 5), none⟩,
 ⟨some 19, .iaddr 1 (.t 17) (.t 18), none⟩,
 ⟨some 20, .load 1 false (.t 19), none⟩,
 ⟨some 21, .mv (.t 1), none⟩,
 ⟨some 22, .mv (.t 5), none⟩,
 ⟨some 23, .iaddr 1 (.t 21) (.t 22), none⟩,
 ⟨some 24, .load 1 false (.t 23), none⟩,
 ⟨some 25, .bin .neq (.t 20) (.t 24), none⟩] [(3, 7)])
 (.cond (.t 25) (.seq (.reg [⟨some 4, .mv (.c (.bool false)), none⟩])
 .ret)
 .skip)))
 (.reg [⟨some 15, .mv (.t 5), none⟩,
 ⟨some 16, .bin .add (.t 15) (.c (.int .i64 1)), none⟩,
 ⟨some 5, .mv (.t 16), none⟩]))))))
 (.seq (.reg [⟨some 4, .mv (.c (.bool true)), none⟩])
 .ret))))
def if_laws_eqIntS : IFn := ⟨26, [.inl 4], ib_laws_eqIntS, lcF []⟩
def ks_laws_eqIntS : List (List (Option Nat)) := [[none]]
def gl_laws_eqIntS_1 (a1 : (List Int)) : List Int → Nat → Option (Bool ⊕ Unit)
  | [], k16 => some (.inr ())
  | x17 :: l18, k16 => (idx a1 (k16 : Int)).bind fun x25 => if (x17 != x25) = true then (some (.inl (false))) else (gl_laws_eqIntS_1 a1 l18 (k16 + 1) )
def gf_laws_eqIntS (a0 : (List Int)) (a1 : (List Int)) : Option Bool := if ((a0.length : Int) != (a1.length : Int)) = true then (some (false)) else (if fits a0.length = true then ((gl_laws_eqIntS_1 a1 a0 0 ).bind fun q => match q with | .inl r => some r | .inr q14 => some (true)) else none)
def c_laws_eqIntS : Con := ⟨(List Int) × (List Int), Bool, 159, fun a => [.ro (List.map eInt a.1), .ro (List.map eInt a.2)], fun a => gf_laws_eqIntS a.1 a.2, fun a r => ⟨[(false, [.v (.bool r)])], []⟩, fun a => []⟩
/-! laws.eqFeatS -/
def ib_laws_eqFeatS : IC :=
 (.seq (.reg [⟨some 4, .mv (.c (.bool false)), none⟩])
 (.seq (.seq (.reg [⟨some 6, .mv (.t 0), none⟩,
 ⟨some 7, .len false (.t 6), none⟩,
 ⟨some 8, .mv (.t 1), none⟩,
 ⟨some 9, .len false (.t 8), none⟩,
 ⟨some 10, .bin .neq (.t 7) (.t 9), none⟩])
 (.cond (.t 10) (.seq (.reg [⟨some 4, .mv (.c (.bool false)), none⟩])
 .ret)
 .skip))
 (.seq (.seq (.reg [⟨some 5, .mv (.c (.int .i64 0)), none⟩])
 (blkC 0 (.loop (.seq (.seq (.reg [⟨some 11, .mv (.t 5), none⟩,
 ⟨some 12, .mv (.t 0), none⟩,
 ⟨some 13, .len false (.t 12), none⟩,
 ⟨some 14, .bin .lss (.t 11) (.t 13), none⟩])
 (.cond (.t 14) .skip
 (.exit 0)))
 (.seq (.block 1 (.seq (.drw [⟨some 17, .mv (.t 0), none⟩,
 ⟨some 18, .mv (.t 5), none⟩,
 ⟨some 19, .iaddr 4 (.t 17) (.t 18), none⟩,
 ⟨some 20, .load 4 true (.t 19), none⟩,
 ⟨some 21, .mv (.t 1), none⟩,
 ⟨some 22, .mv (.t 5), none⟩,
 ⟨some 23, .iaddr 4 (.t 21) (.t 22), none⟩,
 ⟨some 24, .load 4 true (.t 23), none⟩,
 ⟨some 25, .call 158 [(false, .t 20), (false, .t 24)], none⟩,
 ⟨some 26, .un .not (.t 25), none⟩] [(3, 7)])
 (.cond (.t 26) (.seq (.reg [⟨some 4, .mv (.c (.bool false)), none⟩])
 .ret)
 .skip)))
 (.reg [⟨some 15, .mv (.t 5), none⟩,
 ⟨some 16, .bin .add (.t 15) (.c (.int .i64 1)), none⟩,
 ⟨some 5, .mv (.t 16), none⟩]))))))
 (.seq (.reg [⟨some 4, .mv (.c (.bool true)), none⟩])
 .ret))))
def if_laws_eqFeatS : IFn := ⟨27, [.inl 4], ib_laws_eqFeatS, lcF []⟩
def ks_laws_eqFeatS : List (List (Option Nat)) := [[none]]
def gl_laws_eqFeatS_1 (a1 : (List Feat)) : List Feat → Nat → Option (Bool ⊕ Unit)
  | [], k22 => some (.inr ())
  | x23 :: l24, k22 => (idx a1 (k22 : Int)).bind fun x31 => (gf_laws_eqFeat x23 x31).bind fun x33 => if (!x33) = true then (some (.inl (false))) else (gl_laws_eqFeatS_1 a1 l24 (k22 + 1) )
def gf_laws_eqFeatS (a0 : (List Feat)) (a1 : (List Feat)) : Option Bool := if ((a0.length : Int) != (a1.length : Int)) = true then (some (false)) else (if fits a0.length = true then ((gl_laws_eqFeatS_1 a1 a0 0 ).bind fun q => match q with | .inl r => some r | .inr q20 => some (true)) else none)
def c_laws_eqFeatS : Con := ⟨(List Feat) × (List Feat), Bool, 160, fun a => [.ro (List.map (eFeat false) a.1), .ro (List.map (eFeat false) a.2)], fun a => gf_laws_eqFeatS a.1 a.2, fun a r => ⟨[(false, [.v (.bool r)])], []⟩, fun a => []⟩
/-! laws.eqCommit -/
def ib_laws_eqCommit : IC :=
 (.seq (.reg [⟨some 2, .box 115 [some 17, some 100, none] (.t 0), none⟩,
 ⟨some 3, .box 115 [some 17, some 100, none] (.t 1), none⟩,
 ⟨some 4, .mv (.c (.bool false)), none⟩])
 (.seq (.seq (.reg [⟨some 5, .faddr 0 (.t 2), none⟩,
 ⟨some 6, .load 1 false (.t 5), none⟩,
 ⟨some 7, .faddr 0 (.t 3), none⟩,
 ⟨some 8, .load 1 false (.t 7), none⟩,
 ⟨some 9, .call 159 [(false, .t 6), (false, .t 8)], none⟩,
 ⟨some 10, .un .not (.t 9), none⟩])
 (.cond (.t 10) (.seq (.reg [⟨some 4, .mv (.c (.bool false)), none⟩])
 .ret)
 .skip))
 (.seq (.seq (.reg [⟨some 11, .faddr 1 (.t 2), none⟩,
 ⟨some 12, .load 1 false (.t 11), none⟩,
 ⟨some 13, .faddr 1 (.t 3), none⟩,
 ⟨some 14, .load 1 false (.t 13), none⟩,
 ⟨some 15, .call 160 [(false, .t 12), (false, .t 14)], none⟩,
 ⟨some 16, .un .not (.t 15), none⟩])
 (.cond (.t 16) (.seq (.reg [⟨some 4, .mv (.c (.bool false)), none⟩])
 .ret)
 .skip))
 (.seq (.seq (.reg [⟨some 17, .faddr 2 (.t 2), none⟩,
 ⟨some 18, .load 1 false (.t 17), none⟩,
 ⟨some 19, .faddr 2 (.t 3), none⟩,
 ⟨some 20, .load 1 false (.t 19), none⟩,
 ⟨some 21, .bin .neq (.t 18) (.t 20), none⟩])
 (.cond (.t 21) (.seq (.reg [⟨some 4, .mv (.c (.bool false)), none⟩])
 .ret)
 .skip))
 (.seq (.reg [⟨some 4, .mv (.c (.bool true)), none⟩])
 .ret)))))
def if_laws_eqCommit : IFn := ⟨22, [.inl 4], ib_laws_eqCommit, lcF []⟩
def ks_laws_eqCommit : List (List (Option Nat)) := [[none]]
def gf_laws_eqCommit (a0 : Commit) (a1 : Commit) : Option Bool := (gf_laws_eqIntS a0.up a1.up).bind fun x3 => if (!x3) = true then (some (false)) else ((gf_laws_eqFeatS a0.sheet a1.sheet).bind fun x5 => if (!x5) = true then (some (false)) else (if (!seq a0.note a1.note) = true then (some (false)) else (some (true))))
def c_laws_eqCommit : Con := ⟨Commit × Commit, Bool, 161, fun a => [.agg [.ro (List.map eInt a.1.up), .ro (List.map (eFeat false) a.1.sheet), .v (.string a.1.note)], .agg [.ro (List.map eInt a.2.up), .ro (List.map (eFeat false) a.2.sheet), .v (.string a.2.note)]], fun a => gf_laws_eqCommit a.1 a.2, fun a r => ⟨[(false, [.v (.bool r)])], []⟩, fun a => []⟩
/-! laws.eqHead -/
def ib_laws_eqHead : IC :=
 (.seq (.reg [⟨some 2, .box 130 [none, none] (.t 0), none⟩,
 ⟨some 3, .box 130 [none, none] (.t 1), none⟩,
 ⟨some 4, .mv (.c (.bool false)), none⟩])
 (.seq (.seq (.reg [⟨some 5, .faddr 0 (.t 2), none⟩,
 ⟨some 6, .load 1 false (.t 5), none⟩,
 ⟨some 7, .faddr 0 (.t 3), none⟩,
 ⟨some 8, .load 1 false (.t 7), none⟩,
 ⟨some 9, .bin .neq (.t 6) (.t 8), none⟩])
 (.cond (.t 9) (.seq (.reg [⟨some 4, .mv (.c (.bool false)), none⟩])
 .ret)
 .skip))
 (.seq (.seq (.reg [⟨some 10, .faddr 1 (.t 2), none⟩,
 ⟨some 11, .load 1 false (.t 10), none⟩,
 ⟨some 12, .faddr 1 (.t 3), none⟩,
 ⟨some 13, .load 1 false (.t 12), none⟩,
 ⟨some 14, .bin .neq (.t 11) (.t 13), none⟩])
 (.cond (.t 14) (.seq (.reg [⟨some 4, .mv (.c (.bool false)), none⟩])
 .ret)
 .skip))
 (.seq (.reg [⟨some 4, .mv (.c (.bool true)), none⟩])
 .ret))))
def if_laws_eqHead : IFn := ⟨15, [.inl 4], ib_laws_eqHead, lcF []⟩
def ks_laws_eqHead : List (List (Option Nat)) := [[none]]
def gf_laws_eqHead (a0 : Head) (a1 : Head) : Option Bool := if (!seq a0.name a1.name) = true then (some (false)) else (if (a0.at_ != a1.at_) = true then (some (false)) else (some (true)))
def c_laws_eqHead : Con := ⟨Head × Head, Bool, 162, fun a => [.agg [.v (.string a.1.name), .v (.int .i64 a.1.at_)], .agg [.v (.string a.2.name), .v (.int .i64 a.2.at_)]], fun a => gf_laws_eqHead a.1 a.2, fun a r => ⟨[(false, [.v (.bool r)])], []⟩, fun a => []⟩
/-! laws.eqCommitS -/
def ib_laws_eqCommitS : IC :=
 (.seq (.reg [⟨some 4, .mv (.c (.bool false)), none⟩])
 (.seq (.seq (.reg [⟨some 6, .mv (.t 0), none⟩,
 ⟨some 7, .len false (.t 6), none⟩,
 ⟨some 8, .mv (.t 1), none⟩,
 ⟨some 9, .len false (.t 8), none⟩,
 ⟨some 10, .bin .neq (.t 7) (.t 9), none⟩])
 (.cond (.t 10) (.seq (.reg [⟨some 4, .mv (.c (.bool false)), none⟩])
 .ret)
 .skip))
 (.seq (.seq (.reg [⟨some 5, .mv (.c (.int .i64 0)), none⟩])
 (blkC 0 (.loop (.seq (.seq (.reg [⟨some 11, .mv (.t 5), none⟩,
 ⟨some 12, .mv (.t 0), none⟩,
 ⟨some 13, .len false (.t 12), none⟩,
 ⟨some 14, .bin .lss (.t 11) (.t 13), none⟩])
 (.cond (.t 14) .skip
 (.exit 0)))
 (.seq (.block 1 (.seq (.drw [⟨some 17, .mv (.t 0), none⟩,
 ⟨some 18, .mv (.t 5), none⟩,
 ⟨some 19, .iaddr 3 (.t 17) (.t 18), none⟩,
 ⟨some 20, .load 3 true (.t 19), none⟩,
 ⟨some 21, .mv (.t 1), none⟩,
 ⟨some 22, .mv (.t 5), none⟩,
 ⟨some 23, .iaddr 3 (.t 21) (.t 22), none⟩,
 ⟨some 24, .load 3 true (.t 23), none⟩,
 ⟨some 25, .call 161 [(false, .t 20), (false, .t 24)], none⟩,
 ⟨some 26, .un .not (.t 25), none⟩] [(3, 7)])
 (.cond (.t 26) (.seq (.reg [⟨some 4, .mv (.c (.bool false)), none⟩])
 .ret)
 .skip)))
 (.reg [⟨some 15, .mv (.t 5), none⟩,
 ⟨some 16, .bin .add (.t 15) (.c (.int .i64 1)), none⟩,
 ⟨some 5, .mv (.t 16), none⟩]))))))
 (.seq (.reg [⟨some 4, .mv (.c (.bool true)), none⟩])
 .ret))))
def if_laws_eqCommitS : IFn := ⟨27, [.inl 4], ib_laws_eqCommitS, lcF []⟩
def ks_laws_eqCommitS : List (List (Option Nat)) := [[none]]
def gl_laws_eqCommitS_1 (a1 : (List Commit)) : List Commit → Nat → Option (Bool ⊕ Unit)
  | [], k22 => some (.inr ())
  | x23 :: l24, k22 => (idx a1 (k22 : Int)).bind fun x31 => (gf_laws_eqCommit x23 x31).bind fun x33 => if (!x33) = true then (some (.inl (false))) else (gl_laws_eqCommitS_1 a1 l24 (k22 + 1) )
def gf_laws_eqCommitS (a0 : (List Commit)) (a1 : (List Commit)) : Option Bool := if ((a0.length : Int) != (a1.length : Int)) = true then (some (false)) else (if fits a0.length = true then ((gl_laws_eqCommitS_1 a1 a0 0 ).bind fun q => match q with | .inl r => some r | .inr q20 => some (true)) else none)
def c_laws_eqCommitS : Con := ⟨(List Commit) × (List Commit), Bool, 163, fun a => [.ro (List.map (eCommit false) a.1), .ro (List.map (eCommit false) a.2)], fun a => gf_laws_eqCommitS a.1 a.2, fun a r => ⟨[(false, [.v (.bool r)])], []⟩, fun a => []⟩
/-! laws.eqHeadS -/
def ib_laws_eqHeadS : IC :=
 (.seq (.reg [⟨some 4, .mv (.c (.bool false)), none⟩])
 (.seq (.seq (.reg [⟨some 6, .mv (.t 0), none⟩,
 ⟨some 7, .len false (.t 6), none⟩,
 ⟨some 8, .mv (.t 1), none⟩,
 ⟨some 9, .len false (.t 8), none⟩,
 ⟨some 10, .bin .neq (.t 7) (.t 9), none⟩])
 (.cond (.t 10) (.seq (.reg [⟨some 4, .mv (.c (.bool false)), none⟩])
 .ret)
 .skip))
 (.seq (.seq (.reg [⟨some 5, .mv (.c (.int .i64 0)), none⟩])
 (blkC 0 (.loop (.seq (.seq (.reg [⟨some 11, .mv (.t 5), none⟩,
 ⟨some 12, .mv (.t 0), none⟩,
 ⟨some 13, .len false (.t 12), none⟩,
 ⟨some 14, .bin .lss (.t 11) (.t 13), none⟩])
 (.cond (.t 14) .skip
 (.exit 0)))
 (.seq (.block 1 (.seq (.drw [⟨some 17, .mv (.t 0), none⟩,
 ⟨some 18, .mv (.t 5), none⟩,
 ⟨some 19, .iaddr 2 (.t 17) (.t 18), none⟩,
 ⟨some 20, .load 2 true (.t 19), none⟩,
 ⟨some 21, .mv (.t 1), none⟩,
 ⟨some 22, .mv (.t 5), none⟩,
 ⟨some 23, .iaddr 2 (.t 21) (.t 22), none⟩,
 ⟨some 24, .load 2 true (.t 23), none⟩,
 ⟨some 25, .call 162 [(false, .t 20), (false, .t 24)], none⟩,
 ⟨some 26, .un .not (.t 25), none⟩] [(3, 7)])
 (.cond (.t 26) (.seq (.reg [⟨some 4, .mv (.c (.bool false)), none⟩])
 .ret)
 .skip)))
 (.reg [⟨some 15, .mv (.t 5), none⟩,
 ⟨some 16, .bin .add (.t 15) (.c (.int .i64 1)), none⟩,
 ⟨some 5, .mv (.t 16), none⟩]))))))
 (.seq (.reg [⟨some 4, .mv (.c (.bool true)), none⟩])
 .ret))))
def if_laws_eqHeadS : IFn := ⟨27, [.inl 4], ib_laws_eqHeadS, lcF []⟩
def ks_laws_eqHeadS : List (List (Option Nat)) := [[none]]
def gl_laws_eqHeadS_1 (a1 : (List Head)) : List Head → Nat → Option (Bool ⊕ Unit)
  | [], k22 => some (.inr ())
  | x23 :: l24, k22 => (idx a1 (k22 : Int)).bind fun x31 => (gf_laws_eqHead x23 x31).bind fun x33 => if (!x33) = true then (some (.inl (false))) else (gl_laws_eqHeadS_1 a1 l24 (k22 + 1) )
def gf_laws_eqHeadS (a0 : (List Head)) (a1 : (List Head)) : Option Bool := if ((a0.length : Int) != (a1.length : Int)) = true then (some (false)) else (if fits a0.length = true then ((gl_laws_eqHeadS_1 a1 a0 0 ).bind fun q => match q with | .inl r => some r | .inr q20 => some (true)) else none)
def c_laws_eqHeadS : Con := ⟨(List Head) × (List Head), Bool, 164, fun a => [.ro (List.map eHead a.1), .ro (List.map eHead a.2)], fun a => gf_laws_eqHeadS a.1 a.2, fun a r => ⟨[(false, [.v (.bool r)])], []⟩, fun a => []⟩
/-! laws.markText -/
def ib_laws_markText : IC :=
 (.seq (.reg [⟨some 2, .mv (.c (.string ⟨#[]⟩)), none⟩])
 (.seq (.seq (.reg [⟨some 4, .mv (.t 0), none⟩,
 ⟨some 5, .bin .leq (.t 4) (.c (.int .i64 0)), none⟩])
 (.cond (.t 5) (.seq (.reg [⟨some 2, .mv (.c (.string ⟨#[109, 48]⟩)), none⟩])
 .ret)
 .skip))
 (.seq (.reg [⟨some 3, .mv (.c (.string ⟨#[]⟩)), none⟩])
 (seqC (.block 0 (.loop (.seq (.seq (.reg [⟨some 6, .mv (.t 0), none⟩,
 ⟨some 7, .bin .gtr (.t 6) (.c (.int .i64 0)), none⟩])
 (.cond (.t 7) .skip
 (.exit 0)))
 (.block 1 (.seq (.reg [⟨some 8, .mv (.t 0), none⟩,
 ⟨some 9, .bin .rem (.t 8) (.c (.int .i64 10)), none⟩,
 ⟨some 10, .bin .add (.c (.int .i64 48)) (.t 9), none⟩,
 ⟨some 11, .conv .u8 (.t 10), none⟩,
 ⟨some 12, .lit 257 [none] [.v (.int .u8 0)] 1 [(0, .t 11)], none⟩,
 ⟨some 13, .bytes (.t 12), none⟩,
 ⟨some 14, .mv (.t 3), none⟩,
 ⟨some 15, .bin .add (.t 13) (.t 14), none⟩,
 ⟨some 3, .mv (.t 15), none⟩])
 (.reg [⟨some 16, .mv (.t 0), none⟩,
 ⟨some 17, .bin .quo (.t 16) (.c (.int .i64 10)), none⟩,
 ⟨some 0, .mv (.t 17), none⟩]))))))
 (.seq (.reg [⟨some 18, .mv (.t 3), none⟩,
 ⟨some 19, .bin .add (.c (.string ⟨#[109]⟩)) (.t 18), none⟩,
 ⟨some 2, .mv (.t 19), none⟩])
 .ret)))))
def if_laws_markText : IFn := ⟨20, [.inl 2], ib_laws_markText, lcF []⟩
def ks_laws_markText : List (List (Option Nat)) := [[none]]
def gl_laws_markText_1 : Nat → Int → Str → Option Str
  | 0, _, _ => none
  | n12 + 1, v10, v11 => if (decide (v10 > 0)) = true then ((cat (bstr ([(IntKind.u8.wrap (IntKind.i64.wrap (48 + (Int.tmod v10 10))))] : (List Int))) v11).bind fun x14 => gl_laws_markText_1 n12 (IntKind.i64.wrap (Int.tdiv v10 10)) x14) else (some v11)
def gf_laws_markText (a0 : Int) : Option Str := if (decide (a0 ≤ 0)) = true then (some ((⟨#[109, 48]⟩ : Str))) else ((gl_laws_markText_1 rounds a0 (⟨#[]⟩ : Str)).bind fun q9 => (cat (⟨#[109]⟩ : Str) q9).bind fun x17 => some (x17))
def c_laws_markText : Con := ⟨Int, Str, 166, fun a => [.v (.int .i64 a)], fun a => gf_laws_markText a, fun a r => ⟨[(false, [.v (.string r)])], []⟩, fun a => []⟩
/-! laws.markPtS -/
def ib_laws_markPtS : IC :=
 (.seq (.reg [⟨some 4, .mv (.c (.int .i64 0)), none⟩])
 (.seq (.seq (.reg [⟨some 5, .mv (.c (.int .i64 0)), none⟩])
 (blkC 0 (.loop (.seq (.seq (.reg [⟨some 6, .mv (.t 5), none⟩,
 ⟨some 7, .mv (.t 0), none⟩,
 ⟨some 8, .len false (.t 7), none⟩,
 ⟨some 9, .bin .lss (.t 6) (.t 8), none⟩])
 (.cond (.t 9) .skip
 (.exit 0)))
 (.seq (.block 1 (.seq (.reg [⟨some 12, .mv (.t 0), none⟩,
 ⟨some 13, .mv (.t 5), none⟩,
 ⟨some 14, .mv (.t 1), none⟩,
 ⟨some 15, .iaddr 2 (.t 12) (.t 13), none⟩,
 ⟨some 16, .faddr 0 (.t 15), none⟩,
 ⟨none, .store [none] (.t 16) (.t 14), none⟩])
 (.seq (.reg [⟨some 17, .mv (.t 1), none⟩,
 ⟨some 18, .bin .add (.t 17) (.c (.int .i64 1)), none⟩,
 ⟨some 1, .mv (.t 18), none⟩])
 (.seq (.reg [⟨some 19, .mv (.t 0), none⟩,
 ⟨some 20, .mv (.t 5), none⟩,
 ⟨some 21, .mv (.t 1), none⟩,
 ⟨some 22, .iaddr 2 (.t 19) (.t 20), none⟩,
 ⟨some 23, .faddr 1 (.t 22), none⟩,
 ⟨none, .store [none] (.t 23) (.t 21), none⟩])
 (.reg [⟨some 24, .mv (.t 1), none⟩,
 ⟨some 25, .bin .add (.t 24) (.c (.int .i64 1)), none⟩,
 ⟨some 1, .mv (.t 25), none⟩])))))
 (.reg [⟨some 10, .mv (.t 5), none⟩,
 ⟨some 11, .bin .add (.t 10) (.c (.int .i64 1)), none⟩,
 ⟨some 5, .mv (.t 11), none⟩]))))))
 (.seq (.reg [⟨some 26, .mv (.t 1), none⟩,
 ⟨some 4, .mv (.t 26), none⟩])
 .ret)))
def if_laws_markPtS : IFn := ⟨27, [.inl 4], ib_laws_markPtS, lcF []⟩
def ks_laws_markPtS : List (List (Option Nat)) := [[none]]
def gl_laws_markPtS_1 : Nat → Int → Int → (List Pt) → Option (Int × (List Pt))
  | 0, _, _, _ => none
  | n20 + 1, v17, v18, v19 => if (decide (v18 < (v19.length : Int))) = true then ((idx v19 v18).bind fun x21 => (idx (List.set v19 v18.toNat (⟨v17, x21.y⟩ : Pt)) v18).bind fun x23 => gl_laws_markPtS_1 n20 (IntKind.i64.wrap ((IntKind.i64.wrap (v17 + 1)) + 1)) (IntKind.i64.wrap (v18 + 1)) (List.set (List.set v19 v18.toNat (⟨v17, x21.y⟩ : Pt)) v18.toNat (⟨x23.x, (IntKind.i64.wrap (v17 + 1))⟩ : Pt))) else (some (v17, v19))
def gf_laws_markPtS (a0 : (List Pt)) (a1 : Int) : Option (Int × (List Pt)) := (gl_laws_markPtS_1 rounds a1 0 a0).bind fun q16 => some (q16.1, q16.2)
def c_laws_markPtS : Con := ⟨(List Pt) × Int, (Int × (List Pt)), 167, fun a => [.io 0 a.1.length 66, .v (.int .i64 a.2)], fun a => gf_laws_markPtS a.1 a.2, fun a r => ⟨[(false, [.v (.int .i64 r.1)])], [some (List.map ePt r.2)]⟩, fun a => [(false, 66, List.map ePt a.1)]⟩
theorem l_laws_markPtS {a0 : (List Pt)} {a1 : Int} {r : (Int × (List Pt))} (h : gf_laws_markPtS a0 a1 = some r) : (r.2).length = (a0).length := by
  unfold gf_laws_markPtS at h
  obtain ⟨q, h1, h2⟩ := bnd h
  have key := fuelLen (gl := gl_laws_markPtS_1) (fun _ _ _ => rfl) (fun n k i a q h => by
    simp only [gl_laws_markPtS_1] at h
    split at h
    · simp only [Option.bind_eq_some_iff] at h
      obtain ⟨_, _, _, _, h⟩ := h
      exact .inl ⟨_, _, _, by simp, h⟩
    · cases h
      exact .inr rfl) _ _ _ _ _ h1
  cases h2
  exact key

/-! laws.markTagS -/
def ib_laws_markTagS : IC :=
 (.seq (.reg [⟨some 4, .mv (.c (.int .i64 0)), none⟩])
 (.seq (.seq (.reg [⟨some 5, .mv (.c (.int .i64 0)), none⟩])
 (blkC 0 (.loop (.seq (.seq (.reg [⟨some 6, .mv (.t 5), none⟩,
 ⟨some 7, .mv (.t 0), none⟩,
 ⟨some 8, .len false (.t 7), none⟩,
 ⟨some 9, .bin .lss (.t 6) (.t 8), none⟩])
 (.cond (.t 9) .skip
 (.exit 0)))
 (.seq (.block 1 (.seq (.reg [⟨some 12, .mv (.t 0), none⟩,
 ⟨some 13, .mv (.t 5), none⟩,
 ⟨some 14, .mv (.t 1), none⟩,
 ⟨some 15, .call 166 [(false, .t 14)], none⟩,
 ⟨some 16, .iaddr 2 (.t 12) (.t 13), none⟩,
 ⟨some 17, .faddr 0 (.t 16), none⟩,
 ⟨none, .store [none] (.t 17) (.t 15), none⟩])
 (.seq (.reg [⟨some 18, .mv (.t 1), none⟩,
 ⟨some 19, .bin .add (.t 18) (.c (.int .i64 1)), none⟩,
 ⟨some 1, .mv (.t 19), none⟩])
 (.seq (.reg [⟨some 20, .mv (.t 0), none⟩,
 ⟨some 21, .mv (.t 5), none⟩,
 ⟨some 22, .mv (.t 1), none⟩,
 ⟨some 23, .call 166 [(false, .t 22)], none⟩,
 ⟨some 24, .iaddr 2 (.t 20) (.t 21), none⟩,
 ⟨some 25, .faddr 1 (.t 24), none⟩,
 ⟨none, .store [none] (.t 25) (.t 23), none⟩])
 (.reg [⟨some 26, .mv (.t 1), none⟩,
 ⟨some 27, .bin .add (.t 26) (.c (.int .i64 1)), none⟩,
 ⟨some 1, .mv (.t 27), none⟩])))))
 (.reg [⟨some 10, .mv (.t 5), none⟩,
 ⟨some 11, .bin .add (.t 10) (.c (.int .i64 1)), none⟩,
 ⟨some 5, .mv (.t 11), none⟩]))))))
 (.seq (.reg [⟨some 28, .mv (.t 1), none⟩,
 ⟨some 4, .mv (.t 28), none⟩])
 .ret)))
def if_laws_markTagS : IFn := ⟨29, [.inl 4], ib_laws_markTagS, lcF []⟩
def ks_laws_markTagS : List (List (Option Nat)) := [[none]]
def gl_laws_markTagS_1 : Nat → Int → Int → (List Tag) → Option (Int × (List Tag))
  | 0, _, _, _ => none
  | n32 + 1, v29, v30, v31 => if (decide (v30 < (v31.length : Int))) = true then ((gf_laws_markText v29).bind fun x33 => (idx v31 v30).bind fun x35 => (gf_laws_markText (IntKind.i64.wrap (v29 + 1))).bind fun x37 => (idx (List.set v31 v30.toNat (⟨x33, x35.val⟩ : Tag)) v30).bind fun x39 => gl_laws_markTagS_1 n32 (IntKind.i64.wrap ((IntKind.i64.wrap (v29 + 1)) + 1)) (IntKind.i64.wrap (v30 + 1)) (List.set (List.set v31 v30.toNat (⟨x33, x35.val⟩ : Tag)) v30.toNat (⟨x39.key, x37⟩ : Tag))) else (some (v29, v31))
def gf_laws_markTagS (a0 : (List Tag)) (a1 : Int) : Option (Int × (List Tag)) := (gl_laws_markTagS_1 rounds a1 0 a0).bind fun q28 => some (q28.1, q28.2)
def c_laws_markTagS : Con := ⟨(List Tag) × Int, (Int × (List Tag)), 168, fun a => [.io 0 a.1.length 82, .v (.int .i64 a.2)], fun a => gf_laws_markTagS a.1 a.2, fun a r => ⟨[(false, [.v (.int .i64 r.1)])], [some (List.map eTag r.2)]⟩, fun a => [(false, 82, List.map eTag a.1)]⟩
theorem l_laws_markTagS {a0 : (List Tag)} {a1 : Int} {r : (Int × (List Tag))} (h : gf_laws_markTagS a0 a1 = some r) : (r.2).length = (a0).length := by
  unfold gf_laws_markTagS at h
  obtain ⟨q, h1, h2⟩ := bnd h
  have key := fuelLen (gl := gl_laws_markTagS_1) (fun _ _ _ => rfl) (fun n k i a q h => by
    simp only [gl_laws_markTagS_1] at h
    split at h
    · simp only [Option.bind_eq_some_iff] at h
      obtain ⟨_, _, _, _, _, _, _, _, h⟩ := h
      exact .inl ⟨_, _, _, by simp, h⟩
    · cases h
      exact .inr rfl) _ _ _ _ _ h1
  cases h2
  exact key

/-! laws.markIntS -/
def ib_laws_markIntS : IC :=
 (.seq (.reg [⟨some 4, .mv (.c (.int .i64 0)), none⟩])
 (.seq (.seq (.reg [⟨some 5, .mv (.c (.int .i64 0)), none⟩])
 (blkC 0 (.loop (.seq (.seq (.reg [⟨some 6, .mv (.t 5), none⟩,
 ⟨some 7, .mv (.t 0), none⟩,
 ⟨some 8, .len false (.t 7), none⟩,
 ⟨some 9, .bin .lss (.t 6) (.t 8), none⟩])
 (.cond (.t 9) .skip
 (.exit 0)))
 (.seq (.block 1 (.seq (.reg [⟨some 12, .mv (.t 0), none⟩,
 ⟨some 13, .mv (.t 5), none⟩,
 ⟨some 14, .mv (.t 1), none⟩,
 ⟨some 15, .iaddr 1 (.t 12) (.t 13), none⟩,
 ⟨none, .store [none] (.t 15) (.t 14), none⟩])
 (.reg [⟨some 16, .mv (.t 1), none⟩,
 ⟨some 17, .bin .add (.t 16) (.c (.int .i64 1)), none⟩,
 ⟨some 1, .mv (.t 17), none⟩])))
 (.reg [⟨some 10, .mv (.t 5), none⟩,
 ⟨some 11, .bin .add (.t 10) (.c (.int .i64 1)), none⟩,
 ⟨some 5, .mv (.t 11), none⟩]))))))
 (.seq (.reg [⟨some 18, .mv (.t 1), none⟩,
 ⟨some 4, .mv (.t 18), none⟩])
 .ret)))
def if_laws_markIntS : IFn := ⟨19, [.inl 4], ib_laws_markIntS, lcF []⟩
def ks_laws_markIntS : List (List (Option Nat)) := [[none]]
def gl_laws_markIntS_1 : Nat → Int → Int → (List Int) → Option (Int × (List Int))
  | 0, _, _, _ => none
  | n16 + 1, v13, v14, v15 => if (decide (v14 < (v15.length : Int))) = true then ((idx v15 v14).bind fun x17 => gl_laws_markIntS_1 n16 (IntKind.i64.wrap (v13 + 1)) (IntKind.i64.wrap (v14 + 1)) (List.set v15 v14.toNat v13)) else (some (v13, v15))
def gf_laws_markIntS (a0 : (List Int)) (a1 : Int) : Option (Int × (List Int)) := (gl_laws_markIntS_1 rounds a1 0 a0).bind fun q12 => some (q12.1, q12.2)
def c_laws_markIntS : Con := ⟨(List Int) × Int, (Int × (List Int)), 169, fun a => [.io 0 a.1.length 17, .v (.int .i64 a.2)], fun a => gf_laws_markIntS a.1 a.2, fun a r => ⟨[(false, [.v (.int .i64 r.1)])], [some (List.map eInt r.2)]⟩, fun a => [(false, 17, List.map eInt a.1)]⟩
theorem l_laws_markIntS {a0 : (List Int)} {a1 : Int} {r : (Int × (List Int))} (h : gf_laws_markIntS a0 a1 = some r) : (r.2).length = (a0).length := by
  unfold gf_laws_markIntS at h
  obtain ⟨q, h1, h2⟩ := bnd h
  have key := fuelLen (gl := gl_laws_markIntS_1) (fun _ _ _ => rfl) (fun n k i a q h => by
    simp only [gl_laws_markIntS_1] at h
    split at h
    · simp only [Option.bind_eq_some_iff] at h
      obtain ⟨_, _, h⟩ := h
      exact .inl ⟨_, _, _, by simp, h⟩
    · cases h
      exact .inr rfl) _ _ _ _ _ h1
  cases h2
  exact key

/-! laws.markFeatS -/
def ib_laws_markFeatS : IC :=
 (.seq (.reg [⟨some 4, .mv (.c (.int .i64 0)), none⟩])
 (.seq (.seq (.reg [⟨some 5, .mv (.c (.int .i64 0)), none⟩])
 (blkC 0 (.loop (.seq (.seq (.reg [⟨some 6, .mv (.t 5), none⟩,
 ⟨some 7, .mv (.t 0), none⟩,
 ⟨some 8, .len false (.t 7), none⟩,
 ⟨some 9, .bin .lss (.t 6) (.t 8), none⟩])
 (.cond (.t 9) .skip
 (.exit 0)))
 (.seq (.block 1 (.seq (.reg [⟨some 12, .mv (.t 0), none⟩,
 ⟨some 13, .mv (.t 5), none⟩,
 ⟨some 14, .mv (.t 1), none⟩,
 ⟨some 15, .call 166 [(false, .t 14)], none⟩,
 ⟨some 16, .iaddr 4 (.t 12) (.t 13), none⟩,
 ⟨some 17, .faddr 0 (.t 16), none⟩,
 ⟨none, .store [none] (.t 17) (.t 15), none⟩])
 (.seq (.reg [⟨some 18, .mv (.t 1), none⟩,
 ⟨some 19, .bin .add (.t 18) (.c (.int .i64 1)), none⟩,
 ⟨some 1, .mv (.t 19), none⟩])
 (.seq (.reg [⟨some 20, .mv (.t 0), none⟩,
 ⟨some 21, .mv (.t 5), none⟩,
 ⟨some 22, .mv (.t 1), none⟩,
 ⟨some 23, .iaddr 4 (.t 20) (.t 21), none⟩,
 ⟨some 24, .faddr 1 (.t 23), none⟩,
 ⟨some 25, .faddr 0 (.t 24), none⟩,
 ⟨none, .store [none] (.t 25) (.t 22), none⟩])
 (.seq (.reg [⟨some 26, .mv (.t 1), none⟩,
 ⟨some 27, .bin .add (.t 26) (.c (.int .i64 1)), none⟩,
 ⟨some 1, .mv (.t 27), none⟩])
 (.seq (.reg [⟨some 28, .mv (.t 0), none⟩,
 ⟨some 29, .mv (.t 5), none⟩,
 ⟨some 30, .iaddr 4 (.t 28) (.t 29), none⟩,
 ⟨some 31, .faddr 1 (.t 30), none⟩,
 ⟨some 32, .faddr 1 (.t 31), none⟩,
 ⟨some 33, .load 1 false (.t 32), none⟩,
 ⟨some 34, .mv (.t 1), none⟩,
 ⟨some 35, .shut (.t 32) (.call 167 [(true, .t 33), (false, .t 34)]), none⟩,
 ⟨some 1, .mv (.t 35), none⟩])
 (.reg [⟨some 36, .mv (.t 0), none⟩,
 ⟨some 37, .mv (.t 5), none⟩,
 ⟨some 38, .iaddr 4 (.t 36) (.t 37), none⟩,
 ⟨some 39, .faddr 3 (.t 38), none⟩,
 ⟨some 40, .load 1 false (.t 39), none⟩,
 ⟨some 41, .mv (.t 1), none⟩,
 ⟨some 42, .shut (.t 39) (.call 168 [(true, .t 40), (false, .t 41)]), none⟩,
 ⟨some 1, .mv (.t 42), none⟩])))))))
 (.reg [⟨some 10, .mv (.t 5), none⟩,
 ⟨some 11, .bin .add (.t 10) (.c (.int .i64 1)), none⟩,
 ⟨some 5, .mv (.t 11), none⟩]))))))
 (.seq (.reg [⟨some 43, .mv (.t 1), none⟩,
 ⟨some 4, .mv (.t 43), none⟩])
 .ret)))
def if_laws_markFeatS : IFn := ⟨44, [.inl 4], ib_laws_markFeatS, lcF []⟩
def ks_laws_markFeatS : List (List (Option Nat)) := [[none]]
def gl_laws_markFeatS_1 : Nat → Int → Int → (List Feat) → Option (Int × (List Feat))
  | 0, _, _, _ => none
  | n62 + 1, v59, v60, v61 => if (decide (v60 < (v61.length : Int))) = true then ((gf_laws_markText v59).bind fun x63 => (idx v61 v60).bind fun x65 => (idx (List.set v61 v60.toNat (⟨x63, x65.shape, x65.tags⟩ : Feat)) v60).bind fun x67 => (idx (List.set (List.set v61 v60.toNat (⟨x63, x65.shape, x65.tags⟩ : Feat)) v60.toNat (⟨x67.id, ⟨(IntKind.i64.wrap (v59 + 1)), x67.shape.pts⟩, x67.tags⟩ : Feat)) v60).bind fun x69 => (gf_laws_markPtS x69.shape.pts (IntKind.i64.wrap ((IntKind.i64.wrap (v59 + 1)) + 1))).bind fun x73 => (idx (List.set (List.set (List.set v61 v60.toNat (⟨x63, x65.shape, x65.tags⟩ : Feat)) v60.toNat (⟨x67.id, ⟨(IntKind.i64.wrap (v59 + 1)), x67.shape.pts⟩, x67.tags⟩ : Feat)) v60.toNat (⟨x69.id, ⟨x69.shape.kind, x73.2⟩, x69.tags⟩ : Feat)) v60).bind fun x75 => (gf_laws_markTagS x75.tags x73.1).bind fun x79 => gl_laws_markFeatS_1 n62 x79.1 (IntKind.i64.wrap (v60 + 1)) (List.set (List.set (List.set (List.set v61 v60.toNat (⟨x63, x65.shape, x65.tags⟩ : Feat)) v60.toNat (⟨x67.id, ⟨(IntKind.i64.wrap (v59 + 1)), x67.shape.pts⟩, x67.tags⟩ : Feat)) v60.toNat (⟨x69.id, ⟨x69.shape.kind, x73.2⟩, x69.tags⟩ : Feat)) v60.toNat (⟨x75.id, x75.shape, x79.2⟩ : Feat))) else (some (v59, v61))
def gf_laws_markFeatS (a0 : (List Feat)) (a1 : Int) : Option (Int × (List Feat)) := (gl_laws_markFeatS_1 rounds a1 0 a0).bind fun q58 => some (q58.1, q58.2)
def c_laws_markFeatS : Con := ⟨(List Feat) × Int, (Int × (List Feat)), 170, fun a => [.io 0 a.1.length 100, .v (.int .i64 a.2)], fun a => gf_laws_markFeatS a.1 a.2, fun a r => ⟨[(false, [.v (.int .i64 r.1)])], [some (List.map (eFeat true) r.2)]⟩, fun a => [(false, 100, List.map (eFeat true) a.1)]⟩
theorem l_laws_markFeatS {a0 : (List Feat)} {a1 : Int} {r : (Int × (List Feat))} (h : gf_laws_markFeatS a0 a1 = some r) : (r.2).length = (a0).length := by
  unfold gf_laws_markFeatS at h
  obtain ⟨q, h1, h2⟩ := bnd h
  have key := fuelLen (gl := gl_laws_markFeatS_1) (fun _ _ _ => rfl) (fun n k i a q h => by
    simp only [gl_laws_markFeatS_1] at h
    split at h
    · simp only [Option.bind_eq_some_iff] at h
      obtain ⟨_, _, _, _, _, _, _, _, _, _, _, _, _, _, h⟩ := h
      exact .inl ⟨_, _, _, by simp, h⟩
    · cases h
      exact .inr rfl) _ _ _ _ _ h1
  cases h2
  exact key

/-! laws.markCommitS -/
def ib_laws_markCommitS : IC :=
 (.seq (.reg [⟨some 4, .mv (.c (.int .i64 0)), none⟩])
 (.seq (.seq (.reg [⟨some 5, .mv (.c (.int .i64 0)), none⟩])
 (blkC 0 (.loop (.seq (.seq (.reg [⟨some 6, .mv (.t 5), none⟩,
 ⟨some 7, .mv (.t 0), none⟩,
 ⟨some 8, .len false (.t 7), none⟩,
 ⟨some 9, .bin .lss (.t 6) (.t 8), none⟩])
 (.cond (.t 9) .skip
 (.exit 0)))
 (.seq (.block 1 (.seq (.reg [⟨some 12, .mv (.t 0), none⟩,
 ⟨some 13, .mv (.t 5), none⟩,
 ⟨some 14, .iaddr 3 (.t 12) (.t 13), none⟩,
 ⟨some 15, .faddr 0 (.t 14), none⟩,
 ⟨some 16, .load 1 false (.t 15), none⟩,
 ⟨some 17, .mv (.t 1), none⟩,
 ⟨some 18, .shut (.t 15) (.call 169 [(true, .t 16), (false, .t 17)]), none⟩,
 ⟨some 1, .mv (.t 18), none⟩])
 (.seq (.reg [⟨some 19, .mv (.t 0), none⟩,
 ⟨some 20, .mv (.t 5), none⟩,
 ⟨some 21, .iaddr 3 (.t 19) (.t 20), none⟩,
 ⟨some 22, .faddr 1 (.t 21), none⟩,
 ⟨some 23, .load 1 false (.t 22), none⟩,
 ⟨some 24, .mv (.t 1), none⟩,
 ⟨some 25, .shut (.t 22) (.call 170 [(true, .t 23), (false, .t 24)]), none⟩,
 ⟨some 1, .mv (.t 25), none⟩])
 (.seq (.reg [⟨some 26, .mv (.t 0), none⟩,
 ⟨some 27, .mv (.t 5), none⟩,
 ⟨some 28, .mv (.t 1), none⟩,
 ⟨some 29, .call 166 [(false, .t 28)], none⟩,
 ⟨some 30, .iaddr 3 (.t 26) (.t 27), none⟩,
 ⟨some 31, .faddr 2 (.t 30), none⟩,
 ⟨none, .store [none] (.t 31) (.t 29), none⟩])
 (.reg [⟨some 32, .mv (.t 1), none⟩,
 ⟨some 33, .bin .add (.t 32) (.c (.int .i64 1)), none⟩,
 ⟨some 1, .mv (.t 33), none⟩])))))
 (.reg [⟨some 10, .mv (.t 5), none⟩,
 ⟨some 11, .bin .add (.t 10) (.c (.int .i64 1)), none⟩,
 ⟨some 5, .mv (.t 11), none⟩]))))))
 (.seq (.reg [⟨some 34, .mv (.t 1), none⟩,
 ⟨some 4, .mv (.t 34), none⟩])
 .ret)))
def if_laws_markCommitS : IFn := ⟨35, [.inl 4], ib_laws_markCommitS, lcF []⟩
def ks_laws_markCommitS : List (List (Option Nat)) := [[none]]
def gl_laws_markCommitS_1 : Nat → Int → Int → (List Commit) → Option (Int × (List Commit))
  | 0, _, _, _ => none
  | n56 + 1, v53, v54, v55 => if (decide (v54 < (v55.length : Int))) = true then ((idx v55 v54).bind fun x57 => (gf_laws_markIntS x57.up v53).bind fun x61 => (idx (List.set v55 v54.toNat (⟨x61.2, x57.sheet, x57.note⟩ : Commit)) v54).bind fun x63 => (gf_laws_markFeatS x63.sheet x61.1).bind fun x67 => (gf_laws_markText x67.1).bind fun x69 => (idx (List.set (List.set v55 v54.toNat (⟨x61.2, x57.sheet, x57.note⟩ : Commit)) v54.toNat (⟨x63.up, x67.2, x63.note⟩ : Commit)) v54).bind fun x71 => gl_laws_markCommitS_1 n56 (IntKind.i64.wrap (x67.1 + 1)) (IntKind.i64.wrap (v54 + 1)) (List.set (List.set (List.set v55 v54.toNat (⟨x61.2, x57.sheet, x57.note⟩ : Commit)) v54.toNat (⟨x63.up, x67.2, x63.note⟩ : Commit)) v54.toNat (⟨x71.up, x71.sheet, x69⟩ : Commit))) else (some (v53, v55))
def gf_laws_markCommitS (a0 : (List Commit)) (a1 : Int) : Option (Int × (List Commit)) := (gl_laws_markCommitS_1 rounds a1 0 a0).bind fun q52 => some (q52.1, q52.2)
def c_laws_markCommitS : Con := ⟨(List Commit) × Int, (Int × (List Commit)), 171, fun a => [.io 0 a.1.length 115, .v (.int .i64 a.2)], fun a => gf_laws_markCommitS a.1 a.2, fun a r => ⟨[(false, [.v (.int .i64 r.1)])], [some (List.map (eCommit true) r.2)]⟩, fun a => [(false, 115, List.map (eCommit true) a.1)]⟩
theorem l_laws_markCommitS {a0 : (List Commit)} {a1 : Int} {r : (Int × (List Commit))} (h : gf_laws_markCommitS a0 a1 = some r) : (r.2).length = (a0).length := by
  unfold gf_laws_markCommitS at h
  obtain ⟨q, h1, h2⟩ := bnd h
  have key := fuelLen (gl := gl_laws_markCommitS_1) (fun _ _ _ => rfl) (fun n k i a q h => by
    simp only [gl_laws_markCommitS_1] at h
    split at h
    · simp only [Option.bind_eq_some_iff] at h
      obtain ⟨_, _, _, _, _, _, _, _, _, _, _, _, h⟩ := h
      exact .inl ⟨_, _, _, by simp, h⟩
    · cases h
      exact .inr rfl) _ _ _ _ _ h1
  cases h2
  exact key

/-! laws.markHeadS -/
def ib_laws_markHeadS : IC :=
 (.seq (.reg [⟨some 4, .mv (.c (.int .i64 0)), none⟩])
 (.seq (.seq (.reg [⟨some 5, .mv (.c (.int .i64 0)), none⟩])
 (blkC 0 (.loop (.seq (.seq (.reg [⟨some 6, .mv (.t 5), none⟩,
 ⟨some 7, .mv (.t 0), none⟩,
 ⟨some 8, .len false (.t 7), none⟩,
 ⟨some 9, .bin .lss (.t 6) (.t 8), none⟩])
 (.cond (.t 9) .skip
 (.exit 0)))
 (.seq (.block 1 (.seq (.reg [⟨some 12, .mv (.t 0), none⟩,
 ⟨some 13, .mv (.t 5), none⟩,
 ⟨some 14, .mv (.t 1), none⟩,
 ⟨some 15, .call 166 [(false, .t 14)], none⟩,
 ⟨some 16, .iaddr 2 (.t 12) (.t 13), none⟩,
 ⟨some 17, .faddr 0 (.t 16), none⟩,
 ⟨none, .store [none] (.t 17) (.t 15), none⟩])
 (.seq (.reg [⟨some 18, .mv (.t 1), none⟩,
 ⟨some 19, .bin .add (.t 18) (.c (.int .i64 1)), none⟩,
 ⟨some 1, .mv (.t 19), none⟩])
 (.seq (.reg [⟨some 20, .mv (.t 0), none⟩,
 ⟨some 21, .mv (.t 5), none⟩,
 ⟨some 22, .mv (.t 1), none⟩,
 ⟨some 23, .iaddr 2 (.t 20) (.t 21), none⟩,
 ⟨some 24, .faddr 1 (.t 23), none⟩,
 ⟨none, .store [none] (.t 24) (.t 22), none⟩])
 (.reg [⟨some 25, .mv (.t 1), none⟩,
 ⟨some 26, .bin .add (.t 25) (.c (.int .i64 1)), none⟩,
 ⟨some 1, .mv (.t 26), none⟩])))))
 (.reg [⟨some 10, .mv (.t 5), none⟩,
 ⟨some 11, .bin .add (.t 10) (.c (.int .i64 1)), none⟩,
 ⟨some 5, .mv (.t 11), none⟩]))))))
 (.seq (.reg [⟨some 27, .mv (.t 1), none⟩,
 ⟨some 4, .mv (.t 27), none⟩])
 .ret)))
def if_laws_markHeadS : IFn := ⟨28, [.inl 4], ib_laws_markHeadS, lcF []⟩
def ks_laws_markHeadS : List (List (Option Nat)) := [[none]]
def gl_laws_markHeadS_1 : Nat → Int → Int → (List Head) → Option (Int × (List Head))
  | 0, _, _, _ => none
  | n26 + 1, v23, v24, v25 => if (decide (v24 < (v25.length : Int))) = true then ((gf_laws_markText v23).bind fun x27 => (idx v25 v24).bind fun x29 => (idx (List.set v25 v24.toNat (⟨x27, x29.at_⟩ : Head)) v24).bind fun x31 => gl_laws_markHeadS_1 n26 (IntKind.i64.wrap ((IntKind.i64.wrap (v23 + 1)) + 1)) (IntKind.i64.wrap (v24 + 1)) (List.set (List.set v25 v24.toNat (⟨x27, x29.at_⟩ : Head)) v24.toNat (⟨x31.name, (IntKind.i64.wrap (v23 + 1))⟩ : Head))) else (some (v23, v25))
def gf_laws_markHeadS (a0 : (List Head)) (a1 : Int) : Option (Int × (List Head)) := (gl_laws_markHeadS_1 rounds a1 0 a0).bind fun q22 => some (q22.1, q22.2)
def c_laws_markHeadS : Con := ⟨(List Head) × Int, (Int × (List Head)), 172, fun a => [.io 0 a.1.length 130, .v (.int .i64 a.2)], fun a => gf_laws_markHeadS a.1 a.2, fun a r => ⟨[(false, [.v (.int .i64 r.1)])], [some (List.map eHead r.2)]⟩, fun a => [(false, 130, List.map eHead a.1)]⟩
theorem l_laws_markHeadS {a0 : (List Head)} {a1 : Int} {r : (Int × (List Head))} (h : gf_laws_markHeadS a0 a1 = some r) : (r.2).length = (a0).length := by
  unfold gf_laws_markHeadS at h
  obtain ⟨q, h1, h2⟩ := bnd h
  have key := fuelLen (gl := gl_laws_markHeadS_1) (fun _ _ _ => rfl) (fun n k i a q h => by
    simp only [gl_laws_markHeadS_1] at h
    split at h
    · simp only [Option.bind_eq_some_iff] at h
      obtain ⟨_, _, _, _, _, _, h⟩ := h
      exact .inl ⟨_, _, _, by simp, h⟩
    · cases h
      exact .inr rfl) _ _ _ _ _ h1
  cases h2
  exact key

/-! laws.heldPtS -/
def ib_laws_heldPtS : IC :=
 (.seq (.reg [⟨some 4, .mv (.c (.int .i64 0)), none⟩])
 (.seq (.seq (.reg [⟨some 5, .mv (.c (.int .i64 0)), none⟩])
 (blkC 0 (.loop (.seq (.seq (.reg [⟨some 6, .mv (.t 5), none⟩,
 ⟨some 7, .mv (.t 0), none⟩,
 ⟨some 8, .len false (.t 7), none⟩,
 ⟨some 9, .bin .lss (.t 6) (.t 8), none⟩])
 (.cond (.t 9) .skip
 (.exit 0)))
 (.seq (.block 1 (.seq (.seq (.reg [⟨some 12, .mv (.t 0), none⟩,
 ⟨some 13, .mv (.t 5), none⟩,
 ⟨some 14, .iaddr 2 (.t 12) (.t 13), none⟩,
 ⟨some 15, .faddr 0 (.t 14), none⟩,
 ⟨some 16, .load 1 false (.t 15), none⟩,
 ⟨some 17, .mv (.t 1), none⟩,
 ⟨some 18, .bin .neq (.t 16) (.t 17), none⟩])
 (.cond (.t 18) (.seq (.reg [⟨some 4, .mv (.c (.int .i64 (-1))), none⟩])
 .ret)
 .skip))
 (.seq (.reg [⟨some 19, .mv (.t 1), none⟩,
 ⟨some 20, .bin .add (.t 19) (.c (.int .i64 1)), none⟩,
 ⟨some 1, .mv (.t 20), none⟩])
 (.seq (.seq (.reg [⟨some 21, .mv (.t 0), none⟩,
 ⟨some 22, .mv (.t 5), none⟩,
 ⟨some 23, .iaddr 2 (.t 21) (.t 22), none⟩,
 ⟨some 24, .faddr 1 (.t 23), none⟩,
 ⟨some 25, .load 1 false (.t 24), none⟩,
 ⟨some 26, .mv (.t 1), none⟩,
 ⟨some 27, .bin .neq (.t 25) (.t 26), none⟩])
 (.cond (.t 27) (.seq (.reg [⟨some 4, .mv (.c (.int .i64 (-1))), none⟩])
 .ret)
 .skip))
 (.reg [⟨some 28, .mv (.t 1), none⟩,
 ⟨some 29, .bin .add (.t 28) (.c (.int .i64 1)), none⟩,
 ⟨some 1, .mv (.t 29), none⟩])))))
 (.reg [⟨some 10, .mv (.t 5), none⟩,
 ⟨some 11, .bin .add (.t 10) (.c (.int .i64 1)), none⟩,
 ⟨some 5, .mv (.t 11), none⟩]))))))
 (.seq (.reg [⟨some 30, .mv (.t 1), none⟩,
 ⟨some 4, .mv (.t 30), none⟩])
 .ret)))
def if_laws_heldPtS : IFn := ⟨31, [.inl 4], ib_laws_heldPtS, lcF []⟩
def ks_laws_heldPtS : List (List (Option Nat)) := [[none]]
def gl_laws_heldPtS_1 : List Pt → Nat → Int → Option (Int ⊕ Int)
  | [], k12, v10 => some (.inr v10)
  | x13 :: l14, k12, v10 => if (x13.x != v10) = true then (some (.inl ((-1)))) else (if (x13.y != (IntKind.i64.wrap (v10 + 1))) = true then (some (.inl ((-1)))) else (gl_laws_heldPtS_1 l14 (k12 + 1) (IntKind.i64.wrap ((IntKind.i64.wrap (v10 + 1)) + 1))))
def gf_laws_heldPtS (a0 : (List Pt)) (a1 : Int) : Option Int := if fits a0.length = true then ((gl_laws_heldPtS_1 a0 0 a1).bind fun q => match q with | .inl r => some r | .inr q9 => some (q9)) else none
def c_laws_heldPtS : Con := ⟨(List Pt) × Int, Int, 173, fun a => [.ro (List.map ePt a.1), .v (.int .i64 a.2)], fun a => gf_laws_heldPtS a.1 a.2, fun a r => ⟨[(false, [.v (.int .i64 r)])], []⟩, fun a => []⟩
/-! laws.heldTagS -/
def ib_laws_heldTagS : IC :=
 (.seq (.reg [⟨some 4, .mv (.c (.int .i64 0)), none⟩])
 (.seq (.seq (.reg [⟨some 5, .mv (.c (.int .i64 0)), none⟩])
 (blkC 0 (.loop (.seq (.seq (.reg [⟨some 6, .mv (.t 5), none⟩,
 ⟨some 7, .mv (.t 0), none⟩,
 ⟨some 8, .len false (.t 7), none⟩,
 ⟨some 9, .bin .lss (.t 6) (.t 8), none⟩])
 (.cond (.t 9) .skip
 (.exit 0)))
 (.seq (.block 1 (.seq (.seq (.drw [⟨some 12, .mv (.t 0), none⟩,
 ⟨some 13, .mv (.t 5), none⟩,
 ⟨some 14, .iaddr 2 (.t 12) (.t 13), none⟩,
 ⟨some 15, .faddr 0 (.t 14), none⟩,
 ⟨some 16, .load 1 false (.t 15), none⟩,
 ⟨some 17, .mv (.t 1), none⟩,
 ⟨some 18, .call 166 [(false, .t 17)], none⟩,
 ⟨some 19, .bin .neq (.t 16) (.t 18), none⟩] [(4, 6)])
 (.cond (.t 19) (.seq (.reg [⟨some 4, .mv (.c (.int .i64 (-1))), none⟩])
 .ret)
 .skip))
 (.seq (.reg [⟨some 20, .mv (.t 1), none⟩,
 ⟨some 21, .bin .add (.t 20) (.c (.int .i64 1)), none⟩,
 ⟨some 1, .mv (.t 21), none⟩])
 (.seq (.seq (.drw [⟨some 22, .mv (.t 0), none⟩,
 ⟨some 23, .mv (.t 5), none⟩,
 ⟨some 24, .iaddr 2 (.t 22) (.t 23), none⟩,
 ⟨some 25, .faddr 1 (.t 24), none⟩,
 ⟨some 26, .load 1 false (.t 25), none⟩,
 ⟨some 27, .mv (.t 1), none⟩,
 ⟨some 28, .call 166 [(false, .t 27)], none⟩,
 ⟨some 29, .bin .neq (.t 26) (.t 28), none⟩] [(4, 6)])
 (.cond (.t 29) (.seq (.reg [⟨some 4, .mv (.c (.int .i64 (-1))), none⟩])
 .ret)
 .skip))
 (.reg [⟨some 30, .mv (.t 1), none⟩,
 ⟨some 31, .bin .add (.t 30) (.c (.int .i64 1)), none⟩,
 ⟨some 1, .mv (.t 31), none⟩])))))
 (.reg [⟨some 10, .mv (.t 5), none⟩,
 ⟨some 11, .bin .add (.t 10) (.c (.int .i64 1)), none⟩,
 ⟨some 5, .mv (.t 11), none⟩]))))))
 (.seq (.reg [⟨some 32, .mv (.t 1), none⟩,
 ⟨some 4, .mv (.t 32), none⟩])
 .ret)))
def if_laws_heldTagS : IFn := ⟨33, [.inl 4], ib_laws_heldTagS, lcF []⟩
def ks_laws_heldTagS : List (List (Option Nat)) := [[none]]
def gl_laws_heldTagS_1 : List Tag → Nat → Int → Option (Int ⊕ Int)
  | [], k24, v22 => some (.inr v22)
  | x25 :: l26, k24, v22 => (gf_laws_markText v22).bind fun x33 => if (!seq x25.key x33) = true then (some (.inl ((-1)))) else ((gf_laws_markText (IntKind.i64.wrap (v22 + 1))).bind fun x35 => if (!seq x25.val x35) = true then (some (.inl ((-1)))) else (gl_laws_heldTagS_1 l26 (k24 + 1) (IntKind.i64.wrap ((IntKind.i64.wrap (v22 + 1)) + 1))))
def gf_laws_heldTagS (a0 : (List Tag)) (a1 : Int) : Option Int := if fits a0.length = true then ((gl_laws_heldTagS_1 a0 0 a1).bind fun q => match q with | .inl r => some r | .inr q21 => some (q21)) else none
def c_laws_heldTagS : Con := ⟨(List Tag) × Int, Int, 174, fun a => [.ro (List.map eTag a.1), .v (.int .i64 a.2)], fun a => gf_laws_heldTagS a.1 a.2, fun a r => ⟨[(false, [.v (.int .i64 r)])], []⟩, fun a => []⟩
/-! laws.heldIntS -/
def ib_laws_heldIntS : IC :=
 (.seq (.reg [⟨some 4, .mv (.c (.int .i64 0)), none⟩])
 (.seq (.seq (.reg [⟨some 5, .mv (.c (.int .i64 0)), none⟩])
 (blkC 0 (.loop (.seq (.seq (.reg [⟨some 6, .mv (.t 5), none⟩,
 ⟨some 7, .mv (.t 0), none⟩,
 ⟨some 8, .len false (.t 7), none⟩,
 ⟨some 9, .bin .lss (.t 6) (.t 8), none⟩])
 (.cond (.t 9) .skip
 (.exit 0)))
 (.seq (.block 1 (.seq (.seq (.reg [⟨some 12, .mv (.t 0), none⟩,
 ⟨some 13, .mv (.t 5), none⟩,
 ⟨some 14, .iaddr 1 (.t 12) (.t 13), none⟩,
 ⟨some 15, .load 1 false (.t 14), none⟩,
 ⟨some 16, .mv (.t 1), none⟩,
 ⟨some 17, .bin .neq (.t 15) (.t 16), none⟩])
 (.cond (.t 17) (.seq (.reg [⟨some 4, .mv (.c (.int .i64 (-1))), none⟩])
 .ret)
 .skip))
 (.reg [⟨some 18, .mv (.t 1), none⟩,
 ⟨some 19, .bin .add (.t 18) (.c (.int .i64 1)), none⟩,
 ⟨some 1, .mv (.t 19), none⟩])))
 (.reg [⟨some 10, .mv (.t 5), none⟩,
 ⟨some 11, .bin .add (.t 10) (.c (.int .i64 1)), none⟩,
 ⟨some 5, .mv (.t 11), none⟩]))))))
 (.seq (.reg [⟨some 20, .mv (.t 1), none⟩,
 ⟨some 4, .mv (.t 20), none⟩])
 .ret)))
def if_laws_heldIntS : IFn := ⟨21, [.inl 4], ib_laws_heldIntS, lcF []⟩
def ks_laws_heldIntS : List (List (Option Nat)) := [[none]]
def gl_laws_heldIntS_1 : List Int → Nat → Int → Option (Int ⊕ Int)
  | [], k14, v12 => some (.inr v12)
  | x15 :: l16, k14, v12 => if (x15 != v12) = true then (some (.inl ((-1)))) else (gl_laws_heldIntS_1 l16 (k14 + 1) (IntKind.i64.wrap (v12 + 1)))
def gf_laws_heldIntS (a0 : (List Int)) (a1 : Int) : Option Int := if fits a0.length = true then ((gl_laws_heldIntS_1 a0 0 a1).bind fun q => match q with | .inl r => some r | .inr q11 => some (q11)) else none
def c_laws_heldIntS : Con := ⟨(List Int) × Int, Int, 175, fun a => [.ro (List.map eInt a.1), .v (.int .i64 a.2)], fun a => gf_laws_heldIntS a.1 a.2, fun a r => ⟨[(false, [.v (.int .i64 r)])], []⟩, fun a => []⟩
/-! laws.heldFeatS -/
def ib_laws_heldFeatS : IC :=
 (.seq (.reg [⟨some 4, .mv (.c (.int .i64 0)), none⟩])
 (.seq (.seq (.reg [⟨some 5, .mv (.c (.int .i64 0)), none⟩])
 (blkC 0 (.loop (.seq (.seq (.reg [⟨some 6, .mv (.t 5), none⟩,
 ⟨some 7, .mv (.t 0), none⟩,
 ⟨some 8, .len false (.t 7), none⟩,
 ⟨some 9, .bin .lss (.t 6) (.t 8), none⟩])
 (.cond (.t 9) .skip
 (.exit 0)))
 (.seq (.block 1 (.seq (.seq (.drw [⟨some 12, .mv (.t 0), none⟩,
 ⟨some 13, .mv (.t 5), none⟩,
 ⟨some 14, .iaddr 4 (.t 12) (.t 13), none⟩,
 ⟨some 15, .faddr 0 (.t 14), none⟩,
 ⟨some 16, .load 1 false (.t 15), none⟩,
 ⟨some 17, .mv (.t 1), none⟩,
 ⟨some 18, .call 166 [(false, .t 17)], none⟩,
 ⟨some 19, .bin .neq (.t 16) (.t 18), none⟩] [(4, 6)])
 (.cond (.t 19) (.seq (.reg [⟨some 4, .mv (.c (.int .i64 (-1))), none⟩])
 .ret)
 .skip))
 (.seq (.reg [⟨some 20, .mv (.t 1), none⟩,
 ⟨some 21, .bin .add (.t 20) (.c (.int .i64 1)), none⟩,
 ⟨some 1, .mv (.t 21), none⟩])
 (.seq (.seq (.reg [⟨some 22, .mv (.t 0), none⟩,
 ⟨some 23, .mv (.t 5), none⟩,
 ⟨some 24, .iaddr 4 (.t 22) (.t 23), none⟩,
 ⟨some 25, .faddr 1 (.t 24), none⟩,
 ⟨some 26, .faddr 0 (.t 25), none⟩,
 ⟨some 27, .load 1 false (.t 26), none⟩,
 ⟨some 28, .mv (.t 1), none⟩,
 ⟨some 29, .bin .neq (.t 27) (.t 28), none⟩])
 (.cond (.t 29) (.seq (.reg [⟨some 4, .mv (.c (.int .i64 (-1))), none⟩])
 .ret)
 .skip))
 (.seq (.reg [⟨some 30, .mv (.t 1), none⟩,
 ⟨some 31, .bin .add (.t 30) (.c (.int .i64 1)), none⟩,
 ⟨some 1, .mv (.t 31), none⟩])
 (.seq (.reg [⟨some 32, .mv (.t 0), none⟩,
 ⟨some 33, .mv (.t 5), none⟩,
 ⟨some 34, .iaddr 4 (.t 32) (.t 33), none⟩,
 ⟨some 35, .faddr 1 (.t 34), none⟩,
 ⟨some 36, .faddr 1 (.t 35), none⟩,
 ⟨some 37, .load 1 false (.t 36), none⟩,
 ⟨some 38, .mv (.t 1), none⟩,
 ⟨some 39, .call 173 [(false, .t 37), (false, .t 38)], none⟩,
 ⟨some 1, .mv (.t 39), none⟩])
 (.seq (.seq (.reg [⟨some 40, .mv (.t 1), none⟩,
 ⟨some 41, .bin .lss (.t 40) (.c (.int .i64 0)), none⟩])
 (.cond (.t 41) (.seq (.reg [⟨some 4, .mv (.c (.int .i64 (-1))), none⟩])
 .ret)
 .skip))
 (.seq (.reg [⟨some 42, .mv (.t 0), none⟩,
 ⟨some 43, .mv (.t 5), none⟩,
 ⟨some 44, .iaddr 4 (.t 42) (.t 43), none⟩,
 ⟨some 45, .faddr 3 (.t 44), none⟩,
 ⟨some 46, .load 1 false (.t 45), none⟩,
 ⟨some 47, .mv (.t 1), none⟩,
 ⟨some 48, .call 174 [(false, .t 46), (false, .t 47)], none⟩,
 ⟨some 1, .mv (.t 48), none⟩])
 (.seq (.reg [⟨some 49, .mv (.t 1), none⟩,
 ⟨some 50, .bin .lss (.t 49) (.c (.int .i64 0)), none⟩])
 (.cond (.t 50) (.seq (.reg [⟨some 4, .mv (.c (.int .i64 (-1))), none⟩])
 .ret)
 .skip))))))))))
 (.reg [⟨some 10, .mv (.t 5), none⟩,
 ⟨some 11, .bin .add (.t 10) (.c (.int .i64 1)), none⟩,
 ⟨some 5, .mv (.t 11), none⟩]))))))
 (.seq (.reg [⟨some 51, .mv (.t 1), none⟩,
 ⟨some 4, .mv (.t 51), none⟩])
 .ret)))
def if_laws_heldFeatS : IFn := ⟨52, [.inl 4], ib_laws_heldFeatS, lcF []⟩
def ks_laws_heldFeatS : List (List (Option Nat)) := [[none]]
def gl_laws_heldFeatS_1 : List Feat → Nat → Int → Option (Int ⊕ Int)
  | [], k30, v28 => some (.inr v28)
  | x31 :: l32, k30, v28 => (gf_laws_markText v28).bind fun x39 => if (!seq x31.id x39) = true then (some (.inl ((-1)))) else (if (x31.shape.kind != (IntKind.i64.wrap (v28 + 1))) = true then (some (.inl ((-1)))) else ((gf_laws_heldPtS x31.shape.pts (IntKind.i64.wrap ((IntKind.i64.wrap (v28 + 1)) + 1))).bind fun x41 => if (decide (x41 < 0)) = true then (some (.inl ((-1)))) else ((gf_laws_heldTagS x31.tags x41).bind fun x43 => if (decide (x43 < 0)) = true then (some (.inl ((-1)))) else (gl_laws_heldFeatS_1 l32 (k30 + 1) x43))))
def gf_laws_heldFeatS (a0 : (List Feat)) (a1 : Int) : Option Int := if fits a0.length = true then ((gl_laws_heldFeatS_1 a0 0 a1).bind fun q => match q with | .inl r => some r | .inr q27 => some (q27)) else none
def c_laws_heldFeatS : Con := ⟨(List Feat) × Int, Int, 176, fun a => [.ro (List.map (eFeat false) a.1), .v (.int .i64 a.2)], fun a => gf_laws_heldFeatS a.1 a.2, fun a r => ⟨[(false, [.v (.int .i64 r)])], []⟩, fun a => []⟩
/-! laws.heldCommitS -/
def ib_laws_heldCommitS : IC :=
 (.seq (.reg [⟨some 4, .mv (.c (.int .i64 0)), none⟩])
 (.seq (.seq (.reg [⟨some 5, .mv (.c (.int .i64 0)), none⟩])
 (blkC 0 (.loop (.seq (.seq (.reg [⟨some 6, .mv (.t 5), none⟩,
 ⟨some 7, .mv (.t 0), none⟩,
 ⟨some 8, .len false (.t 7), none⟩,
 ⟨some 9, .bin .lss (.t 6) (.t 8), none⟩])
 (.cond (.t 9) .skip
 (.exit 0)))
 (.seq (.block 1 (.seq (.reg [⟨some 12, .mv (.t 0), none⟩,
 ⟨some 13, .mv (.t 5), none⟩,
 ⟨some 14, .iaddr 3 (.t 12) (.t 13), none⟩,
 ⟨some 15, .faddr 0 (.t 14), none⟩,
 ⟨some 16, .load 1 false (.t 15), none⟩,
 ⟨some 17, .mv (.t 1), none⟩,
 ⟨some 18, .call 175 [(false, .t 16), (false, .t 17)], none⟩,
 ⟨some 1, .mv (.t 18), none⟩])
 (.seq (.seq (.reg [⟨some 19, .mv (.t 1), none⟩,
 ⟨some 20, .bin .lss (.t 19) (.c (.int .i64 0)), none⟩])
 (.cond (.t 20) (.seq (.reg [⟨some 4, .mv (.c (.int .i64 (-1))), none⟩])
 .ret)
 .skip))
 (.seq (.reg [⟨some 21, .mv (.t 0), none⟩,
 ⟨some 22, .mv (.t 5), none⟩,
 ⟨some 23, .iaddr 3 (.t 21) (.t 22), none⟩,
 ⟨some 24, .faddr 1 (.t 23), none⟩,
 ⟨some 25, .load 1 false (.t 24), none⟩,
 ⟨some 26, .mv (.t 1), none⟩,
 ⟨some 27, .call 176 [(false, .t 25), (false, .t 26)], none⟩,
 ⟨some 1, .mv (.t 27), none⟩])
 (.seq (.seq (.reg [⟨some 28, .mv (.t 1), none⟩,
 ⟨some 29, .bin .lss (.t 28) (.c (.int .i64 0)), none⟩])
 (.cond (.t 29) (.seq (.reg [⟨some 4, .mv (.c (.int .i64 (-1))), none⟩])
 .ret)
 .skip))
 (.seq (.seq (.drw [⟨some 30, .mv (.t 0), none⟩,
 ⟨some 31, .mv (.t 5), none⟩,
 ⟨some 32, .iaddr 3 (.t 30) (.t 31), none⟩,
 ⟨some 33, .faddr 2 (.t 32), none⟩,
 ⟨some 34, .load 1 false (.t 33), none⟩,
 ⟨some 35, .mv (.t 1), none⟩,
 ⟨some 36, .call 166 [(false, .t 35)], none⟩,
 ⟨some 37, .bin .neq (.t 34) (.t 36), none⟩] [(4, 6)])
 (.cond (.t 37) (.seq (.reg [⟨some 4, .mv (.c (.int .i64 (-1))), none⟩])
 .ret)
 .skip))
 (.reg [⟨some 38, .mv (.t 1), none⟩,
 ⟨some 39, .bin .add (.t 38) (.c (.int .i64 1)), none⟩,
 ⟨some 1, .mv (.t 39), none⟩])))))))
 (.reg [⟨some 10, .mv (.t 5), none⟩,
 ⟨some 11, .bin .add (.t 10) (.c (.int .i64 1)), none⟩,
 ⟨some 5, .mv (.t 11), none⟩]))))))
 (.seq (.reg [⟨some 40, .mv (.t 1), none⟩,
 ⟨some 4, .mv (.t 40), none⟩])
 .ret)))
def if_laws_heldCommitS : IFn := ⟨41, [.inl 4], ib_laws_heldCommitS, lcF []⟩
def ks_laws_heldCommitS : List (List (Option Nat)) := [[none]]
def gl_laws_heldCommitS_1 : List Commit → Nat → Int → Option (Int ⊕ Int)
  | [], k30, v28 => some (.inr v28)
  | x31 :: l32, k30, v28 => (gf_laws_heldIntS x31.up v28).bind fun x39 => if (decide (x39 < 0)) = true then (some (.inl ((-1)))) else ((gf_laws_heldFeatS x31.sheet x39).bind fun x41 => if (decide (x41 < 0)) = true then (some (.inl ((-1)))) else ((gf_laws_markText x41).bind fun x43 => if (!seq x31.note x43) = true then (some (.inl ((-1)))) else (gl_laws_heldCommitS_1 l32 (k30 + 1) (IntKind.i64.wrap (x41 + 1)))))
def gf_laws_heldCommitS (a0 : (List Commit)) (a1 : Int) : Option Int := if fits a0.length = true then ((gl_laws_heldCommitS_1 a0 0 a1).bind fun q => match q with | .inl r => some r | .inr q27 => some (q27)) else none
def c_laws_heldCommitS : Con := ⟨(List Commit) × Int, Int, 177, fun a => [.ro (List.map (eCommit false) a.1), .v (.int .i64 a.2)], fun a => gf_laws_heldCommitS a.1 a.2, fun a r => ⟨[(false, [.v (.int .i64 r)])], []⟩, fun a => []⟩
/-! laws.heldHeadS -/
def ib_laws_heldHeadS : IC :=
 (.seq (.reg [⟨some 4, .mv (.c (.int .i64 0)), none⟩])
 (.seq (.seq (.reg [⟨some 5, .mv (.c (.int .i64 0)), none⟩])
 (blkC 0 (.loop (.seq (.seq (.reg [⟨some 6, .mv (.t 5), none⟩,
 ⟨some 7, .mv (.t 0), none⟩,
 ⟨some 8, .len false (.t 7), none⟩,
 ⟨some 9, .bin .lss (.t 6) (.t 8), none⟩])
 (.cond (.t 9) .skip
 (.exit 0)))
 (.seq (.block 1 (.seq (.seq (.drw [⟨some 12, .mv (.t 0), none⟩,
 ⟨some 13, .mv (.t 5), none⟩,
 ⟨some 14, .iaddr 2 (.t 12) (.t 13), none⟩,
 ⟨some 15, .faddr 0 (.t 14), none⟩,
 ⟨some 16, .load 1 false (.t 15), none⟩,
 ⟨some 17, .mv (.t 1), none⟩,
 ⟨some 18, .call 166 [(false, .t 17)], none⟩,
 ⟨some 19, .bin .neq (.t 16) (.t 18), none⟩] [(4, 6)])
 (.cond (.t 19) (.seq (.reg [⟨some 4, .mv (.c (.int .i64 (-1))), none⟩])
 .ret)
 .skip))
 (.seq (.reg [⟨some 20, .mv (.t 1), none⟩,
 ⟨some 21, .bin .add (.t 20) (.c (.int .i64 1)), none⟩,
 ⟨some 1, .mv (.t 21), none⟩])
 (.seq (.seq (.reg [⟨some 22, .mv (.t 0), none⟩,
 ⟨some 23, .mv (.t 5), none⟩,
 ⟨some 24, .iaddr 2 (.t 22) (.t 23), none⟩,
 ⟨some 25, .faddr 1 (.t 24), none⟩,
 ⟨some 26, .load 1 false (.t 25), none⟩,
 ⟨some 27, .mv (.t 1), none⟩,
 ⟨some 28, .bin .neq (.t 26) (.t 27), none⟩])
 (.cond (.t 28) (.seq (.reg [⟨some 4, .mv (.c (.int .i64 (-1))), none⟩])
 .ret)
 .skip))
 (.reg [⟨some 29, .mv (.t 1), none⟩,
 ⟨some 30, .bin .add (.t 29) (.c (.int .i64 1)), none⟩,
 ⟨some 1, .mv (.t 30), none⟩])))))
 (.reg [⟨some 10, .mv (.t 5), none⟩,
 ⟨some 11, .bin .add (.t 10) (.c (.int .i64 1)), none⟩,
 ⟨some 5, .mv (.t 11), none⟩]))))))
 (.seq (.reg [⟨some 31, .mv (.t 1), none⟩,
 ⟨some 4, .mv (.t 31), none⟩])
 .ret)))
def if_laws_heldHeadS : IFn := ⟨32, [.inl 4], ib_laws_heldHeadS, lcF []⟩
def ks_laws_heldHeadS : List (List (Option Nat)) := [[none]]
def gl_laws_heldHeadS_1 : List Head → Nat → Int → Option (Int ⊕ Int)
  | [], k18, v16 => some (.inr v16)
  | x19 :: l20, k18, v16 => (gf_laws_markText v16).bind fun x27 => if (!seq x19.name x27) = true then (some (.inl ((-1)))) else (if (x19.at_ != (IntKind.i64.wrap (v16 + 1))) = true then (some (.inl ((-1)))) else (gl_laws_heldHeadS_1 l20 (k18 + 1) (IntKind.i64.wrap ((IntKind.i64.wrap (v16 + 1)) + 1))))
def gf_laws_heldHeadS (a0 : (List Head)) (a1 : Int) : Option Int := if fits a0.length = true then ((gl_laws_heldHeadS_1 a0 0 a1).bind fun q => match q with | .inl r => some r | .inr q15 => some (q15)) else none
def c_laws_heldHeadS : Con := ⟨(List Head) × Int, Int, 178, fun a => [.ro (List.map eHead a.1), .v (.int .i64 a.2)], fun a => gf_laws_heldHeadS a.1 a.2, fun a r => ⟨[(false, [.v (.int .i64 r)])], []⟩, fun a => []⟩
/-! laws.szRepo -/
def ib_laws_szRepo : IC :=
 (.seq (.reg [⟨some 2, .box 466 [some 387, some 402] (.t 0), none⟩,
 ⟨some 4, .mv (.c (.int .i64 0)), none⟩])
 (.seq (.reg [⟨some 5, .faddr 0 (.t 2), none⟩,
 ⟨some 6, .load 1 false (.t 5), none⟩,
 ⟨some 7, .mv (.t 1), none⟩,
 ⟨some 8, .call 10 [(false, .t 6), (false, .t 7)], none⟩,
 ⟨some 1, .mv (.t 8), none⟩])
 (.seq (.seq (.reg [⟨some 9, .mv (.t 1), none⟩,
 ⟨some 10, .bin .lss (.t 9) (.c (.int .i64 0)), none⟩])
 (.cond (.t 10) (.seq (.reg [⟨some 4, .mv (.c (.int .i64 (-1))), none⟩])
 .ret)
 .skip))
 (.seq (.reg [⟨some 11, .faddr 1 (.t 2), none⟩,
 ⟨some 12, .load 1 false (.t 11), none⟩,
 ⟨some 13, .mv (.t 1), none⟩,
 ⟨some 14, .call 11 [(false, .t 12), (false, .t 13)], none⟩,
 ⟨some 1, .mv (.t 14), none⟩])
 (.seq (.seq (.reg [⟨some 15, .mv (.t 1), none⟩,
 ⟨some 16, .bin .lss (.t 15) (.c (.int .i64 0)), none⟩])
 (.cond (.t 16) (.seq (.reg [⟨some 4, .mv (.c (.int .i64 (-1))), none⟩])
 .ret)
 .skip))
 (.seq (.reg [⟨some 17, .mv (.t 1), none⟩,
 ⟨some 4, .mv (.t 17), none⟩])
 .ret))))))
def if_laws_szRepo : IFn := ⟨18, [.inl 4], ib_laws_szRepo, lcF []⟩
def ks_laws_szRepo : List (List (Option Nat)) := [[none]]
def gf_laws_szRepo (a0 : Repo) (a1 : Int) : Option Int := (gf_laws_szCommitS a0.commits a1).bind fun x2 => if (decide (x2 < 0)) = true then (some ((-1))) else ((gf_laws_szHeadS a0.heads x2).bind fun x4 => if (decide (x4 < 0)) = true then (some ((-1))) else (some (x4)))
def c_laws_szRepo : Con := ⟨Repo × Int, Int, 179, fun a => [.agg [.ro (List.map (eCommit false) a.1.commits), .ro (List.map eHead a.1.heads)], .v (.int .i64 a.2)], fun a => gf_laws_szRepo a.1 a.2, fun a r => ⟨[(false, [.v (.int .i64 r)])], []⟩, fun a => []⟩
/-! laws.toRepo -/
def ib_laws_toRepo : IC :=
 (.seq (.reg [⟨some 1, .box 466 [some 387, some 402] (.t 0), none⟩,
 ⟨some 2, .alloc 210 [.sl true 115 [], .sl true 130 []], none⟩])
 (.seq (.reg [⟨some 3, .alloc 210 [.sl true 115 [], .sl true 130 []], none⟩])
 (.seq (.reg [⟨some 4, .faddr 0 (.t 1), none⟩,
 ⟨some 5, .load 1 false (.t 4), none⟩,
 ⟨some 6, .call 74 [(false, .t 5)], none⟩,
 ⟨some 7, .faddr 0 (.t 3), none⟩,
 ⟨none, .store [some 115] (.t 7) (.t 6), none⟩])
 (.seq (.reg [⟨some 8, .faddr 1 (.t 1), none⟩,
 ⟨some 9, .load 1 false (.t 8), none⟩,
 ⟨some 10, .call 75 [(false, .t 9)], none⟩,
 ⟨some 11, .faddr 1 (.t 3), none⟩,
 ⟨none, .store [some 130] (.t 11) (.t 10), none⟩])
 (.seq (.reg [⟨some 12, .load 2 true (.t 3), none⟩,
 ⟨none, .store [some 115, some 130] (.t 2) (.t 12), none⟩])
 .ret)))))
def if_laws_toRepo : IFn := ⟨13, [.inr (2, 2)], ib_laws_toRepo, lcF []⟩
def ks_laws_toRepo : List (List (Option Nat)) := [[some 115, some 130]]
def gf_laws_toRepo (a0 : Repo) : Option Repo := (gf_laws_toCommitS a0.commits).bind fun x4 => (gf_laws_toHeadS a0.heads).bind fun x8 => some ((⟨x4, x8⟩ : Repo))
def c_laws_toRepo : Con := ⟨Repo, Repo, 180, fun a => [.agg [.ro (List.map (eCommit false) a.commits), .ro (List.map eHead a.heads)]], fun a => gf_laws_toRepo a, fun a r => ⟨[(true, eRepo true r)], []⟩, fun a => []⟩
/-! laws.eqRepo -/
def ib_laws_eqRepo : IC :=
 (.seq (.reg [⟨some 2, .box 210 [some 115, some 130] (.t 0), none⟩,
 ⟨some 3, .box 210 [some 115, some 130] (.t 1), none⟩,
 ⟨some 4, .mv (.c (.bool false)), none⟩])
 (.seq (.seq (.reg [⟨some 5, .faddr 0 (.t 2), none⟩,
 ⟨some 6, .load 1 false (.t 5), none⟩,
 ⟨some 7, .faddr 0 (.t 3), none⟩,
 ⟨some 8, .load 1 false (.t 7), none⟩,
 ⟨some 9, .call 163 [(false, .t 6), (false, .t 8)], none⟩,
 ⟨some 10, .un .not (.t 9), none⟩])
 (.cond (.t 10) (.seq (.reg [⟨some 4, .mv (.c (.bool false)), none⟩])
 .ret)
 .skip))
 (.seq (.seq (.reg [⟨some 11, .faddr 1 (.t 2), none⟩,
 ⟨some 12, .load 1 false (.t 11), none⟩,
 ⟨some 13, .faddr 1 (.t 3), none⟩,
 ⟨some 14, .load 1 false (.t 13), none⟩,
 ⟨some 15, .call 164 [(false, .t 12), (false, .t 14)], none⟩,
 ⟨some 16, .un .not (.t 15), none⟩])
 (.cond (.t 16) (.seq (.reg [⟨some 4, .mv (.c (.bool false)), none⟩])
 .ret)
 .skip))
 (.seq (.reg [⟨some 4, .mv (.c (.bool true)), none⟩])
 .ret))))
def if_laws_eqRepo : IFn := ⟨17, [.inl 4], ib_laws_eqRepo, lcF []⟩
def ks_laws_eqRepo : List (List (Option Nat)) := [[none]]
def gf_laws_eqRepo (a0 : Repo) (a1 : Repo) : Option Bool := (gf_laws_eqCommitS a0.commits a1.commits).bind fun x3 => if (!x3) = true then (some (false)) else ((gf_laws_eqHeadS a0.heads a1.heads).bind fun x5 => if (!x5) = true then (some (false)) else (some (true)))
def c_laws_eqRepo : Con := ⟨Repo × Repo, Bool, 183, fun a => [.agg [.ro (List.map (eCommit false) a.1.commits), .ro (List.map eHead a.1.heads)], .agg [.ro (List.map (eCommit false) a.2.commits), .ro (List.map eHead a.2.heads)]], fun a => gf_laws_eqRepo a.1 a.2, fun a r => ⟨[(false, [.v (.bool r)])], []⟩, fun a => []⟩
/-! laws.markRepo -/
def ib_laws_markRepo : IC :=
 (.seq (.reg [⟨some 2, .box 210 [some 115, some 130] (.t 0), none⟩,
 ⟨some 4, .mv (.c (.int .i64 0)), none⟩])
 (.seq (.reg [⟨some 5, .faddr 0 (.t 2), none⟩,
 ⟨some 6, .load 1 false (.t 5), none⟩,
 ⟨some 7, .mv (.t 1), none⟩,
 ⟨some 8, .call 171 [(true, .t 6), (false, .t 7)], none⟩,
 ⟨some 1, .mv (.t 8), none⟩])
 (.seq (.reg [⟨some 9, .faddr 1 (.t 2), none⟩,
 ⟨some 10, .load 1 false (.t 9), none⟩,
 ⟨some 11, .mv (.t 1), none⟩,
 ⟨some 12, .call 172 [(true, .t 10), (false, .t 11)], none⟩,
 ⟨some 1, .mv (.t 12), none⟩])
 (.seq (.reg [⟨some 13, .mv (.t 1), none⟩,
 ⟨some 4, .mv (.t 13), none⟩])
 .ret))))
def if_laws_markRepo : IFn := ⟨14, [.inl 4], ib_laws_markRepo, lcF [(0, 1000256), (1, 1000257)]⟩
def ks_laws_markRepo : List (List (Option Nat)) := [[none]]
def gf_laws_markRepo (a0 : Repo) (a1 : Int) : Option (Int × Repo) := (gf_laws_markCommitS a0.commits a1).bind fun x2 => (gf_laws_markHeadS a0.heads x2.1).bind fun x4 => some (x4.1, (⟨x2.2, x4.2⟩ : Repo))
def c_laws_markRepo : Con := ⟨Repo × Int, (Int × Repo), 185, fun a => [.agg [.io 0 a.1.commits.length 115, .io 1 a.1.heads.length 130], .v (.int .i64 a.2)], fun a => gf_laws_markRepo a.1 a.2, fun a r => ⟨[(false, [.v (.int .i64 r.1)])], [some (List.map (eCommit true) r.2.commits), some (List.map eHead r.2.heads)]⟩, fun a => [(false, 115, List.map (eCommit true) a.1.commits), (false, 130, List.map eHead a.1.heads)]⟩
theorem l_laws_markRepo {a0 : Repo} {a1 : Int} {r : (Int × Repo)} (h : gf_laws_markRepo a0 a1 = some r) : (r.2.commits).length = (a0.commits).length ∧ (r.2.heads).length = (a0.heads).length := by
  unfold gf_laws_markRepo at h
  simp only [Option.bind_eq_some_iff] at h
  obtain ⟨_, e0, _, e1, h⟩ := h
  have m0 := l_laws_markCommitS e0
  have m1 := l_laws_markHeadS e1
  cases h
  exact ⟨m0, m1⟩

/-! laws.heldRepo -/
def ib_laws_heldRepo : IC :=
 (.seq (.reg [⟨some 2, .box 210 [some 115, some 130] (.t 0), none⟩,
 ⟨some 4, .mv (.c (.int .i64 0)), none⟩])
 (.seq (.reg [⟨some 5, .faddr 0 (.t 2), none⟩,
 ⟨some 6, .load 1 false (.t 5), none⟩,
 ⟨some 7, .mv (.t 1), none⟩,
 ⟨some 8, .call 177 [(false, .t 6), (false, .t 7)], none⟩,
 ⟨some 1, .mv (.t 8), none⟩])
 (.seq (.seq (.reg [⟨some 9, .mv (.t 1), none⟩,
 ⟨some 10, .bin .lss (.t 9) (.c (.int .i64 0)), none⟩])
 (.cond (.t 10) (.seq (.reg [⟨some 4, .mv (.c (.int .i64 (-1))), none⟩])
 .ret)
 .skip))
 (.seq (.reg [⟨some 11, .faddr 1 (.t 2), none⟩,
 ⟨some 12, .load 1 false (.t 11), none⟩,
 ⟨some 13, .mv (.t 1), none⟩,
 ⟨some 14, .call 178 [(false, .t 12), (false, .t 13)], none⟩,
 ⟨some 1, .mv (.t 14), none⟩])
 (.seq (.seq (.reg [⟨some 15, .mv (.t 1), none⟩,
 ⟨some 16, .bin .lss (.t 15) (.c (.int .i64 0)), none⟩])
 (.cond (.t 16) (.seq (.reg [⟨some 4, .mv (.c (.int .i64 (-1))), none⟩])
 .ret)
 .skip))
 (.seq (.reg [⟨some 17, .mv (.t 1), none⟩,
 ⟨some 4, .mv (.t 17), none⟩])
 .ret))))))
def if_laws_heldRepo : IFn := ⟨18, [.inl 4], ib_laws_heldRepo, lcF []⟩
def ks_laws_heldRepo : List (List (Option Nat)) := [[none]]
def gf_laws_heldRepo (a0 : Repo) (a1 : Int) : Option Int := (gf_laws_heldCommitS a0.commits a1).bind fun x2 => if (decide (x2 < 0)) = true then (some ((-1))) else ((gf_laws_heldHeadS a0.heads x2).bind fun x4 => if (decide (x4 < 0)) = true then (some ((-1))) else (some (x4)))
def c_laws_heldRepo : Con := ⟨Repo × Int, Int, 187, fun a => [.agg [.ro (List.map (eCommit false) a.1.commits), .ro (List.map eHead a.1.heads)], .v (.int .i64 a.2)], fun a => gf_laws_heldRepo a.1 a.2, fun a r => ⟨[(false, [.v (.int .i64 r)])], []⟩, fun a => []⟩
/-! impl.RepoAdd -/
def ib_impl_RepoAdd : IC :=
 (.seq (.reg [⟨some 4, .box 210 [some 115, some 130] (.t 0), none⟩,
 ⟨some 8, .alloc 210 [.sl true 115 [], .sl true 130 []], none⟩,
 ⟨some 9, .mv (.c (.int .i64 0)), none⟩])
 (.seq (.seq (.reg [⟨some 13, .load 2 true (.t 4), none⟩,
 ⟨some 14, .call 96 [(false, .t 13)], none⟩,
 ⟨some 15, .un .not (.t 14), none⟩,
 ⟨some 16, .mv (.t 15), none⟩,
 ⟨some 17, .mv (.t 2), some (16, false)⟩,
 ⟨some 18, .call 86 [(false, .t 17)], some (16, false)⟩,
 ⟨some 19, .un .not (.t 18), some (16, false)⟩,
 ⟨some 20, .pick (.t 16) (.c (.bool true)) (.t 19), none⟩,
 ⟨some 21, .mv (.t 20), none⟩,
 ⟨some 22, .mv (.t 3), some (21, false)⟩,
 ⟨some 23, .call 80 [(false, .t 22)], some (21, false)⟩,
 ⟨some 24, .un .not (.t 23), some (21, false)⟩,
 ⟨some 25, .pick (.t 21) (.c (.bool true)) (.t 24), none⟩])
 (.cond (.t 25) (.seq (.reg [⟨some 26, .build [.nil, .nil] [], none⟩,
 ⟨none, .store [some 115, some 130] (.t 8) (.t 26), none⟩,
 ⟨some 9, .mv (.c (.int .i64 4)), none⟩])
 .ret)
 .skip))
 (seqC (.reg [⟨some 27, .load 2 true (.t 4), none⟩,
 ⟨some 28, .call 150 [(false, .t 27)], none⟩,
 ⟨some 10, .alloc 210 [.sl true 115 [], .sl true 130 []], none⟩,
 ⟨none, .store [some 115, some 130] (.t 10) (.t 28), none⟩])
 (.seq (.reg [⟨some 29, .load 2 true (.t 4), none⟩,
 ⟨some 30, .mv (.t 1), none⟩,
 ⟨some 31, .call 89 [(false, .t 29), (false, .t 30)], none⟩,
 ⟨some 11, .mv (.t 31), none⟩])
 (.seq (.seq (.reg [⟨some 32, .mv (.t 11), none⟩,
 ⟨some 33, .bin .lss (.t 32) (.c (.int .i64 0)), none⟩])
 (.cond (.t 33) (.seq (.reg [⟨some 34, .load 2 true (.t 10), none⟩,
 ⟨none, .store [some 115, some 130] (.t 8) (.t 34), none⟩,
 ⟨some 9, .mv (.c (.int .i64 1)), none⟩])
 .ret)
 .skip))
 (.seq (.reg [⟨some 35, .faddr 1 (.t 4), none⟩,
 ⟨some 36, .load 1 false (.t 35), none⟩,
 ⟨some 37, .mv (.t 11), none⟩,
 ⟨some 38, .iaddr 2 (.t 36) (.t 37), none⟩,
 ⟨some 39, .faddr 1 (.t 38), none⟩,
 ⟨some 40, .load 1 false (.t 39), none⟩,
 ⟨some 12, .mv (.t 40), none⟩])
 (.seq (.seq (.reg [⟨some 41, .faddr 0 (.t 4), none⟩,
 ⟨some 42, .load 1 false (.t 41), none⟩,
 ⟨some 43, .mv (.t 12), none⟩,
 ⟨some 44, .iaddr 3 (.t 42) (.t 43), none⟩,
 ⟨some 45, .faddr 1 (.t 44), none⟩,
 ⟨some 46, .load 1 false (.t 45), none⟩,
 ⟨some 47, .mv (.t 2), none⟩,
 ⟨some 48, .call 220 [(false, .t 46), (false, .t 47)], none⟩])
 (.cond (.t 48) (.seq (.reg [⟨some 49, .load 2 true (.t 10), none⟩,
 ⟨none, .store [some 115, some 130] (.t 8) (.t 49), none⟩,
 ⟨some 9, .mv (.c (.int .i64 3)), none⟩])
 .ret)
 .skip))
 (.seq (.seq (.reg [⟨some 50, .mv (.t 11), none⟩,
 ⟨some 51, .mv (.t 12), none⟩,
 ⟨some 52, .lit 17 [none] [.v (.int .i64 0)] 1 [(0, .t 51)], none⟩,
 ⟨some 53, .mv (.t 2), none⟩,
 ⟨some 54, .mv (.t 3), none⟩,
 ⟨some 55, .build [.nil, .nil, .v (.string ⟨#[]⟩)] [(0, 1, .t 52), (1, 1, .t 53), (2, 1, .t 54)], none⟩,
 ⟨some 56, .call 152 [(true, .t 10), (false, .t 50), (false, .t 55)], none⟩,
 ⟨some 57, .un .not (.t 56), none⟩])
 (.cond (.t 57) (.seq (.reg [⟨some 58, .load 2 true (.t 10), none⟩,
 ⟨none, .store [some 115, some 130] (.t 8) (.t 58), none⟩,
 ⟨some 9, .mv (.c (.int .i64 2)), none⟩])
 .ret)
 .skip))
 (.seq (.reg [⟨some 59, .load 2 true (.t 10), none⟩,
 ⟨none, .store [some 115, some 130] (.t 8) (.t 59), none⟩,
 ⟨some 9, .mv (.c (.int .i64 0)), none⟩])
 .ret)))))))))
def if_impl_RepoAdd : IFn := ⟨60, [.inr (8, 2), .inl 9], ib_impl_RepoAdd, lcF []⟩
def ks_impl_RepoAdd : List (List (Option Nat)) := [[some 115, some 130], [none]]
def gf_impl_RepoAdd (a0 : Repo) (a1 : Str) (a2 : (List Feat)) (a3 : Str) : Option (Repo × Int) := (gf_impl_RepoOk a0).bind fun x3 => if (!x3) = true then (some ((⟨[], []⟩ : Repo), 4)) else ((gf_impl_SheetOk a2).bind fun x5 => if (!x5) = true then (some ((⟨[], []⟩ : Repo), 4)) else ((gf_impl_WordOk a3).bind fun x7 => if (!x7) = true then (some ((⟨[], []⟩ : Repo), 4)) else ((((gf_impl_cloneRepo a0).bind fun x10 => some (x10.commits, x10.heads) : Option ((List Commit) × (List Head)))).bind fun q9 => (gf_impl_Repo_head a0 a1).bind fun x30 => if (decide (x30 < 0)) = true then (some ((⟨q9.1, q9.2⟩ : Repo), 1)) else ((idx a0.heads x30).bind fun x32 => (idx a0.commits x32.at_).bind fun x34 => (gf_impl_SheetSame x34.sheet a2).bind fun x36 => if x36 = true then (some ((⟨q9.1, q9.2⟩ : Repo), 3)) else ((gf_impl_Repo_set (⟨q9.1, q9.2⟩ : Repo) x30 (⟨[x32.at_], a2, a3⟩ : Commit)).bind fun x39 => if (!x39.1) = true then (some (x39.2, 2)) else (some (x39.2, 0)))))))
def c_impl_RepoAdd : Con := ⟨Repo × Str × (List Feat) × Str, (Repo × Int), 234, fun a => [.agg [.ro (List.map (eCommit false) a.1.commits), .ro (List.map eHead a.1.heads)], .v (.string a.2.1), .ro (List.map (eFeat false) a.2.2.1), .v (.string a.2.2.2)], fun a => gf_impl_RepoAdd a.1 a.2.1 a.2.2.1 a.2.2.2, fun a r => ⟨[(true, eRepo true r.1), (false, [.v (.int .i64 r.2)])], []⟩, fun a => []⟩
/-! spec.RepoAdd -/
def ib_spec_RepoAdd : IC :=
 (.seq (.reg [⟨some 4, .box 210 [some 115, some 130] (.t 0), none⟩,
 ⟨some 8, .alloc 210 [.sl true 115 [], .sl true 130 []], none⟩,
 ⟨some 9, .mv (.c (.int .i64 0)), none⟩])
 (.seq (.seq (.reg [⟨some 13, .load 2 true (.t 4), none⟩,
 ⟨some 14, .call 33 [(false, .t 13)], none⟩,
 ⟨some 15, .un .not (.t 14), none⟩,
 ⟨some 16, .mv (.t 15), none⟩,
 ⟨some 17, .mv (.t 2), some (16, false)⟩,
 ⟨some 18, .call 26 [(false, .t 17)], some (16, false)⟩,
 ⟨some 19, .un .not (.t 18), some (16, false)⟩,
 ⟨some 20, .pick (.t 16) (.c (.bool true)) (.t 19), none⟩,
 ⟨some 21, .mv (.t 20), none⟩,
 ⟨some 22, .mv (.t 3), some (21, false)⟩,
 ⟨some 23, .call 14 [(false, .t 22)], some (21, false)⟩,
 ⟨some 24, .un .not (.t 23), some (21, false)⟩,
 ⟨some 25, .pick (.t 21) (.c (.bool true)) (.t 24), none⟩])
 (.cond (.t 25) (.seq (.reg [⟨some 26, .build [.nil, .nil] [], none⟩,
 ⟨none, .store [some 115, some 130] (.t 8) (.t 26), none⟩,
 ⟨some 9, .mv (.c (.int .i64 4)), none⟩])
 .ret)
 .skip))
 (seqC (.reg [⟨some 27, .load 2 true (.t 4), none⟩,
 ⟨some 28, .call 61 [(false, .t 27)], none⟩,
 ⟨some 10, .alloc 210 [.sl true 115 [], .sl true 130 []], none⟩,
 ⟨none, .store [some 115, some 130] (.t 10) (.t 28), none⟩])
 (.seq (.reg [⟨some 29, .load 2 true (.t 4), none⟩,
 ⟨some 30, .mv (.t 1), none⟩,
 ⟨some 31, .call 28 [(false, .t 29), (false, .t 30)], none⟩,
 ⟨some 11, .mv (.t 31), none⟩])
 (.seq (.seq (.reg [⟨some 32, .mv (.t 11), none⟩,
 ⟨some 33, .bin .lss (.t 32) (.c (.int .i64 0)), none⟩])
 (.cond (.t 33) (.seq (.reg [⟨some 34, .load 2 true (.t 10), none⟩,
 ⟨none, .store [some 115, some 130] (.t 8) (.t 34), none⟩,
 ⟨some 9, .mv (.c (.int .i64 1)), none⟩])
 .ret)
 .skip))
 (.seq (.reg [⟨some 35, .faddr 1 (.t 4), none⟩,
 ⟨some 36, .load 1 false (.t 35), none⟩,
 ⟨some 37, .mv (.t 11), none⟩,
 ⟨some 38, .iaddr 2 (.t 36) (.t 37), none⟩,
 ⟨some 39, .faddr 1 (.t 38), none⟩,
 ⟨some 40, .load 1 false (.t 39), none⟩,
 ⟨some 41, .lit 17 [none] [.v (.int .i64 0)] 1 [(0, .t 40)], none⟩,
 ⟨some 42, .mv (.t 2), none⟩,
 ⟨some 43, .mv (.t 3), none⟩,
 ⟨some 44, .build [.nil, .nil, .v (.string ⟨#[]⟩)] [(0, 1, .t 41), (1, 1, .t 42), (2, 1, .t 43)], none⟩,
 ⟨some 12, .alloc 115 [.sl true 17 [], .sl true 100 [], .v (.string ⟨#[]⟩)], none⟩,
 ⟨none, .store [some 17, some 100, none] (.t 12) (.t 44), none⟩])
 (.seq (.block 0 (.seq (.drw [⟨some 46, .faddr 0 (.t 4), none⟩,
 ⟨some 47, .load 1 false (.t 46), none⟩,
 ⟨some 48, .faddr 1 (.t 4), none⟩,
 ⟨some 49, .load 1 false (.t 48), none⟩,
 ⟨some 50, .mv (.t 11), none⟩,
 ⟨some 51, .iaddr 2 (.t 49) (.t 50), none⟩,
 ⟨some 52, .faddr 1 (.t 51), none⟩,
 ⟨some 53, .load 1 false (.t 52), none⟩,
 ⟨some 54, .iaddr 3 (.t 47) (.t 53), none⟩,
 ⟨some 55, .faddr 1 (.t 54), none⟩,
 ⟨some 56, .load 1 false (.t 55), none⟩,
 ⟨some 57, .mv (.t 2), none⟩,
 ⟨some 58, .call 23 [(false, .t 56), (false, .t 57)], none⟩,
 ⟨some 45, .mv (.t 58), none⟩] [(1, 3), (1, 7)])
 (.cond (.t 45) (.seq (.reg [⟨some 59, .load 2 true (.t 10), none⟩,
 ⟨none, .store [some 115, some 130] (.t 8) (.t 59), none⟩,
 ⟨some 9, .mv (.c (.int .i64 3)), none⟩])
 .ret)
 (.seq (.reg [⟨some 61, .load 2 true (.t 4), none⟩,
 ⟨some 62, .load 3 true (.t 12), none⟩,
 ⟨some 63, .call 27 [(false, .t 61), (false, .t 62)], none⟩,
 ⟨some 64, .bin .lss (.t 63) (.c (.int .i64 0)), none⟩,
 ⟨some 65, .mv (.t 64), none⟩,
 ⟨some 66, .faddr 0 (.t 4), some (65, true)⟩,
 ⟨some 67, .load 1 false (.t 66), some (65, true)⟩,
 ⟨some 68, .len false (.t 67), some (65, true)⟩,
 ⟨some 69, .bin .geq (.t 68) (.c (.int .i64 14)), some (65, true)⟩,
 ⟨some 70, .pick (.t 65) (.t 69) (.c (.bool false)), none⟩,
 ⟨some 60, .mv (.t 70), none⟩])
 (.cond (.t 60) (.seq (.reg [⟨some 71, .load 2 true (.t 10), none⟩,
 ⟨none, .store [some 115, some 130] (.t 8) (.t 71), none⟩,
 ⟨some 9, .mv (.c (.int .i64 2)), none⟩])
 .ret)
 .skip)))))
 (.seq (.reg [⟨some 72, .load 2 true (.t 10), none⟩,
 ⟨some 73, .mv (.t 11), none⟩,
 ⟨some 74, .load 3 true (.t 12), none⟩,
 ⟨some 75, .call 60 [(true, .t 72), (false, .t 73), (false, .t 74)], none⟩,
 ⟨none, .store [some 115, some 130] (.t 8) (.t 75), none⟩,
 ⟨some 9, .mv (.c (.int .i64 0)), none⟩])
 .ret))))))))
def if_spec_RepoAdd : IFn := ⟨76, [.inr (8, 2), .inl 9], ib_spec_RepoAdd, lcF []⟩
def ks_spec_RepoAdd : List (List (Option Nat)) := [[some 115, some 130], [none]]
def gf_spec_RepoAdd (a0 : Repo) (a1 : Str) (a2 : (List Feat)) (a3 : Str) : Option (Repo × Int) := (gf_spec_RepoOk a0).bind fun x3 => if (!x3) = true then (some ((⟨[], []⟩ : Repo), 4)) else ((gf_spec_SheetOk a2).bind fun x5 => if (!x5) = true then (some ((⟨[], []⟩ : Repo), 4)) else ((gf_spec_WordOk a3).bind fun x7 => if (!x7) = true then (some ((⟨[], []⟩ : Repo), 4)) else ((((gf_spec_l7Copy a0).bind fun x10 => some (x10.commits, x10.heads) : Option ((List Commit) × (List Head)))).bind fun q9 => (gf_spec_l7Head a0 a1).bind fun x30 => if (decide (x30 < 0)) = true then (some ((⟨q9.1, q9.2⟩ : Repo), 1)) else ((idx a0.heads x30).bind fun x32 => (idx a0.commits x32.at_).bind fun x36 => (gf_spec_SheetSame x36.sheet a2).bind fun x38 => if x38 = true then (some ((⟨q9.1, q9.2⟩ : Repo), 3)) else ((gf_spec_l7Find a0 (⟨[x32.at_], a2, a3⟩ : Commit)).bind fun x40 => if (decide (x40 < 0)) = true then (if (decide ((a0.commits.length : Int) ≥ 14)) = true then (some ((⟨q9.1, q9.2⟩ : Repo), 2)) else ((gf_spec_l7Add (⟨q9.1, q9.2⟩ : Repo) x30 (⟨[x32.at_], a2, a3⟩ : Commit)).bind fun x42 => some (x42, 0))) else ((gf_spec_l7Add (⟨q9.1, q9.2⟩ : Repo) x30 (⟨[x32.at_], a2, a3⟩ : Commit)).bind fun x48 => some (x48, 0)))))))
def c_spec_RepoAdd : Con := ⟨Repo × Str × (List Feat) × Str, (Repo × Int), 241, fun a => [.agg [.ro (List.map (eCommit false) a.1.commits), .ro (List.map eHead a.1.heads)], .v (.string a.2.1), .ro (List.map (eFeat false) a.2.2.1), .v (.string a.2.2.2)], fun a => gf_spec_RepoAdd a.1 a.2.1 a.2.2.1 a.2.2.2, fun a r => ⟨[(true, eRepo true r.1), (false, [.v (.int .i64 r.2)])], []⟩, fun a => []⟩
/-! laws.FnExactRepoAdd -/
def ib_laws_FnExactRepoAdd : IC :=
 (.seq (.reg [⟨some 4, .box 466 [some 387, some 402] (.t 0), none⟩,
 ⟨some 8, .mv (.c (.bool false)), none⟩])
 (.seq (.seq (.reg [⟨some 21, .mv (.t 1), none⟩,
 ⟨some 22, .len true (.t 21), none⟩,
 ⟨some 23, .bin .gtr (.t 22) (.c (.int .i64 1048576)), none⟩])
 (.cond (.t 23) (.seq (.reg [⟨some 8, .mv (.c (.bool true)), none⟩])
 .ret)
 .skip))
 (.seq (.seq (.reg [⟨some 24, .mv (.t 3), none⟩,
 ⟨some 25, .len true (.t 24), none⟩,
 ⟨some 26, .bin .gtr (.t 25) (.c (.int .i64 1048576)), none⟩])
 (.cond (.t 26) (.seq (.reg [⟨some 8, .mv (.c (.bool true)), none⟩])
 .ret)
 .skip))
 (.seq (.reg [⟨some 9, .mv (.c (.int .i64 1048576)), none⟩])
 (.seq (.reg [⟨some 27, .load 2 true (.t 4), none⟩,
 ⟨some 28, .mv (.t 9), none⟩,
 ⟨some 29, .call 179 [(false, .t 27), (false, .t 28)], none⟩,
 ⟨some 9, .mv (.t 29), none⟩])
 (.seq (.seq (.reg [⟨some 30, .mv (.t 9), none⟩,
 ⟨some 31, .bin .lss (.t 30) (.c (.int .i64 0)), none⟩])
 (.cond (.t 31) (.seq (.reg [⟨some 8, .mv (.c (.bool true)), none⟩])
 .ret)
 .skip))
 (.seq (.reg [⟨some 32, .mv (.t 2), none⟩,
 ⟨some 33, .mv (.t 9), none⟩,
 ⟨some 34, .call 7 [(false, .t 32), (false, .t 33)], none⟩,
 ⟨some 9, .mv (.t 34), none⟩])
 (.seq (.seq (.reg [⟨some 35, .mv (.t 9), none⟩,
 ⟨some 36, .bin .lss (.t 35) (.c (.int .i64 0)), none⟩])
 (.cond (.t 36) (.seq (.reg [⟨some 8, .mv (.c (.bool true)), none⟩])
 .ret)
 .skip))
 (seqC (.reg [⟨some 38, .load 2 true (.t 4), none⟩,
 ⟨some 39, .call 180 [(false, .t 38)], none⟩,
 ⟨some 40, .mv (.t 1), none⟩,
 ⟨some 41, .mv (.t 2), none⟩,
 ⟨some 42, .call 71 [(false, .t 41)], none⟩,
 ⟨some 43, .mv (.t 3), none⟩,
 ⟨some 44, .call 241 [(false, .t 39), (false, .t 40), (false, .t 42), (false, .t 43)], none⟩,
 ⟨some 37, .mv (.t 44), none⟩,
 ⟨some 45, .ext (.t 37) 0, none⟩,
 ⟨some 46, .ext (.t 37) 1, none⟩,
 ⟨some 10, .alloc 210 [.sl true 115 [], .sl true 130 []], none⟩,
 ⟨none, .store [some 115, some 130] (.t 10) (.t 45), none⟩,
 ⟨some 11, .mv (.t 46), none⟩])
 (.seq (.reg [⟨some 47, .load 2 true (.t 4), none⟩,
 ⟨some 48, .call 180 [(false, .t 47)], none⟩,
 ⟨some 12, .alloc 210 [.sl true 115 [], .sl true 130 []], none⟩,
 ⟨none, .store [some 115, some 130] (.t 12) (.t 48), none⟩])
 (.seq (.reg [⟨some 49, .mv (.t 2), none⟩,
 ⟨some 50, .call 71 [(false, .t 49)], none⟩,
 ⟨some 13, .mv (.t 50), none⟩])
 (seqC (.reg [⟨some 52, .load 2 true (.t 12), none⟩,
 ⟨some 53, .mv (.t 1), none⟩,
 ⟨some 54, .mv (.t 13), none⟩,
 ⟨some 55, .mv (.t 3), none⟩,
 ⟨some 56, .call 234 [(false, .t 52), (false, .t 53), (false, .t 54), (false, .t 55)], none⟩,
 ⟨some 51, .mv (.t 56), none⟩,
 ⟨some 57, .ext (.t 51) 0, none⟩,
 ⟨some 58, .ext (.t 51) 1, none⟩,
 ⟨some 14, .alloc 210 [.sl true 115 [], .sl true 130 []], none⟩,
 ⟨none, .store [some 115, some 130] (.t 14) (.t 57), none⟩,
 ⟨some 15, .mv (.t 58), none⟩])
 (.seq (.seq (.reg [⟨some 59, .load 2 true (.t 14), none⟩,
 ⟨some 60, .load 2 true (.t 10), none⟩,
 ⟨some 61, .call 183 [(false, .t 59), (false, .t 60)], none⟩,
 ⟨some 62, .un .not (.t 61), none⟩,
 ⟨some 63, .mv (.t 62), none⟩,
 ⟨some 64, .mv (.t 15), some (63, false)⟩,
 ⟨some 65, .mv (.t 11), some (63, false)⟩,
 ⟨some 66, .bin .neq (.t 64) (.t 65), some (63, false)⟩,
 ⟨some 67, .pick (.t 63) (.c (.bool true)) (.t 66), none⟩])
 (.cond (.t 67) (.seq (.reg [⟨some 8, .mv (.c (.bool false)), none⟩])
 .ret)
 .skip))
 (.seq (.seq (.drw [⟨some 68, .load 2 true (.t 12), none⟩,
 ⟨some 69, .load 2 true (.t 4), none⟩,
 ⟨some 70, .call 180 [(false, .t 69)], none⟩,
 ⟨some 71, .call 183 [(false, .t 68), (false, .t 70)], none⟩,
 ⟨some 72, .un .not (.t 71), none⟩] [(0, 1), (0, 2)])
 (.cond (.t 72) (.seq (.reg [⟨some 8, .mv (.c (.bool false)), none⟩])
 .ret)
 .skip))
 (.seq (.seq (.reg [⟨some 73, .mv (.t 13), none⟩,
 ⟨some 74, .mv (.t 2), none⟩,
 ⟨some 75, .call 71 [(false, .t 74)], none⟩,
 ⟨some 76, .call 160 [(false, .t 73), (false, .t 75)], none⟩,
 ⟨some 77, .un .not (.t 76), none⟩])
 (.cond (.t 77) (.seq (.reg [⟨some 8, .mv (.c (.bool false)), none⟩])
 .ret)
 .skip))
 (.seq (.reg [⟨some 16, .mv (.c (.int .i64 1)), none⟩])
 (.seq (.reg [⟨some 78, .load 2 true (.t 12), none⟩,
 ⟨some 79, .mv (.t 16), none⟩,
 ⟨some 80, .call 185 [(true, .t 78), (false, .t 79)], none⟩,
 ⟨some 16, .mv (.t 80), none⟩])
 (.seq (.reg [⟨some 81, .mv (.t 13), none⟩,
 ⟨some 82, .mv (.t 16), none⟩,
 ⟨some 83, .call 170 [(true, .t 81), (false, .t 82)], none⟩,
 ⟨some 16, .mv (.t 83), none⟩])
 (.seq (.seq (.reg [⟨some 84, .mv (.t 16), none⟩,
 ⟨some 85, .bin .lss (.t 84) (.c (.int .i64 0)), none⟩,
 ⟨some 86, .mv (.t 85), none⟩,
 ⟨some 87, .load 2 true (.t 14), some (86, false)⟩,
 ⟨some 88, .load 2 true (.t 10), some (86, false)⟩,
 ⟨some 89, .call 183 [(false, .t 87), (false, .t 88)], some (86, false)⟩,
 ⟨some 90, .un .not (.t 89), some (86, false)⟩,
 ⟨some 91, .pick (.t 86) (.c (.bool true)) (.t 90), none⟩,
 ⟨some 92, .mv (.t 91), none⟩,
 ⟨some 93, .mv (.t 15), some (92, false)⟩,
 ⟨some 94, .mv (.t 11), some (92, false)⟩,
 ⟨some 95, .bin .neq (.t 93) (.t 94), some (92, false)⟩,
 ⟨some 96, .pick (.t 92) (.c (.bool true)) (.t 95), none⟩])
 (.cond (.t 96) (.seq (.reg [⟨some 8, .mv (.c (.bool false)), none⟩])
 .ret)
 .skip))
 (.seq (.reg [⟨some 17, .mv (.c (.int .i64 1)), none⟩])
 (seqC (.reg [⟨some 97, .load 2 true (.t 14), none⟩,
 ⟨some 98, .mv (.t 17), none⟩,
 ⟨some 99, .call 185 [(true, .t 97), (false, .t 98)], none⟩,
 ⟨some 17, .mv (.t 99), none⟩])
 (.seq (.reg [⟨some 18, .mv (.c (.int .i64 1)), none⟩])
 (.seq (.reg [⟨some 100, .load 2 true (.t 14), none⟩,
 ⟨some 101, .mv (.t 18), none⟩,
 ⟨some 102, .call 187 [(false, .t 100), (false, .t 101)], none⟩,
 ⟨some 18, .mv (.t 102), none⟩])
 (.seq (.seq (.reg [⟨some 103, .mv (.t 18), none⟩,
 ⟨some 104, .bin .lss (.t 103) (.c (.int .i64 0)), none⟩])
 (.cond (.t 104) (.seq (.reg [⟨some 8, .mv (.c (.bool false)), none⟩])
 .ret)
 .skip))
 (.seq (.seq (.reg [⟨some 105, .mv (.t 18), none⟩,
 ⟨some 106, .mv (.t 17), none⟩,
 ⟨some 107, .bin .neq (.t 105) (.t 106), none⟩])
 (.cond (.t 107) (.seq (.reg [⟨some 8, .mv (.c (.bool false)), none⟩])
 .ret)
 .skip))
 (.seq (.reg [⟨some 109, .load 2 true (.t 4), none⟩,
 ⟨some 110, .call 180 [(false, .t 109)], none⟩,
 ⟨some 111, .mv (.t 1), none⟩,
 ⟨some 112, .mv (.t 2), none⟩,
 ⟨some 113, .call 71 [(false, .t 112)], none⟩,
 ⟨some 114, .mv (.t 3), none⟩,
 ⟨some 115, .call 234 [(false, .t 110), (false, .t 111), (false, .t 113), (false, .t 114)], none⟩,
 ⟨some 108, .mv (.t 115), none⟩,
 ⟨some 116, .ext (.t 108) 0, none⟩,
 ⟨some 117, .ext (.t 108) 1, none⟩,
 ⟨some 19, .alloc 210 [.sl true 115 [], .sl true 130 []], none⟩,
 ⟨none, .store [some 115, some 130] (.t 19) (.t 116), none⟩,
 ⟨some 20, .mv (.t 117), none⟩])
 (.seq (.seq (.reg [⟨some 118, .load 2 true (.t 19), none⟩,
 ⟨some 119, .load 2 true (.t 10), none⟩,
 ⟨some 120, .call 183 [(false, .t 118), (false, .t 119)], none⟩,
 ⟨some 121, .un .not (.t 120), none⟩,
 ⟨some 122, .mv (.t 121), none⟩,
 ⟨some 123, .mv (.t 20), some (122, false)⟩,
 ⟨some 124, .mv (.t 11), some (122, false)⟩,
 ⟨some 125, .bin .neq (.t 123) (.t 124), some (122, false)⟩,
 ⟨some 126, .pick (.t 122) (.c (.bool true)) (.t 125), none⟩])
 (.cond (.t 126) (.seq (.reg [⟨some 8, .mv (.c (.bool false)), none⟩])
 .ret)
 .skip))
 (.seq (.reg [⟨some 18, .mv (.c (.int .i64 1)), none⟩])
 (.seq (.reg [⟨some 127, .load 2 true (.t 14), none⟩,
 ⟨some 128, .mv (.t 18), none⟩,
 ⟨some 129, .call 187 [(false, .t 127), (false, .t 128)], none⟩,
 ⟨some 18, .mv (.t 129), none⟩])
 (.seq (.seq (.reg [⟨some 130, .mv (.t 18), none⟩,
 ⟨some 131, .bin .lss (.t 130) (.c (.int .i64 0)), none⟩])
 (.cond (.t 131) (.seq (.reg [⟨some 8, .mv (.c (.bool false)), none⟩])
 .ret)
 .skip))
 (.seq (.seq (.reg [⟨some 132, .mv (.t 18), none⟩,
 ⟨some 133, .mv (.t 17), none⟩,
 ⟨some 134, .bin .neq (.t 132) (.t 133), none⟩])
 (.cond (.t 134) (.seq (.reg [⟨some 8, .mv (.c (.bool false)), none⟩])
 .ret)
 .skip))
 (.seq (.reg [⟨some 8, .mv (.c (.bool true)), none⟩])
 .ret))))))))))))))))))))))))))))))))
def if_laws_FnExactRepoAdd : IFn := ⟨135, [.inl 8], ib_laws_FnExactRepoAdd, lcF []⟩
def ks_laws_FnExactRepoAdd : List (List (Option Nat)) := [[none]]
def gf_laws_FnExactRepoAdd (a0 : Repo) (a1 : Str) (a2 : (List Feat)) (a3 : Str) : Option Bool := if (decide ((a1.size : Int) > 1048576)) = true then (some (true)) else (if (decide ((a3.size : Int) > 1048576)) = true then (some (true)) else ((gf_laws_szRepo a0 1048576).bind fun x2 => if (decide (x2 < 0)) = true then (some (true)) else ((gf_laws_szFeatS a2 x2).bind fun x4 => if (decide (x4 < 0)) = true then (some (true)) else ((((gf_laws_toRepo a0).bind fun x7 => (gf_laws_toFeatS a2).bind fun x13 => (gf_spec_RepoAdd x7 a1 x13 a3).bind fun x17 => some (x17.2, x17.1.commits, x17.1.heads) : Option (Int × (List Commit) × (List Head)))).bind fun q6 => (gf_laws_toRepo a0).bind fun x33 => (gf_laws_toFeatS a2).bind fun x40 => (((gf_impl_RepoAdd x33 a1 x40 a3).bind fun x45 => some (x45.2, x45.1.commits, x45.1.heads) : Option (Int × (List Commit) × (List Head)))).bind fun q44 => (gf_laws_eqRepo (⟨q44.2.1, q44.2.2⟩ : Repo) (⟨q6.2.1, q6.2.2⟩ : Repo)).bind fun x73 => if (!x73) = true then (some (false)) else (if (q44.1 != q6.1) = true then (some (false)) else ((gf_laws_toRepo a0).bind fun x75 => (gf_laws_eqRepo x33 x75).bind fun x81 => if (!x81) = true then (some (false)) else ((gf_laws_toFeatS a2).bind fun x83 => (gf_laws_eqFeatS x40 x83).bind fun x87 => if (!x87) = true then (some (false)) else ((gf_laws_markRepo x33 1).bind fun x89 => (gf_laws_markFeatS x40 x89.1).bind fun x91 => if (decide (x91.1 < 0)) = true then (some (false)) else ((gf_laws_eqRepo (⟨q44.2.1, q44.2.2⟩ : Repo) (⟨q6.2.1, q6.2.2⟩ : Repo)).bind fun x93 => if (!x93) = true then (some (false)) else (if (q44.1 != q6.1) = true then (some (false)) else ((((gf_laws_markRepo (⟨q44.2.1, q44.2.2⟩ : Repo) 1).bind fun x96 => some (x96.1, x96.2.commits, x96.2.heads) : Option (Int × (List Commit) × (List Head)))).bind fun q95 => (gf_laws_heldRepo (⟨q95.2.1, q95.2.2⟩ : Repo) 1).bind fun x112 => if (decide (x112 < 0)) = true then (some (false)) else (if (x112 != q95.1) = true then (some (false)) else ((gf_laws_toRepo a0).bind fun x114 => (gf_laws_toFeatS a2).bind fun x120 => (gf_impl_RepoAdd x114 a1 x120 a3).bind fun x124 => (gf_laws_eqRepo x124.1 (⟨q6.2.1, q6.2.2⟩ : Repo)).bind fun x131 => if (!x131) = true then (some (false)) else (if (x124.2 != q6.1) = true then (some (false)) else ((gf_laws_heldRepo (⟨q95.2.1, q95.2.2⟩ : Repo) 1).bind fun x133 => if (decide (x133 < 0)) = true then (some (false)) else (if (x133 != q95.1) = true then (some (false)) else (some (true))))))))))))))))))
def c_laws_FnExactRepoAdd : Con := ⟨Repo × Str × (List Feat) × Str, Bool, 281, fun a => [.agg [.ro (List.map (eCommit false) a.1.commits), .ro (List.map eHead a.1.heads)], .v (.string a.2.1), .ro (List.map (eFeat false) a.2.2.1), .v (.string a.2.2.2)], fun a => gf_laws_FnExactRepoAdd a.1 a.2.1 a.2.2.1 a.2.2.2, fun a r => ⟨[(false, [.v (.bool r)])], []⟩, fun a => []⟩
end Go.Proofs.AM
