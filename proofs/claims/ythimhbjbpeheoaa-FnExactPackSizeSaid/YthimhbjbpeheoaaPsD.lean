/- A part of the proof of 'FnExactPackSizeSaid' (PsD): lemmas on an abstract machine for the program's functions. Conditions: none. -/
import Derived.Test.YthimhbjbpeheoaaG2
set_option linter.unusedVariables false
set_option maxRecDepth 100000
set_option maxHeartbeats 4000000
namespace Go.Proofs.AM
attribute [local irreducible] vwp vstps vstpLs vstp vdo vret kseq kblk kloop kend kcut kloop2 frzV renV
def ib_laws_szPtS : IC :=
 (.seq (.reg [⟨some 4, .mv (.c (.int .i64 0)), none⟩])
 (.seq (.reg [⟨some 5, .mv (.t 1), none⟩,
 ⟨some 6, .mv (.t 0), none⟩,
 ⟨some 7, .len false (.t 6), none⟩,
 ⟨some 8, .bin .sub (.t 5) (.t 7), none⟩,
 ⟨some 1, .mv (.t 8), none⟩])
 (.seq (.seq (.reg [⟨some 9, .mv (.t 1), none⟩,
 ⟨some 10, .bin .lss (.t 9) (.c (.int .i64 0)), none⟩])
 (.cond (.t 10) (.seq (.reg [⟨some 4, .mv (.c (.int .i64 (-1))), none⟩])
 .ret)
 .skip))
 (.seq (.reg [⟨some 11, .mv (.t 1), none⟩,
 ⟨some 4, .mv (.t 11), none⟩])
 .ret))))
def if_laws_szPtS : IFn := ⟨12, [.inl 4], ib_laws_szPtS⟩
def ks_laws_szPtS : List (List (Option Nat)) := [[none]]
def gf_laws_szPtS (a0 : (List Pt)) (a1 : Int) : Option Int := if (decide ((IntKind.i64.wrap (a1 - (a0.length : Int))) < 0)) = true then (some ((-1))) else (some ((IntKind.i64.wrap (a1 - (a0.length : Int)))))
def c_laws_szPtS : Con := ⟨(List Pt) × Int, Int, 1, fun a => [.ro (List.map ePt a.1), .v (.int .i64 a.2)], fun a => gf_laws_szPtS a.1 a.2, fun r => ⟨[(false, [.v (.int .i64 r)])], []⟩⟩
def ib_laws_szTag : IC :=
 (.seq (.reg [⟨some 2, .box 354 [none, none] (.t 0), none⟩,
 ⟨some 4, .mv (.c (.int .i64 0)), none⟩])
 (.seq (.reg [⟨some 5, .mv (.t 1), none⟩,
 ⟨some 6, .faddr 0 (.t 2), none⟩,
 ⟨some 7, .load 1 false (.t 6), none⟩,
 ⟨some 8, .len true (.t 7), none⟩,
 ⟨some 9, .bin .sub (.t 5) (.t 8), none⟩,
 ⟨some 1, .mv (.t 9), none⟩])
 (.seq (.seq (.reg [⟨some 10, .mv (.t 1), none⟩,
 ⟨some 11, .bin .lss (.t 10) (.c (.int .i64 0)), none⟩])
 (.cond (.t 11) (.seq (.reg [⟨some 4, .mv (.c (.int .i64 (-1))), none⟩])
 .ret)
 .skip))
 (.seq (.reg [⟨some 12, .mv (.t 1), none⟩,
 ⟨some 13, .faddr 1 (.t 2), none⟩,
 ⟨some 14, .load 1 false (.t 13), none⟩,
 ⟨some 15, .len true (.t 14), none⟩,
 ⟨some 16, .bin .sub (.t 12) (.t 15), none⟩,
 ⟨some 1, .mv (.t 16), none⟩])
 (.seq (.seq (.reg [⟨some 17, .mv (.t 1), none⟩,
 ⟨some 18, .bin .lss (.t 17) (.c (.int .i64 0)), none⟩])
 (.cond (.t 18) (.seq (.reg [⟨some 4, .mv (.c (.int .i64 (-1))), none⟩])
 .ret)
 .skip))
 (.seq (.reg [⟨some 19, .mv (.t 1), none⟩,
 ⟨some 4, .mv (.t 19), none⟩])
 .ret))))))
def if_laws_szTag : IFn := ⟨20, [.inl 4], ib_laws_szTag⟩
def ks_laws_szTag : List (List (Option Nat)) := [[none]]
def gf_laws_szTag (a0 : Tag) (a1 : Int) : Option Int := if (decide ((IntKind.i64.wrap (a1 - (a0.key.size : Int))) < 0)) = true then (some ((-1))) else (if (decide ((IntKind.i64.wrap ((IntKind.i64.wrap (a1 - (a0.key.size : Int))) - (a0.val.size : Int))) < 0)) = true then (some ((-1))) else (some ((IntKind.i64.wrap ((IntKind.i64.wrap (a1 - (a0.key.size : Int))) - (a0.val.size : Int))))))
def c_laws_szTag : Con := ⟨Tag × Int, Int, 2, fun a => [.agg [.v (.string a.1.key), .v (.string a.1.val)], .v (.int .i64 a.2)], fun a => gf_laws_szTag a.1 a.2, fun r => ⟨[(false, [.v (.int .i64 r)])], []⟩⟩
def ib_laws_szShape : IC :=
 (.seq (.reg [⟨some 2, .box 482 [none, some 338] (.t 0), none⟩,
 ⟨some 4, .mv (.c (.int .i64 0)), none⟩])
 (.seq (.reg [⟨some 5, .faddr 1 (.t 2), none⟩,
 ⟨some 6, .load 1 false (.t 5), none⟩,
 ⟨some 7, .mv (.t 1), none⟩,
 ⟨some 8, .call 1 [(false, .t 6), (false, .t 7)], none⟩,
 ⟨some 1, .mv (.t 8), none⟩])
 (.seq (.seq (.reg [⟨some 9, .mv (.t 1), none⟩,
 ⟨some 10, .bin .lss (.t 9) (.c (.int .i64 0)), none⟩])
 (.cond (.t 10) (.seq (.reg [⟨some 4, .mv (.c (.int .i64 (-1))), none⟩])
 .ret)
 .skip))
 (.seq (.reg [⟨some 11, .mv (.t 1), none⟩,
 ⟨some 4, .mv (.t 11), none⟩])
 .ret))))
def if_laws_szShape : IFn := ⟨12, [.inl 4], ib_laws_szShape⟩
def ks_laws_szShape : List (List (Option Nat)) := [[none]]
def gf_laws_szShape (a0 : Shape) (a1 : Int) : Option Int := (gf_laws_szPtS a0.pts a1).bind fun x2 => if (decide (x2 < 0)) = true then (some ((-1))) else (some (x2))
def c_laws_szShape : Con := ⟨Shape × Int, Int, 3, fun a => [.agg [.v (.int .i64 a.1.kind), .ro (List.map ePt a.1.pts)], .v (.int .i64 a.2)], fun a => gf_laws_szShape a.1 a.2, fun r => ⟨[(false, [.v (.int .i64 r)])], []⟩⟩
def ib_laws_szTagS : IC :=
 (.seq (.reg [⟨some 4, .mv (.c (.int .i64 0)), none⟩])
 (.seq (.reg [⟨some 6, .mv (.t 1), none⟩,
 ⟨some 7, .mv (.t 0), none⟩,
 ⟨some 8, .len false (.t 7), none⟩,
 ⟨some 9, .bin .sub (.t 6) (.t 8), none⟩,
 ⟨some 1, .mv (.t 9), none⟩])
 (.seq (.seq (.reg [⟨some 10, .mv (.t 1), none⟩,
 ⟨some 11, .bin .lss (.t 10) (.c (.int .i64 0)), none⟩])
 (.cond (.t 11) (.seq (.reg [⟨some 4, .mv (.c (.int .i64 (-1))), none⟩])
 .ret)
 .skip))
 (.seq (.seq (.reg [⟨some 5, .mv (.c (.int .i64 0)), none⟩])
 (blkC 0 (.loop (.seq (.seq (.reg [⟨some 12, .mv (.t 5), none⟩,
 ⟨some 13, .mv (.t 0), none⟩,
 ⟨some 14, .len false (.t 13), none⟩,
 ⟨some 15, .bin .lss (.t 12) (.t 14), none⟩])
 (.cond (.t 15) .skip
 (.exit 0)))
 (.seq (.block 1 (.seq (.reg [⟨some 18, .mv (.t 0), none⟩,
 ⟨some 19, .mv (.t 5), none⟩,
 ⟨some 20, .iaddr 2 (.t 18) (.t 19), none⟩,
 ⟨some 21, .load 2 true (.t 20), none⟩,
 ⟨some 22, .mv (.t 1), none⟩,
 ⟨some 23, .call 2 [(false, .t 21), (false, .t 22)], none⟩,
 ⟨some 1, .mv (.t 23), none⟩])
 (.seq (.reg [⟨some 24, .mv (.t 1), none⟩,
 ⟨some 25, .bin .lss (.t 24) (.c (.int .i64 0)), none⟩])
 (.cond (.t 25) (.seq (.reg [⟨some 4, .mv (.c (.int .i64 (-1))), none⟩])
 .ret)
 .skip))))
 (.reg [⟨some 16, .mv (.t 5), none⟩,
 ⟨some 17, .bin .add (.t 16) (.c (.int .i64 1)), none⟩,
 ⟨some 5, .mv (.t 17), none⟩]))))))
 (.seq (.reg [⟨some 26, .mv (.t 1), none⟩,
 ⟨some 4, .mv (.t 26), none⟩])
 .ret)))))
def if_laws_szTagS : IFn := ⟨27, [.inl 4], ib_laws_szTagS⟩
def ks_laws_szTagS : List (List (Option Nat)) := [[none]]
def gl_laws_szTagS_1 : List Tag → Nat → Int → Option (Int ⊕ Int)
  | [], k18, v16 => some (.inr v16)
  | x19 :: l20, k18, v16 => (gf_laws_szTag x19 v16).bind fun x27 => if (decide (x27 < 0)) = true then (some (.inl ((-1)))) else (gl_laws_szTagS_1 l20 (k18 + 1) x27)
def gf_laws_szTagS (a0 : (List Tag)) (a1 : Int) : Option Int := if (decide ((IntKind.i64.wrap (a1 - (a0.length : Int))) < 0)) = true then (some ((-1))) else (if fits a0.length = true then ((gl_laws_szTagS_1 a0 0 (IntKind.i64.wrap (a1 - (a0.length : Int)))).bind fun q => match q with | .inl r => some r | .inr q15 => some (q15)) else none)
def c_laws_szTagS : Con := ⟨(List Tag) × Int, Int, 4, fun a => [.ro (List.map eTag a.1), .v (.int .i64 a.2)], fun a => gf_laws_szTagS a.1 a.2, fun r => ⟨[(false, [.v (.int .i64 r)])], []⟩⟩
def ib_laws_szFeat : IC :=
 (.seq (.reg [⟨some 2, .box 372 [none, none, some 338, some 354] (.t 0), none⟩,
 ⟨some 4, .mv (.c (.int .i64 0)), none⟩])
 (.seq (.reg [⟨some 5, .mv (.t 1), none⟩,
 ⟨some 6, .faddr 0 (.t 2), none⟩,
 ⟨some 7, .load 1 false (.t 6), none⟩,
 ⟨some 8, .len true (.t 7), none⟩,
 ⟨some 9, .bin .sub (.t 5) (.t 8), none⟩,
 ⟨some 1, .mv (.t 9), none⟩])
 (.seq (.seq (.reg [⟨some 10, .mv (.t 1), none⟩,
 ⟨some 11, .bin .lss (.t 10) (.c (.int .i64 0)), none⟩])
 (.cond (.t 11) (.seq (.reg [⟨some 4, .mv (.c (.int .i64 (-1))), none⟩])
 .ret)
 .skip))
 (.seq (.reg [⟨some 12, .faddr 1 (.t 2), none⟩,
 ⟨some 13, .load 2 true (.t 12), none⟩,
 ⟨some 14, .mv (.t 1), none⟩,
 ⟨some 15, .call 3 [(false, .t 13), (false, .t 14)], none⟩,
 ⟨some 1, .mv (.t 15), none⟩])
 (.seq (.seq (.reg [⟨some 16, .mv (.t 1), none⟩,
 ⟨some 17, .bin .lss (.t 16) (.c (.int .i64 0)), none⟩])
 (.cond (.t 17) (.seq (.reg [⟨some 4, .mv (.c (.int .i64 (-1))), none⟩])
 .ret)
 .skip))
 (.seq (.reg [⟨some 18, .faddr 3 (.t 2), none⟩,
 ⟨some 19, .load 1 false (.t 18), none⟩,
 ⟨some 20, .mv (.t 1), none⟩,
 ⟨some 21, .call 4 [(false, .t 19), (false, .t 20)], none⟩,
 ⟨some 1, .mv (.t 21), none⟩])
 (.seq (.seq (.reg [⟨some 22, .mv (.t 1), none⟩,
 ⟨some 23, .bin .lss (.t 22) (.c (.int .i64 0)), none⟩])
 (.cond (.t 23) (.seq (.reg [⟨some 4, .mv (.c (.int .i64 (-1))), none⟩])
 .ret)
 .skip))
 (.seq (.reg [⟨some 24, .mv (.t 1), none⟩,
 ⟨some 4, .mv (.t 24), none⟩])
 .ret))))))))
def if_laws_szFeat : IFn := ⟨25, [.inl 4], ib_laws_szFeat⟩
def ks_laws_szFeat : List (List (Option Nat)) := [[none]]
def gf_laws_szFeat (a0 : Feat) (a1 : Int) : Option Int := if (decide ((IntKind.i64.wrap (a1 - (a0.id.size : Int))) < 0)) = true then (some ((-1))) else ((gf_laws_szShape a0.shape (IntKind.i64.wrap (a1 - (a0.id.size : Int)))).bind fun x2 => if (decide (x2 < 0)) = true then (some ((-1))) else ((gf_laws_szTagS a0.tags x2).bind fun x4 => if (decide (x4 < 0)) = true then (some ((-1))) else (some (x4))))
def c_laws_szFeat : Con := ⟨Feat × Int, Int, 5, fun a => [.agg [.v (.string a.1.id), .v (.int .i64 a.1.shape.kind), .ro (List.map ePt a.1.shape.pts), .ro (List.map eTag a.1.tags)], .v (.int .i64 a.2)], fun a => gf_laws_szFeat a.1 a.2, fun r => ⟨[(false, [.v (.int .i64 r)])], []⟩⟩
def ib_laws_szIntS : IC :=
 (.seq (.reg [⟨some 4, .mv (.c (.int .i64 0)), none⟩])
 (.seq (.reg [⟨some 5, .mv (.t 1), none⟩,
 ⟨some 6, .mv (.t 0), none⟩,
 ⟨some 7, .len false (.t 6), none⟩,
 ⟨some 8, .bin .sub (.t 5) (.t 7), none⟩,
 ⟨some 1, .mv (.t 8), none⟩])
 (.seq (.seq (.reg [⟨some 9, .mv (.t 1), none⟩,
 ⟨some 10, .bin .lss (.t 9) (.c (.int .i64 0)), none⟩])
 (.cond (.t 10) (.seq (.reg [⟨some 4, .mv (.c (.int .i64 (-1))), none⟩])
 .ret)
 .skip))
 (.seq (.reg [⟨some 11, .mv (.t 1), none⟩,
 ⟨some 4, .mv (.t 11), none⟩])
 .ret))))
def if_laws_szIntS : IFn := ⟨12, [.inl 4], ib_laws_szIntS⟩
def ks_laws_szIntS : List (List (Option Nat)) := [[none]]
def gf_laws_szIntS (a0 : (List Int)) (a1 : Int) : Option Int := if (decide ((IntKind.i64.wrap (a1 - (a0.length : Int))) < 0)) = true then (some ((-1))) else (some ((IntKind.i64.wrap (a1 - (a0.length : Int)))))
def c_laws_szIntS : Con := ⟨(List Int) × Int, Int, 6, fun a => [.ro (List.map eInt a.1), .v (.int .i64 a.2)], fun a => gf_laws_szIntS a.1 a.2, fun r => ⟨[(false, [.v (.int .i64 r)])], []⟩⟩
def ib_laws_toPt : IC :=
 (.seq (.reg [⟨some 1, .box 338 [none, none] (.t 0), none⟩,
 ⟨some 2, .alloc 66 [.v (.int .i64 0), .v (.int .i64 0)], none⟩])
 (.seq (.reg [⟨some 3, .alloc 66 [.v (.int .i64 0), .v (.int .i64 0)], none⟩])
 (.seq (.reg [⟨some 4, .faddr 0 (.t 1), none⟩,
 ⟨some 5, .load 1 false (.t 4), none⟩,
 ⟨some 6, .faddr 0 (.t 3), none⟩,
 ⟨none, .store [none] (.t 6) (.t 5), none⟩])
 (.seq (.reg [⟨some 7, .faddr 1 (.t 1), none⟩,
 ⟨some 8, .load 1 false (.t 7), none⟩,
 ⟨some 9, .faddr 1 (.t 3), none⟩,
 ⟨none, .store [none] (.t 9) (.t 8), none⟩])
 (.seq (.reg [⟨some 10, .load 2 true (.t 3), none⟩,
 ⟨none, .store [none, none] (.t 2) (.t 10), none⟩])
 .ret)))))
def if_laws_toPt : IFn := ⟨11, [.inr (2, 2)], ib_laws_toPt⟩
def ks_laws_toPt : List (List (Option Nat)) := [[none, none]]
def gf_laws_toPt (a0 : Pt) : Option Pt := some (a0)
def c_laws_toPt : Con := ⟨Pt, Pt, 64, fun a => [.agg [.v (.int .i64 a.x), .v (.int .i64 a.y)]], fun a => gf_laws_toPt a, fun r => ⟨[(true, ePt r)], []⟩⟩
def ib_laws_toPtS : IC :=
 (.seq (.reg [⟨some 2, .mv (.c (.slice none 0 0)), none⟩])
 (.seq (.reg [⟨some 5, .mv (.t 0), none⟩,
 ⟨some 6, .len false (.t 5), none⟩,
 ⟨some 7, .mks 66 [.v (.int .i64 0), .v (.int .i64 0)] (.t 6) (.t 6), none⟩,
 ⟨some 3, .mv (.t 7), none⟩])
 (.seq (.seq (.reg [⟨some 4, .mv (.c (.int .i64 0)), none⟩])
 (blkC 0 (.loop (.seq (.seq (.reg [⟨some 8, .mv (.t 4), none⟩,
 ⟨some 9, .mv (.t 0), none⟩,
 ⟨some 10, .len false (.t 9), none⟩,
 ⟨some 11, .bin .lss (.t 8) (.t 10), none⟩])
 (.cond (.t 11) .skip
 (.exit 0)))
 (.seq (.block 1 (.reg [⟨some 14, .mv (.t 3), none⟩,
 ⟨some 15, .mv (.t 4), none⟩,
 ⟨some 16, .mv (.t 0), none⟩,
 ⟨some 17, .mv (.t 4), none⟩,
 ⟨some 18, .iaddr 2 (.t 16) (.t 17), none⟩,
 ⟨some 19, .load 2 true (.t 18), none⟩,
 ⟨some 20, .call 64 [(false, .t 19)], none⟩,
 ⟨some 21, .iaddr 2 (.t 14) (.t 15), none⟩,
 ⟨none, .store [none, none] (.t 21) (.t 20), none⟩]))
 (.reg [⟨some 12, .mv (.t 4), none⟩,
 ⟨some 13, .bin .add (.t 12) (.c (.int .i64 1)), none⟩,
 ⟨some 4, .mv (.t 13), none⟩]))))))
 (.seq (.reg [⟨some 22, .mv (.t 3), none⟩,
 ⟨some 2, .mv (.t 22), none⟩])
 .ret))))
def if_laws_toPtS : IFn := ⟨23, [.inl 2], ib_laws_toPtS⟩
def ks_laws_toPtS : List (List (Option Nat)) := [[some 66]]
def gl_laws_toPtS_1 : List Pt → Nat → (List Pt) → Option (List Pt)
  | [], k33, v30 => some v30
  | x34 :: l35, k33, v30 => (gf_laws_toPt x34).bind fun x42 => (idx v30 (k33 : Int)).bind fun x44 => gl_laws_toPtS_1 l35 (k33 + 1) (List.set v30 (k33 : Int).toNat x42)
def gf_laws_toPtS (a0 : (List Pt)) : Option (List Pt) := if (decide (0 ≤ (a0.length : Int)) && fits ((a0.length : Int)).toNat) = true then if fits a0.length = true then ((gl_laws_toPtS_1 a0 0 (List.replicate ((a0.length : Int)).toNat (⟨0, 0⟩ : Pt))).bind fun q28 => some (q28)) else none else none
def c_laws_toPtS : Con := ⟨(List Pt), (List Pt), 65, fun a => [.ro (List.map ePt a)], fun a => gf_laws_toPtS a, fun r => ⟨[(false, [sl true 66 (List.map ePt r)])], []⟩⟩
def ib_laws_toTag : IC :=
 (.seq (.reg [⟨some 1, .box 354 [none, none] (.t 0), none⟩,
 ⟨some 2, .alloc 82 [.v (.string ⟨#[]⟩), .v (.string ⟨#[]⟩)], none⟩])
 (.seq (.reg [⟨some 3, .alloc 82 [.v (.string ⟨#[]⟩), .v (.string ⟨#[]⟩)], none⟩])
 (.seq (.reg [⟨some 4, .faddr 0 (.t 1), none⟩,
 ⟨some 5, .load 1 false (.t 4), none⟩,
 ⟨some 6, .faddr 0 (.t 3), none⟩,
 ⟨none, .store [none] (.t 6) (.t 5), none⟩])
 (.seq (.reg [⟨some 7, .faddr 1 (.t 1), none⟩,
 ⟨some 8, .load 1 false (.t 7), none⟩,
 ⟨some 9, .faddr 1 (.t 3), none⟩,
 ⟨none, .store [none] (.t 9) (.t 8), none⟩])
 (.seq (.reg [⟨some 10, .load 2 true (.t 3), none⟩,
 ⟨none, .store [none, none] (.t 2) (.t 10), none⟩])
 .ret)))))
def if_laws_toTag : IFn := ⟨11, [.inr (2, 2)], ib_laws_toTag⟩
def ks_laws_toTag : List (List (Option Nat)) := [[none, none]]
def gf_laws_toTag (a0 : Tag) : Option Tag := some (a0)
def c_laws_toTag : Con := ⟨Tag, Tag, 66, fun a => [.agg [.v (.string a.key), .v (.string a.val)]], fun a => gf_laws_toTag a, fun r => ⟨[(true, eTag r)], []⟩⟩
def ib_laws_toShape : IC :=
 (.seq (.reg [⟨some 1, .box 482 [none, some 338] (.t 0), none⟩,
 ⟨some 2, .alloc 226 [.v (.int .i64 0), .sl true 66 []], none⟩])
 (.seq (.reg [⟨some 3, .alloc 226 [.v (.int .i64 0), .sl true 66 []], none⟩])
 (.seq (.reg [⟨some 4, .faddr 0 (.t 1), none⟩,
 ⟨some 5, .load 1 false (.t 4), none⟩,
 ⟨some 6, .faddr 0 (.t 3), none⟩,
 ⟨none, .store [none] (.t 6) (.t 5), none⟩])
 (.seq (.reg [⟨some 7, .faddr 1 (.t 1), none⟩,
 ⟨some 8, .load 1 false (.t 7), none⟩,
 ⟨some 9, .call 65 [(false, .t 8)], none⟩,
 ⟨some 10, .faddr 1 (.t 3), none⟩,
 ⟨none, .store [some 66] (.t 10) (.t 9), none⟩])
 (.seq (.reg [⟨some 11, .load 2 true (.t 3), none⟩,
 ⟨none, .store [none, some 66] (.t 2) (.t 11), none⟩])
 .ret)))))
def if_laws_toShape : IFn := ⟨12, [.inr (2, 2)], ib_laws_toShape⟩
def ks_laws_toShape : List (List (Option Nat)) := [[none, some 66]]
def gf_laws_toShape (a0 : Shape) : Option Shape := (gf_laws_toPtS a0.pts).bind fun x4 => some ((⟨a0.kind, x4⟩ : Shape))
def c_laws_toShape : Con := ⟨Shape, Shape, 67, fun a => [.agg [.v (.int .i64 a.kind), .ro (List.map ePt a.pts)]], fun a => gf_laws_toShape a, fun r => ⟨[(true, eShape true r)], []⟩⟩
def ib_laws_toTagS : IC :=
 (.seq (.reg [⟨some 2, .mv (.c (.slice none 0 0)), none⟩])
 (.seq (.reg [⟨some 5, .mv (.t 0), none⟩,
 ⟨some 6, .len false (.t 5), none⟩,
 ⟨some 7, .mks 82 [.v (.string ⟨#[]⟩), .v (.string ⟨#[]⟩)] (.t 6) (.t 6), none⟩,
 ⟨some 3, .mv (.t 7), none⟩])
 (.seq (.seq (.reg [⟨some 4, .mv (.c (.int .i64 0)), none⟩])
 (blkC 0 (.loop (.seq (.seq (.reg [⟨some 8, .mv (.t 4), none⟩,
 ⟨some 9, .mv (.t 0), none⟩,
 ⟨some 10, .len false (.t 9), none⟩,
 ⟨some 11, .bin .lss (.t 8) (.t 10), none⟩])
 (.cond (.t 11) .skip
 (.exit 0)))
 (.seq (.block 1 (.reg [⟨some 14, .mv (.t 3), none⟩,
 ⟨some 15, .mv (.t 4), none⟩,
 ⟨some 16, .mv (.t 0), none⟩,
 ⟨some 17, .mv (.t 4), none⟩,
 ⟨some 18, .iaddr 2 (.t 16) (.t 17), none⟩,
 ⟨some 19, .load 2 true (.t 18), none⟩,
 ⟨some 20, .call 66 [(false, .t 19)], none⟩,
 ⟨some 21, .iaddr 2 (.t 14) (.t 15), none⟩,
 ⟨none, .store [none, none] (.t 21) (.t 20), none⟩]))
 (.reg [⟨some 12, .mv (.t 4), none⟩,
 ⟨some 13, .bin .add (.t 12) (.c (.int .i64 1)), none⟩,
 ⟨some 4, .mv (.t 13), none⟩]))))))
 (.seq (.reg [⟨some 22, .mv (.t 3), none⟩,
 ⟨some 2, .mv (.t 22), none⟩])
 .ret))))
def if_laws_toTagS : IFn := ⟨23, [.inl 2], ib_laws_toTagS⟩
def ks_laws_toTagS : List (List (Option Nat)) := [[some 82]]
def gl_laws_toTagS_1 : List Tag → Nat → (List Tag) → Option (List Tag)
  | [], k33, v30 => some v30
  | x34 :: l35, k33, v30 => (gf_laws_toTag x34).bind fun x42 => (idx v30 (k33 : Int)).bind fun x44 => gl_laws_toTagS_1 l35 (k33 + 1) (List.set v30 (k33 : Int).toNat x42)
def gf_laws_toTagS (a0 : (List Tag)) : Option (List Tag) := if (decide (0 ≤ (a0.length : Int)) && fits ((a0.length : Int)).toNat) = true then if fits a0.length = true then ((gl_laws_toTagS_1 a0 0 (List.replicate ((a0.length : Int)).toNat (⟨(⟨#[]⟩ : Str), (⟨#[]⟩ : Str)⟩ : Tag))).bind fun q28 => some (q28)) else none else none
def c_laws_toTagS : Con := ⟨(List Tag), (List Tag), 68, fun a => [.ro (List.map eTag a)], fun a => gf_laws_toTagS a, fun r => ⟨[(false, [sl true 82 (List.map eTag r)])], []⟩⟩
def ib_laws_toFeat : IC :=
 (.seq (.reg [⟨some 1, .box 372 [none, none, some 338, some 354] (.t 0), none⟩,
 ⟨some 2, .alloc 100 [.v (.string ⟨#[]⟩), .v (.int .i64 0), .sl true 66 [], .sl true 82 []], none⟩])
 (.seq (.reg [⟨some 3, .alloc 100 [.v (.string ⟨#[]⟩), .v (.int .i64 0), .sl true 66 [], .sl true 82 []], none⟩])
 (.seq (.reg [⟨some 4, .faddr 0 (.t 1), none⟩,
 ⟨some 5, .load 1 false (.t 4), none⟩,
 ⟨some 6, .faddr 0 (.t 3), none⟩,
 ⟨none, .store [none] (.t 6) (.t 5), none⟩])
 (seqC (.reg [⟨some 7, .faddr 1 (.t 1), none⟩,
 ⟨some 8, .load 2 true (.t 7), none⟩,
 ⟨some 9, .call 67 [(false, .t 8)], none⟩,
 ⟨some 10, .faddr 1 (.t 3), none⟩,
 ⟨none, .store [none, some 66] (.t 10) (.t 9), none⟩])
 (.seq (.reg [⟨some 11, .faddr 3 (.t 1), none⟩,
 ⟨some 12, .load 1 false (.t 11), none⟩,
 ⟨some 13, .call 68 [(false, .t 12)], none⟩,
 ⟨some 14, .faddr 3 (.t 3), none⟩,
 ⟨none, .store [some 82] (.t 14) (.t 13), none⟩])
 (.seq (.reg [⟨some 15, .load 4 true (.t 3), none⟩,
 ⟨none, .store [none, none, some 66, some 82] (.t 2) (.t 15), none⟩])
 .ret))))))
def if_laws_toFeat : IFn := ⟨16, [.inr (2, 4)], ib_laws_toFeat⟩
def ks_laws_toFeat : List (List (Option Nat)) := [[none, none, some 66, some 82]]
def gf_laws_toFeat (a0 : Feat) : Option Feat := (((gf_laws_toShape a0.shape).bind fun x5 => some (x5.pts, x5.kind) : Option ((List Pt) × Int))).bind fun q4 => (gf_laws_toTagS a0.tags).bind fun x22 => some ((⟨a0.id, ⟨q4.2, q4.1⟩, x22⟩ : Feat))
def c_laws_toFeat : Con := ⟨Feat, Feat, 69, fun a => [.agg [.v (.string a.id), .v (.int .i64 a.shape.kind), .ro (List.map ePt a.shape.pts), .ro (List.map eTag a.tags)]], fun a => gf_laws_toFeat a, fun r => ⟨[(true, eFeat true r)], []⟩⟩
def ib_laws_toIntS : IC :=
 (.seq (.reg [⟨some 2, .mv (.c (.slice none 0 0)), none⟩])
 (.seq (.reg [⟨some 5, .mv (.t 0), none⟩,
 ⟨some 6, .len false (.t 5), none⟩,
 ⟨some 7, .mks 17 [.v (.int .i64 0)] (.t 6) (.t 6), none⟩,
 ⟨some 3, .mv (.t 7), none⟩])
 (.seq (.seq (.reg [⟨some 4, .mv (.c (.int .i64 0)), none⟩])
 (blkC 0 (.loop (.seq (.seq (.reg [⟨some 8, .mv (.t 4), none⟩,
 ⟨some 9, .mv (.t 0), none⟩,
 ⟨some 10, .len false (.t 9), none⟩,
 ⟨some 11, .bin .lss (.t 8) (.t 10), none⟩])
 (.cond (.t 11) .skip
 (.exit 0)))
 (.seq (.block 1 (.reg [⟨some 14, .mv (.t 3), none⟩,
 ⟨some 15, .mv (.t 4), none⟩,
 ⟨some 16, .mv (.t 0), none⟩,
 ⟨some 17, .mv (.t 4), none⟩,
 ⟨some 18, .iaddr 1 (.t 16) (.t 17), none⟩,
 ⟨some 19, .load 1 false (.t 18), none⟩,
 ⟨some 20, .iaddr 1 (.t 14) (.t 15), none⟩,
 ⟨none, .store [none] (.t 20) (.t 19), none⟩]))
 (.reg [⟨some 12, .mv (.t 4), none⟩,
 ⟨some 13, .bin .add (.t 12) (.c (.int .i64 1)), none⟩,
 ⟨some 4, .mv (.t 13), none⟩]))))))
 (.seq (.reg [⟨some 21, .mv (.t 3), none⟩,
 ⟨some 2, .mv (.t 21), none⟩])
 .ret))))
def if_laws_toIntS : IFn := ⟨22, [.inl 2], ib_laws_toIntS⟩
def ks_laws_toIntS : List (List (Option Nat)) := [[some 17]]
def gl_laws_toIntS_1 : List Int → Nat → (List Int) → Option (List Int)
  | [], k27, v24 => some v24
  | x28 :: l29, k27, v24 => (idx v24 (k27 : Int)).bind fun x36 => gl_laws_toIntS_1 l29 (k27 + 1) (List.set v24 (k27 : Int).toNat x28)
def gf_laws_toIntS (a0 : (List Int)) : Option (List Int) := if (decide (0 ≤ (a0.length : Int)) && fits ((a0.length : Int)).toNat) = true then if fits a0.length = true then ((gl_laws_toIntS_1 a0 0 (List.replicate ((a0.length : Int)).toNat 0)).bind fun q22 => some (q22)) else none else none
def c_laws_toIntS : Con := ⟨(List Int), (List Int), 70, fun a => [.ro (List.map eInt a)], fun a => gf_laws_toIntS a, fun r => ⟨[(false, [sl true 17 (List.map eInt r)])], []⟩⟩
def ib_laws_eqPt : IC :=
 (.seq (.reg [⟨some 2, .box 66 [none, none] (.t 0), none⟩,
 ⟨some 3, .box 66 [none, none] (.t 1), none⟩,
 ⟨some 4, .mv (.c (.bool false)), none⟩])
 (.seq (.seq (.reg [⟨some 5, .faddr 0 (.t 2), none⟩,
 ⟨some 6, .load 1 false (.t 5), none⟩,
 ⟨some 7, .faddr 0 (.t 3), none⟩,
 ⟨some 8, .load 1 false (.t 7), none⟩,
 ⟨some 9, .bin .neq (.t 6) (.t 8), none⟩])
 (.cond (.t 9) (.seq (.reg [⟨some 4, .mv (.c (.bool false)), none⟩])
 .ret)
 .skip))
 (.seq (.seq (.reg [⟨some 10, .faddr 1 (.t 2), none⟩,
 ⟨some 11, .load 1 false (.t 10), none⟩,
 ⟨some 12, .faddr 1 (.t 3), none⟩,
 ⟨some 13, .load 1 false (.t 12), none⟩,
 ⟨some 14, .bin .neq (.t 11) (.t 13), none⟩])
 (.cond (.t 14) (.seq (.reg [⟨some 4, .mv (.c (.bool false)), none⟩])
 .ret)
 .skip))
 (.seq (.reg [⟨some 4, .mv (.c (.bool true)), none⟩])
 .ret))))
def if_laws_eqPt : IFn := ⟨15, [.inl 4], ib_laws_eqPt⟩
def ks_laws_eqPt : List (List (Option Nat)) := [[none]]
def gf_laws_eqPt (a0 : Pt) (a1 : Pt) : Option Bool := if (a0.x != a1.x) = true then (some (false)) else (if (a0.y != a1.y) = true then (some (false)) else (some (true)))
def c_laws_eqPt : Con := ⟨Pt × Pt, Bool, 153, fun a => [.agg [.v (.int .i64 a.1.x), .v (.int .i64 a.1.y)], .agg [.v (.int .i64 a.2.x), .v (.int .i64 a.2.y)]], fun a => gf_laws_eqPt a.1 a.2, fun r => ⟨[(false, [.v (.bool r)])], []⟩⟩
def ib_laws_eqPtS : IC :=
 (.seq (.reg [⟨some 4, .mv (.c (.bool false)), none⟩])
 (.seq (.seq (.reg [⟨some 6, .mv (.t 0), none⟩,
 ⟨some 7, .len false (.t 6), none⟩,
 ⟨some 8, .mv (.t 1), none⟩,
 ⟨some 9, .len false (.t 8), none⟩,
 ⟨some 10, .bin .neq (.t 7) (.t 9), none⟩])
 (.cond (.t 10) (.seq (.reg [⟨some 4, .mv (.c (.bool false)), none⟩])
 .ret)
 .skip))
 (.seq (.seq (.reg [⟨some 5, .mv (.c (.int .i64 0)), none⟩])
 (blkC 0 (.loop (.seq (.seq (.reg [⟨some 11, .mv (.t 5), none⟩,
 ⟨some 12, .mv (.t 0), none⟩,
 ⟨some 13, .len false (.t 12), none⟩,
 ⟨some 14, .bin .lss (.t 11) (.t 13), none⟩])
 (.cond (.t 14) .skip
 (.exit 0)))
 (.seq (.block 1 (.seq (.drw [⟨some 17, .mv (.t 0), none⟩,
 ⟨some 18, .mv (.t 5), none⟩,
 ⟨some 19, .iaddr 2 (.t 17) (.t 18), none⟩,
 ⟨some 20, .load 2 true (.t 19), none⟩,
 ⟨some 21, .mv (.t 1), none⟩,
 ⟨some 22, .mv (.t 5), none⟩,
 ⟨some 23, .iaddr 2 (.t 21) (.t 22), none⟩,
 ⟨some 24, .load 2 true (.t 23), none⟩,
 ⟨some 25, .call 153 [(false, .t 20), (false, .t 24)], none⟩,
 ⟨some 26, .un .not (.t 25), none⟩] [(3, 7)])
 (.cond (.t 26) (.seq (.reg [⟨some 4, .mv (.c (.bool false)), none⟩])
 .ret)
 .skip)))
 (.reg [⟨some 15, .mv (.t 5), none⟩,
 ⟨some 16, .bin .add (.t 15) (.c (.int .i64 1)), none⟩,
 ⟨some 5, .mv (.t 16), none⟩]))))))
 (.seq (.reg [⟨some 4, .mv (.c (.bool true)), none⟩])
 .ret))))
def if_laws_eqPtS : IFn := ⟨27, [.inl 4], ib_laws_eqPtS⟩
def ks_laws_eqPtS : List (List (Option Nat)) := [[none]]
def gl_laws_eqPtS_1 (a1 : (List Pt)) : List Pt → Nat → Option (Bool ⊕ Unit)
  | [], k22 => some (.inr ())
  | x23 :: l24, k22 => (idx a1 (k22 : Int)).bind fun x31 => (gf_laws_eqPt x23 x31).bind fun x33 => if (!x33) = true then (some (.inl (false))) else (gl_laws_eqPtS_1 a1 l24 (k22 + 1) )
def gf_laws_eqPtS (a0 : (List Pt)) (a1 : (List Pt)) : Option Bool := if ((a0.length : Int) != (a1.length : Int)) = true then (some (false)) else (if fits a0.length = true then ((gl_laws_eqPtS_1 a1 a0 0 ).bind fun q => match q with | .inl r => some r | .inr q20 => some (true)) else none)
def c_laws_eqPtS : Con := ⟨(List Pt) × (List Pt), Bool, 154, fun a => [.ro (List.map ePt a.1), .ro (List.map ePt a.2)], fun a => gf_laws_eqPtS a.1 a.2, fun r => ⟨[(false, [.v (.bool r)])], []⟩⟩
def ib_laws_eqTag : IC :=
 (.seq (.reg [⟨some 2, .box 82 [none, none] (.t 0), none⟩,
 ⟨some 3, .box 82 [none, none] (.t 1), none⟩,
 ⟨some 4, .mv (.c (.bool false)), none⟩])
 (.seq (.seq (.reg [⟨some 5, .faddr 0 (.t 2), none⟩,
 ⟨some 6, .load 1 false (.t 5), none⟩,
 ⟨some 7, .faddr 0 (.t 3), none⟩,
 ⟨some 8, .load 1 false (.t 7), none⟩,
 ⟨some 9, .bin .neq (.t 6) (.t 8), none⟩])
 (.cond (.t 9) (.seq (.reg [⟨some 4, .mv (.c (.bool false)), none⟩])
 .ret)
 .skip))
 (.seq (.seq (.reg [⟨some 10, .faddr 1 (.t 2), none⟩,
 ⟨some 11, .load 1 false (.t 10), none⟩,
 ⟨some 12, .faddr 1 (.t 3), none⟩,
 ⟨some 13, .load 1 false (.t 12), none⟩,
 ⟨some 14, .bin .neq (.t 11) (.t 13), none⟩])
 (.cond (.t 14) (.seq (.reg [⟨some 4, .mv (.c (.bool false)), none⟩])
 .ret)
 .skip))
 (.seq (.reg [⟨some 4, .mv (.c (.bool true)), none⟩])
 .ret))))
def if_laws_eqTag : IFn := ⟨15, [.inl 4], ib_laws_eqTag⟩
def ks_laws_eqTag : List (List (Option Nat)) := [[none]]
def gf_laws_eqTag (a0 : Tag) (a1 : Tag) : Option Bool := if (!seq a0.key a1.key) = true then (some (false)) else (if (!seq a0.val a1.val) = true then (some (false)) else (some (true)))
def c_laws_eqTag : Con := ⟨Tag × Tag, Bool, 155, fun a => [.agg [.v (.string a.1.key), .v (.string a.1.val)], .agg [.v (.string a.2.key), .v (.string a.2.val)]], fun a => gf_laws_eqTag a.1 a.2, fun r => ⟨[(false, [.v (.bool r)])], []⟩⟩
def ib_laws_eqShape : IC :=
 (.seq (.reg [⟨some 2, .box 226 [none, some 66] (.t 0), none⟩,
 ⟨some 3, .box 226 [none, some 66] (.t 1), none⟩,
 ⟨some 4, .mv (.c (.bool false)), none⟩])
 (.seq (.seq (.reg [⟨some 5, .faddr 0 (.t 2), none⟩,
 ⟨some 6, .load 1 false (.t 5), none⟩,
 ⟨some 7, .faddr 0 (.t 3), none⟩,
 ⟨some 8, .load 1 false (.t 7), none⟩,
 ⟨some 9, .bin .neq (.t 6) (.t 8), none⟩])
 (.cond (.t 9) (.seq (.reg [⟨some 4, .mv (.c (.bool false)), none⟩])
 .ret)
 .skip))
 (.seq (.seq (.reg [⟨some 10, .faddr 1 (.t 2), none⟩,
 ⟨some 11, .load 1 false (.t 10), none⟩,
 ⟨some 12, .faddr 1 (.t 3), none⟩,
 ⟨some 13, .load 1 false (.t 12), none⟩,
 ⟨some 14, .call 154 [(false, .t 11), (false, .t 13)], none⟩,
 ⟨some 15, .un .not (.t 14), none⟩])
 (.cond (.t 15) (.seq (.reg [⟨some 4, .mv (.c (.bool false)), none⟩])
 .ret)
 .skip))
 (.seq (.reg [⟨some 4, .mv (.c (.bool true)), none⟩])
 .ret))))
def if_laws_eqShape : IFn := ⟨16, [.inl 4], ib_laws_eqShape⟩
def ks_laws_eqShape : List (List (Option Nat)) := [[none]]
def gf_laws_eqShape (a0 : Shape) (a1 : Shape) : Option Bool := if (a0.kind != a1.kind) = true then (some (false)) else ((gf_laws_eqPtS a0.pts a1.pts).bind fun x3 => if (!x3) = true then (some (false)) else (some (true)))
def c_laws_eqShape : Con := ⟨Shape × Shape, Bool, 156, fun a => [.agg [.v (.int .i64 a.1.kind), .ro (List.map ePt a.1.pts)], .agg [.v (.int .i64 a.2.kind), .ro (List.map ePt a.2.pts)]], fun a => gf_laws_eqShape a.1 a.2, fun r => ⟨[(false, [.v (.bool r)])], []⟩⟩
def ib_laws_eqTagS : IC :=
 (.seq (.reg [⟨some 4, .mv (.c (.bool false)), none⟩])
 (.seq (.seq (.reg [⟨some 6, .mv (.t 0), none⟩,
 ⟨some 7, .len false (.t 6), none⟩,
 ⟨some 8, .mv (.t 1), none⟩,
 ⟨some 9, .len false (.t 8), none⟩,
 ⟨some 10, .bin .neq (.t 7) (.t 9), none⟩])
 (.cond (.t 10) (.seq (.reg [⟨some 4, .mv (.c (.bool false)), none⟩])
 .ret)
 .skip))
 (.seq (.seq (.reg [⟨some 5, .mv (.c (.int .i64 0)), none⟩])
 (blkC 0 (.loop (.seq (.seq (.reg [⟨some 11, .mv (.t 5), none⟩,
 ⟨some 12, .mv (.t 0), none⟩,
 ⟨some 13, .len false (.t 12), none⟩,
 ⟨some 14, .bin .lss (.t 11) (.t 13), none⟩])
 (.cond (.t 14) .skip
 (.exit 0)))
 (.seq (.block 1 (.seq (.drw [⟨some 17, .mv (.t 0), none⟩,
 ⟨some 18, .mv (.t 5), none⟩,
 ⟨some 19, .iaddr 2 (.t 17) (.t 18), none⟩,
 ⟨some 20, .load 2 true (.t 19), none⟩,
 ⟨some 21, .mv (.t 1), none⟩,
 ⟨some 22, .mv (.t 5), none⟩,
 ⟨some 23, .iaddr 2 (.t 21) (.t 22), none⟩,
 ⟨some 24, .load 2 true (.t 23), none⟩,
 ⟨some 25, .call 155 [(false, .t 20), (false, .t 24)], none⟩,
 ⟨some 26, .un .not (.t 25), none⟩] [(3, 7)])
 (.cond (.t 26) (.seq (.reg [⟨some 4, .mv (.c (.bool false)), none⟩])
 .ret)
 .skip)))
 (.reg [⟨some 15, .mv (.t 5), none⟩,
 ⟨some 16, .bin .add (.t 15) (.c (.int .i64 1)), none⟩,
 ⟨some 5, .mv (.t 16), none⟩]))))))
 (.seq (.reg [⟨some 4, .mv (.c (.bool true)), none⟩])
 .ret))))
def if_laws_eqTagS : IFn := ⟨27, [.inl 4], ib_laws_eqTagS⟩
def ks_laws_eqTagS : List (List (Option Nat)) := [[none]]
def gl_laws_eqTagS_1 (a1 : (List Tag)) : List Tag → Nat → Option (Bool ⊕ Unit)
  | [], k22 => some (.inr ())
  | x23 :: l24, k22 => (idx a1 (k22 : Int)).bind fun x31 => (gf_laws_eqTag x23 x31).bind fun x33 => if (!x33) = true then (some (.inl (false))) else (gl_laws_eqTagS_1 a1 l24 (k22 + 1) )
def gf_laws_eqTagS (a0 : (List Tag)) (a1 : (List Tag)) : Option Bool := if ((a0.length : Int) != (a1.length : Int)) = true then (some (false)) else (if fits a0.length = true then ((gl_laws_eqTagS_1 a1 a0 0 ).bind fun q => match q with | .inl r => some r | .inr q20 => some (true)) else none)
def c_laws_eqTagS : Con := ⟨(List Tag) × (List Tag), Bool, 157, fun a => [.ro (List.map eTag a.1), .ro (List.map eTag a.2)], fun a => gf_laws_eqTagS a.1 a.2, fun r => ⟨[(false, [.v (.bool r)])], []⟩⟩
def ib_laws_eqFeat : IC :=
 (.seq (.reg [⟨some 2, .box 100 [none, none, some 66, some 82] (.t 0), none⟩,
 ⟨some 3, .box 100 [none, none, some 66, some 82] (.t 1), none⟩,
 ⟨some 4, .mv (.c (.bool false)), none⟩])
 (.seq (.seq (.reg [⟨some 5, .faddr 0 (.t 2), none⟩,
 ⟨some 6, .load 1 false (.t 5), none⟩,
 ⟨some 7, .faddr 0 (.t 3), none⟩,
 ⟨some 8, .load 1 false (.t 7), none⟩,
 ⟨some 9, .bin .neq (.t 6) (.t 8), none⟩])
 (.cond (.t 9) (.seq (.reg [⟨some 4, .mv (.c (.bool false)), none⟩])
 .ret)
 .skip))
 (.seq (.seq (.reg [⟨some 10, .faddr 1 (.t 2), none⟩,
 ⟨some 11, .load 2 true (.t 10), none⟩,
 ⟨some 12, .faddr 1 (.t 3), none⟩,
 ⟨some 13, .load 2 true (.t 12), none⟩,
 ⟨some 14, .call 156 [(false, .t 11), (false, .t 13)], none⟩,
 ⟨some 15, .un .not (.t 14), none⟩])
 (.cond (.t 15) (.seq (.reg [⟨some 4, .mv (.c (.bool false)), none⟩])
 .ret)
 .skip))
 (.seq (.seq (.reg [⟨some 16, .faddr 3 (.t 2), none⟩,
 ⟨some 17, .load 1 false (.t 16), none⟩,
 ⟨some 18, .faddr 3 (.t 3), none⟩,
 ⟨some 19, .load 1 false (.t 18), none⟩,
 ⟨some 20, .call 157 [(false, .t 17), (false, .t 19)], none⟩,
 ⟨some 21, .un .not (.t 20), none⟩])
 (.cond (.t 21) (.seq (.reg [⟨some 4, .mv (.c (.bool false)), none⟩])
 .ret)
 .skip))
 (.seq (.reg [⟨some 4, .mv (.c (.bool true)), none⟩])
 .ret)))))
def if_laws_eqFeat : IFn := ⟨22, [.inl 4], ib_laws_eqFeat⟩
def ks_laws_eqFeat : List (List (Option Nat)) := [[none]]
def gf_laws_eqFeat (a0 : Feat) (a1 : Feat) : Option Bool := if (!seq a0.id a1.id) = true then (some (false)) else ((gf_laws_eqShape a0.shape a1.shape).bind fun x3 => if (!x3) = true then (some (false)) else ((gf_laws_eqTagS a0.tags a1.tags).bind fun x5 => if (!x5) = true then (some (false)) else (some (true))))
def c_laws_eqFeat : Con := ⟨Feat × Feat, Bool, 158, fun a => [.agg [.v (.string a.1.id), .v (.int .i64 a.1.shape.kind), .ro (List.map ePt a.1.shape.pts), .ro (List.map eTag a.1.tags)], .agg [.v (.string a.2.id), .v (.int .i64 a.2.shape.kind), .ro (List.map ePt a.2.shape.pts), .ro (List.map eTag a.2.tags)]], fun a => gf_laws_eqFeat a.1 a.2, fun r => ⟨[(false, [.v (.bool r)])], []⟩⟩
def ib_laws_eqIntS : IC :=
 (.seq (.reg [⟨some 4, .mv (.c (.bool false)), none⟩])
 (.seq (.seq (.reg [⟨some 6, .mv (.t 0), none⟩,
 ⟨some 7, .len false (.t 6), none⟩,
 ⟨some 8, .mv (.t 1), none⟩,
 ⟨some 9, .len false (.t 8), none⟩,
 ⟨some 10, .bin .neq (.t 7) (.t 9), none⟩])
 (.cond (.t 10) (.seq (.reg [⟨some 4, .mv (.c (.bool false)), none⟩])
 .ret)
 .skip))
 (.seq (.seq (.reg [⟨some 5, .mv (.c (.int .i64 0)), none⟩])
 (blkC 0 (.loop (.seq (.seq (.reg [⟨some 11, .mv (.t 5), none⟩,
 ⟨some 12, .mv (.t 0), none⟩,
 ⟨some 13, .len false (.t 12), none⟩,
 ⟨some 14, .bin .lss (.t 11) (.t 13), none⟩])
 (.cond (.t 14) .skip
 (.exit 0)))
 (.seq (.block 1 (.seq (.drw [⟨some 17, .mv (.t 0), none⟩,
 ⟨some 18, .mv (.t 5), none⟩,
 ⟨some 19, .iaddr 1 (.t 17) (.t 18), none⟩,
 ⟨some 20, .load 1 false (.t 19), none⟩,
 ⟨some 21, .mv (.t 1), none⟩,
 ⟨some 22, .mv (.t 5), none⟩,
 ⟨some 23, .iaddr 1 (.t 21) (.t 22), none⟩,
 ⟨some 24, .load 1 false (.t 23), none⟩,
 ⟨some 25, .bin .neq (.t 20) (.t 24), none⟩] [(3, 7)])
 (.cond (.t 25) (.seq (.reg [⟨some 4, .mv (.c (.bool false)), none⟩])
 .ret)
 .skip)))
 (.reg [⟨some 15, .mv (.t 5), none⟩,
 ⟨some 16, .bin .add (.t 15) (.c (.int .i64 1)), none⟩,
 ⟨some 5, .mv (.t 16), none⟩]))))))
 (.seq (.reg [⟨some 4, .mv (.c (.bool true)), none⟩])
 .ret))))
def if_laws_eqIntS : IFn := ⟨26, [.inl 4], ib_laws_eqIntS⟩
def ks_laws_eqIntS : List (List (Option Nat)) := [[none]]
def gl_laws_eqIntS_1 (a1 : (List Int)) : List Int → Nat → Option (Bool ⊕ Unit)
  | [], k16 => some (.inr ())
  | x17 :: l18, k16 => (idx a1 (k16 : Int)).bind fun x25 => if (x17 != x25) = true then (some (.inl (false))) else (gl_laws_eqIntS_1 a1 l18 (k16 + 1) )
def gf_laws_eqIntS (a0 : (List Int)) (a1 : (List Int)) : Option Bool := if ((a0.length : Int) != (a1.length : Int)) = true then (some (false)) else (if fits a0.length = true then ((gl_laws_eqIntS_1 a1 a0 0 ).bind fun q => match q with | .inl r => some r | .inr q14 => some (true)) else none)
def c_laws_eqIntS : Con := ⟨(List Int) × (List Int), Bool, 159, fun a => [.ro (List.map eInt a.1), .ro (List.map eInt a.2)], fun a => gf_laws_eqIntS a.1 a.2, fun r => ⟨[(false, [.v (.bool r)])], []⟩⟩
def ib_laws_szChange : IC :=
 (.seq (.reg [⟨some 2, .box 427 [none, none, none, none, some 338, some 354, none, none, none, some 338, some 354] (.t 0), none⟩,
 ⟨some 4, .mv (.c (.int .i64 0)), none⟩])
 (.seq (.reg [⟨some 5, .mv (.t 1), none⟩,
 ⟨some 6, .faddr 0 (.t 2), none⟩,
 ⟨some 7, .load 1 false (.t 6), none⟩,
 ⟨some 8, .len true (.t 7), none⟩,
 ⟨some 9, .bin .sub (.t 5) (.t 8), none⟩,
 ⟨some 1, .mv (.t 9), none⟩])
 (.seq (.seq (.reg [⟨some 10, .mv (.t 1), none⟩,
 ⟨some 11, .bin .lss (.t 10) (.c (.int .i64 0)), none⟩])
 (.cond (.t 11) (.seq (.reg [⟨some 4, .mv (.c (.int .i64 (-1))), none⟩])
 .ret)
 .skip))
 (.seq (.reg [⟨some 12, .faddr 2 (.t 2), none⟩,
 ⟨some 13, .load 4 true (.t 12), none⟩,
 ⟨some 14, .mv (.t 1), none⟩,
 ⟨some 15, .call 5 [(false, .t 13), (false, .t 14)], none⟩,
 ⟨some 1, .mv (.t 15), none⟩])
 (.seq (.seq (.reg [⟨some 16, .mv (.t 1), none⟩,
 ⟨some 17, .bin .lss (.t 16) (.c (.int .i64 0)), none⟩])
 (.cond (.t 17) (.seq (.reg [⟨some 4, .mv (.c (.int .i64 (-1))), none⟩])
 .ret)
 .skip))
 (.seq (.reg [⟨some 18, .faddr 7 (.t 2), none⟩,
 ⟨some 19, .load 4 true (.t 18), none⟩,
 ⟨some 20, .mv (.t 1), none⟩,
 ⟨some 21, .call 5 [(false, .t 19), (false, .t 20)], none⟩,
 ⟨some 1, .mv (.t 21), none⟩])
 (.seq (.seq (.reg [⟨some 22, .mv (.t 1), none⟩,
 ⟨some 23, .bin .lss (.t 22) (.c (.int .i64 0)), none⟩])
 (.cond (.t 23) (.seq (.reg [⟨some 4, .mv (.c (.int .i64 (-1))), none⟩])
 .ret)
 .skip))
 (.seq (.reg [⟨some 24, .mv (.t 1), none⟩,
 ⟨some 4, .mv (.t 24), none⟩])
 .ret))))))))
def if_laws_szChange : IFn := ⟨25, [.inl 4], ib_laws_szChange⟩
def ks_laws_szChange : List (List (Option Nat)) := [[none]]
def gf_laws_szChange (a0 : Change) (a1 : Int) : Option Int := if (decide ((IntKind.i64.wrap (a1 - (a0.id.size : Int))) < 0)) = true then (some ((-1))) else ((gf_laws_szFeat a0.was (IntKind.i64.wrap (a1 - (a0.id.size : Int)))).bind fun x2 => if (decide (x2 < 0)) = true then (some ((-1))) else ((gf_laws_szFeat a0.now x2).bind fun x4 => if (decide (x4 < 0)) = true then (some ((-1))) else (some (x4))))
def c_laws_szChange : Con := ⟨Change × Int, Int, 194, fun a => [.agg [.v (.string a.1.id), .v (.bool a.1.had), .v (.string a.1.was.id), .v (.int .i64 a.1.was.shape.kind), .ro (List.map ePt a.1.was.shape.pts), .ro (List.map eTag a.1.was.tags), .v (.bool a.1.has), .v (.string a.1.now.id), .v (.int .i64 a.1.now.shape.kind), .ro (List.map ePt a.1.now.shape.pts), .ro (List.map eTag a.1.now.tags)], .v (.int .i64 a.2)], fun a => gf_laws_szChange a.1 a.2, fun r => ⟨[(false, [.v (.int .i64 r)])], []⟩⟩
def ib_laws_szChangeS : IC :=
 (.seq (.reg [⟨some 4, .mv (.c (.int .i64 0)), none⟩])
 (.seq (.reg [⟨some 6, .mv (.t 1), none⟩,
 ⟨some 7, .mv (.t 0), none⟩,
 ⟨some 8, .len false (.t 7), none⟩,
 ⟨some 9, .bin .sub (.t 6) (.t 8), none⟩,
 ⟨some 1, .mv (.t 9), none⟩])
 (.seq (.seq (.reg [⟨some 10, .mv (.t 1), none⟩,
 ⟨some 11, .bin .lss (.t 10) (.c (.int .i64 0)), none⟩])
 (.cond (.t 11) (.seq (.reg [⟨some 4, .mv (.c (.int .i64 (-1))), none⟩])
 .ret)
 .skip))
 (.seq (.seq (.reg [⟨some 5, .mv (.c (.int .i64 0)), none⟩])
 (blkC 0 (.loop (.seq (.seq (.reg [⟨some 12, .mv (.t 5), none⟩,
 ⟨some 13, .mv (.t 0), none⟩,
 ⟨some 14, .len false (.t 13), none⟩,
 ⟨some 15, .bin .lss (.t 12) (.t 14), none⟩])
 (.cond (.t 15) .skip
 (.exit 0)))
 (.seq (.block 1 (.seq (.reg [⟨some 18, .mv (.t 0), none⟩,
 ⟨some 19, .mv (.t 5), none⟩,
 ⟨some 20, .iaddr 11 (.t 18) (.t 19), none⟩,
 ⟨some 21, .load 11 true (.t 20), none⟩,
 ⟨some 22, .mv (.t 1), none⟩,
 ⟨some 23, .call 194 [(false, .t 21), (false, .t 22)], none⟩,
 ⟨some 1, .mv (.t 23), none⟩])
 (.seq (.reg [⟨some 24, .mv (.t 1), none⟩,
 ⟨some 25, .bin .lss (.t 24) (.c (.int .i64 0)), none⟩])
 (.cond (.t 25) (.seq (.reg [⟨some 4, .mv (.c (.int .i64 (-1))), none⟩])
 .ret)
 .skip))))
 (.reg [⟨some 16, .mv (.t 5), none⟩,
 ⟨some 17, .bin .add (.t 16) (.c (.int .i64 1)), none⟩,
 ⟨some 5, .mv (.t 17), none⟩]))))))
 (.seq (.reg [⟨some 26, .mv (.t 1), none⟩,
 ⟨some 4, .mv (.t 26), none⟩])
 .ret)))))
def if_laws_szChangeS : IFn := ⟨27, [.inl 4], ib_laws_szChangeS⟩
def ks_laws_szChangeS : List (List (Option Nat)) := [[none]]
def gl_laws_szChangeS_1 : List Change → Nat → Int → Option (Int ⊕ Int)
  | [], k18, v16 => some (.inr v16)
  | x19 :: l20, k18, v16 => (gf_laws_szChange x19 v16).bind fun x27 => if (decide (x27 < 0)) = true then (some (.inl ((-1)))) else (gl_laws_szChangeS_1 l20 (k18 + 1) x27)
def gf_laws_szChangeS (a0 : (List Change)) (a1 : Int) : Option Int := if (decide ((IntKind.i64.wrap (a1 - (a0.length : Int))) < 0)) = true then (some ((-1))) else (if fits a0.length = true then ((gl_laws_szChangeS_1 a0 0 (IntKind.i64.wrap (a1 - (a0.length : Int)))).bind fun q => match q with | .inl r => some r | .inr q15 => some (q15)) else none)
def c_laws_szChangeS : Con := ⟨(List Change) × Int, Int, 195, fun a => [.ro (List.map (eChange false) a.1), .v (.int .i64 a.2)], fun a => gf_laws_szChangeS a.1 a.2, fun r => ⟨[(false, [.v (.int .i64 r)])], []⟩⟩
def ib_laws_szEntry : IC :=
 (.seq (.reg [⟨some 2, .box 435 [some 17, none, some 427] (.t 0), none⟩,
 ⟨some 4, .mv (.c (.int .i64 0)), none⟩])
 (.seq (.reg [⟨some 5, .faddr 0 (.t 2), none⟩,
 ⟨some 6, .load 1 false (.t 5), none⟩,
 ⟨some 7, .mv (.t 1), none⟩,
 ⟨some 8, .call 6 [(false, .t 6), (false, .t 7)], none⟩,
 ⟨some 1, .mv (.t 8), none⟩])
 (.seq (.seq (.reg [⟨some 9, .mv (.t 1), none⟩,
 ⟨some 10, .bin .lss (.t 9) (.c (.int .i64 0)), none⟩])
 (.cond (.t 10) (.seq (.reg [⟨some 4, .mv (.c (.int .i64 (-1))), none⟩])
 .ret)
 .skip))
 (.seq (.reg [⟨some 11, .mv (.t 1), none⟩,
 ⟨some 12, .faddr 1 (.t 2), none⟩,
 ⟨some 13, .load 1 false (.t 12), none⟩,
 ⟨some 14, .len true (.t 13), none⟩,
 ⟨some 15, .bin .sub (.t 11) (.t 14), none⟩,
 ⟨some 1, .mv (.t 15), none⟩])
 (.seq (.seq (.reg [⟨some 16, .mv (.t 1), none⟩,
 ⟨some 17, .bin .lss (.t 16) (.c (.int .i64 0)), none⟩])
 (.cond (.t 17) (.seq (.reg [⟨some 4, .mv (.c (.int .i64 (-1))), none⟩])
 .ret)
 .skip))
 (.seq (.reg [⟨some 18, .faddr 2 (.t 2), none⟩,
 ⟨some 19, .load 1 false (.t 18), none⟩,
 ⟨some 20, .mv (.t 1), none⟩,
 ⟨some 21, .call 195 [(false, .t 19), (false, .t 20)], none⟩,
 ⟨some 1, .mv (.t 21), none⟩])
 (.seq (.seq (.reg [⟨some 22, .mv (.t 1), none⟩,
 ⟨some 23, .bin .lss (.t 22) (.c (.int .i64 0)), none⟩])
 (.cond (.t 23) (.seq (.reg [⟨some 4, .mv (.c (.int .i64 (-1))), none⟩])
 .ret)
 .skip))
 (.seq (.reg [⟨some 24, .mv (.t 1), none⟩,
 ⟨some 4, .mv (.t 24), none⟩])
 .ret))))))))
def if_laws_szEntry : IFn := ⟨25, [.inl 4], ib_laws_szEntry⟩
def ks_laws_szEntry : List (List (Option Nat)) := [[none]]
def gf_laws_szEntry (a0 : Entry) (a1 : Int) : Option Int := (gf_laws_szIntS a0.up a1).bind fun x2 => if (decide (x2 < 0)) = true then (some ((-1))) else (if (decide ((IntKind.i64.wrap (x2 - (a0.note.size : Int))) < 0)) = true then (some ((-1))) else ((gf_laws_szChangeS a0.diff (IntKind.i64.wrap (x2 - (a0.note.size : Int)))).bind fun x4 => if (decide (x4 < 0)) = true then (some ((-1))) else (some (x4))))
def c_laws_szEntry : Con := ⟨Entry × Int, Int, 196, fun a => [.agg [.ro (List.map eInt a.1.up), .v (.string a.1.note), .ro (List.map (eChange false) a.1.diff)], .v (.int .i64 a.2)], fun a => gf_laws_szEntry a.1 a.2, fun r => ⟨[(false, [.v (.int .i64 r)])], []⟩⟩
def ib_laws_szEntryS : IC :=
 (.seq (.reg [⟨some 4, .mv (.c (.int .i64 0)), none⟩])
 (.seq (.reg [⟨some 6, .mv (.t 1), none⟩,
 ⟨some 7, .mv (.t 0), none⟩,
 ⟨some 8, .len false (.t 7), none⟩,
 ⟨some 9, .bin .sub (.t 6) (.t 8), none⟩,
 ⟨some 1, .mv (.t 9), none⟩])
 (.seq (.seq (.reg [⟨some 10, .mv (.t 1), none⟩,
 ⟨some 11, .bin .lss (.t 10) (.c (.int .i64 0)), none⟩])
 (.cond (.t 11) (.seq (.reg [⟨some 4, .mv (.c (.int .i64 (-1))), none⟩])
 .ret)
 .skip))
 (.seq (.seq (.reg [⟨some 5, .mv (.c (.int .i64 0)), none⟩])
 (blkC 0 (.loop (.seq (.seq (.reg [⟨some 12, .mv (.t 5), none⟩,
 ⟨some 13, .mv (.t 0), none⟩,
 ⟨some 14, .len false (.t 13), none⟩,
 ⟨some 15, .bin .lss (.t 12) (.t 14), none⟩])
 (.cond (.t 15) .skip
 (.exit 0)))
 (.seq (.block 1 (.seq (.reg [⟨some 18, .mv (.t 0), none⟩,
 ⟨some 19, .mv (.t 5), none⟩,
 ⟨some 20, .iaddr 3 (.t 18) (.t 19), none⟩,
 ⟨some 21, .load 3 true (.t 20), none⟩,
 ⟨some 22, .mv (.t 1), none⟩,
 ⟨some 23, .call 196 [(false, .t 21), (false, .t 22)], none⟩,
 ⟨some 1, .mv (.t 23), none⟩])
 (.seq (.reg [⟨some 24, .mv (.t 1), none⟩,
 ⟨some 25, .bin .lss (.t 24) (.c (.int .i64 0)), none⟩])
 (.cond (.t 25) (.seq (.reg [⟨some 4, .mv (.c (.int .i64 (-1))), none⟩])
 .ret)
 .skip))))
 (.reg [⟨some 16, .mv (.t 5), none⟩,
 ⟨some 17, .bin .add (.t 16) (.c (.int .i64 1)), none⟩,
 ⟨some 5, .mv (.t 17), none⟩]))))))
 (.seq (.reg [⟨some 26, .mv (.t 1), none⟩,
 ⟨some 4, .mv (.t 26), none⟩])
 .ret)))))
def if_laws_szEntryS : IFn := ⟨27, [.inl 4], ib_laws_szEntryS⟩
def ks_laws_szEntryS : List (List (Option Nat)) := [[none]]
def gl_laws_szEntryS_1 : List Entry → Nat → Int → Option (Int ⊕ Int)
  | [], k18, v16 => some (.inr v16)
  | x19 :: l20, k18, v16 => (gf_laws_szEntry x19 v16).bind fun x27 => if (decide (x27 < 0)) = true then (some (.inl ((-1)))) else (gl_laws_szEntryS_1 l20 (k18 + 1) x27)
def gf_laws_szEntryS (a0 : (List Entry)) (a1 : Int) : Option Int := if (decide ((IntKind.i64.wrap (a1 - (a0.length : Int))) < 0)) = true then (some ((-1))) else (if fits a0.length = true then ((gl_laws_szEntryS_1 a0 0 (IntKind.i64.wrap (a1 - (a0.length : Int)))).bind fun q => match q with | .inl r => some r | .inr q15 => some (q15)) else none)
def c_laws_szEntryS : Con := ⟨(List Entry) × Int, Int, 189, fun a => [.ro (List.map (eEntry false) a.1), .v (.int .i64 a.2)], fun a => gf_laws_szEntryS a.1 a.2, fun r => ⟨[(false, [.v (.int .i64 r)])], []⟩⟩
def ib_laws_toChange : IC :=
 (.seq (.reg [⟨some 1, .box 427 [none, none, none, none, some 338, some 354, none, none, none, some 338, some 354] (.t 0), none⟩,
 ⟨some 2, .alloc 155 [.v (.string ⟨#[]⟩), .v (.bool false), .v (.string ⟨#[]⟩), .v (.int .i64 0), .sl true 66 [], .sl true 82 [], .v (.bool false), .v (.string ⟨#[]⟩), .v (.int .i64 0), .sl true 66 [], .sl true 82 []], none⟩])
 (seqC (.reg [⟨some 3, .alloc 155 [.v (.string ⟨#[]⟩), .v (.bool false), .v (.string ⟨#[]⟩), .v (.int .i64 0), .sl true 66 [], .sl true 82 [], .v (.bool false), .v (.string ⟨#[]⟩), .v (.int .i64 0), .sl true 66 [], .sl true 82 []], none⟩])
 (.seq (.reg [⟨some 4, .faddr 0 (.t 1), none⟩,
 ⟨some 5, .load 1 false (.t 4), none⟩,
 ⟨some 6, .faddr 0 (.t 3), none⟩,
 ⟨none, .store [none] (.t 6) (.t 5), none⟩])
 (.seq (.reg [⟨some 7, .faddr 1 (.t 1), none⟩,
 ⟨some 8, .load 1 false (.t 7), none⟩,
 ⟨some 9, .faddr 1 (.t 3), none⟩,
 ⟨none, .store [none] (.t 9) (.t 8), none⟩])
 (seqC (.reg [⟨some 10, .faddr 2 (.t 1), none⟩,
 ⟨some 11, .load 4 true (.t 10), none⟩,
 ⟨some 12, .call 69 [(false, .t 11)], none⟩,
 ⟨some 13, .faddr 2 (.t 3), none⟩,
 ⟨none, .store [none, none, some 66, some 82] (.t 13) (.t 12), none⟩])
 (.seq (.reg [⟨some 14, .faddr 6 (.t 1), none⟩,
 ⟨some 15, .load 1 false (.t 14), none⟩,
 ⟨some 16, .faddr 6 (.t 3), none⟩,
 ⟨none, .store [none] (.t 16) (.t 15), none⟩])
 (.seq (.reg [⟨some 17, .faddr 7 (.t 1), none⟩,
 ⟨some 18, .load 4 true (.t 17), none⟩,
 ⟨some 19, .call 69 [(false, .t 18)], none⟩,
 ⟨some 20, .faddr 7 (.t 3), none⟩,
 ⟨none, .store [none, none, some 66, some 82] (.t 20) (.t 19), none⟩])
 (.seq (.reg [⟨some 21, .load 11 true (.t 3), none⟩,
 ⟨none, .store [none, none, none, none, some 66, some 82, none, none, none, some 66, some 82] (.t 2) (.t 21), none⟩])
 .ret))))))))
def if_laws_toChange : IFn := ⟨22, [.inr (2, 11)], ib_laws_toChange⟩
def ks_laws_toChange : List (List (Option Nat)) := [[none, none, none, none, some 66, some 82, none, none, none, some 66, some 82]]
def gf_laws_toChange (a0 : Change) : Option Change := ((some () : Option Unit)).bind fun q3 => (((gf_laws_toFeat a0.was).bind fun x25 => some (x25.shape.pts, x25.tags, x25.id, x25.shape.kind) : Option ((List Pt) × (List Tag) × Str × Int))).bind fun q24 => (gf_laws_toFeat a0.now).bind fun x54 => some ((⟨a0.id, a0.had, ⟨q24.2.2.1, ⟨q24.2.2.2, q24.1⟩, q24.2.1⟩, a0.has, x54⟩ : Change))
def c_laws_toChange : Con := ⟨Change, Change, 197, fun a => [.agg [.v (.string a.id), .v (.bool a.had), .v (.string a.was.id), .v (.int .i64 a.was.shape.kind), .ro (List.map ePt a.was.shape.pts), .ro (List.map eTag a.was.tags), .v (.bool a.has), .v (.string a.now.id), .v (.int .i64 a.now.shape.kind), .ro (List.map ePt a.now.shape.pts), .ro (List.map eTag a.now.tags)]], fun a => gf_laws_toChange a, fun r => ⟨[(true, eChange true r)], []⟩⟩
def ib_laws_toChangeS : IC :=
 (.seq (.reg [⟨some 2, .mv (.c (.slice none 0 0)), none⟩])
 (.seq (.reg [⟨some 5, .mv (.t 0), none⟩,
 ⟨some 6, .len false (.t 5), none⟩,
 ⟨some 7, .mks 155 [.v (.string ⟨#[]⟩), .v (.bool false), .v (.string ⟨#[]⟩), .v (.int .i64 0), .sl true 66 [], .sl true 82 [], .v (.bool false), .v (.string ⟨#[]⟩), .v (.int .i64 0), .sl true 66 [], .sl true 82 []] (.t 6) (.t 6), none⟩,
 ⟨some 3, .mv (.t 7), none⟩])
 (.seq (.seq (.reg [⟨some 4, .mv (.c (.int .i64 0)), none⟩])
 (blkC 0 (.loop (.seq (.seq (.reg [⟨some 8, .mv (.t 4), none⟩,
 ⟨some 9, .mv (.t 0), none⟩,
 ⟨some 10, .len false (.t 9), none⟩,
 ⟨some 11, .bin .lss (.t 8) (.t 10), none⟩])
 (.cond (.t 11) .skip
 (.exit 0)))
 (.seq (.block 1 (.reg [⟨some 14, .mv (.t 3), none⟩,
 ⟨some 15, .mv (.t 4), none⟩,
 ⟨some 16, .mv (.t 0), none⟩,
 ⟨some 17, .mv (.t 4), none⟩,
 ⟨some 18, .iaddr 11 (.t 16) (.t 17), none⟩,
 ⟨some 19, .load 11 true (.t 18), none⟩,
 ⟨some 20, .call 197 [(false, .t 19)], none⟩,
 ⟨some 21, .iaddr 11 (.t 14) (.t 15), none⟩,
 ⟨none, .store [none, none, none, none, some 66, some 82, none, none, none, some 66, some 82] (.t 21) (.t 20), none⟩]))
 (.reg [⟨some 12, .mv (.t 4), none⟩,
 ⟨some 13, .bin .add (.t 12) (.c (.int .i64 1)), none⟩,
 ⟨some 4, .mv (.t 13), none⟩]))))))
 (.seq (.reg [⟨some 22, .mv (.t 3), none⟩,
 ⟨some 2, .mv (.t 22), none⟩])
 .ret))))
def if_laws_toChangeS : IFn := ⟨23, [.inl 2], ib_laws_toChangeS⟩
def ks_laws_toChangeS : List (List (Option Nat)) := [[some 155]]
def gl_laws_toChangeS_1 : List Change → Nat → (List Change) → Option (List Change)
  | [], k57, v54 => some v54
  | x58 :: l59, k57, v54 => (gf_laws_toChange x58).bind fun x66 => (idx v54 (k57 : Int)).bind fun x76 => gl_laws_toChangeS_1 l59 (k57 + 1) (List.set v54 (k57 : Int).toNat x66)
def gf_laws_toChangeS (a0 : (List Change)) : Option (List Change) := if (decide (0 ≤ (a0.length : Int)) && fits ((a0.length : Int)).toNat) = true then if fits a0.length = true then ((gl_laws_toChangeS_1 a0 0 (List.replicate ((a0.length : Int)).toNat (⟨(⟨#[]⟩ : Str), false, ⟨(⟨#[]⟩ : Str), ⟨0, []⟩, []⟩, false, ⟨(⟨#[]⟩ : Str), ⟨0, []⟩, []⟩⟩ : Change))).bind fun q52 => some (q52)) else none else none
def c_laws_toChangeS : Con := ⟨(List Change), (List Change), 198, fun a => [.ro (List.map (eChange false) a)], fun a => gf_laws_toChangeS a, fun r => ⟨[(false, [sl true 155 (List.map (eChange true) r)])], []⟩⟩
def ib_laws_toEntry : IC :=
 (.seq (.reg [⟨some 1, .box 435 [some 17, none, some 427] (.t 0), none⟩,
 ⟨some 2, .alloc 163 [.sl true 17 [], .v (.string ⟨#[]⟩), .sl true 155 []], none⟩])
 (.seq (.reg [⟨some 3, .alloc 163 [.sl true 17 [], .v (.string ⟨#[]⟩), .sl true 155 []], none⟩])
 (seqC (.reg [⟨some 4, .faddr 0 (.t 1), none⟩,
 ⟨some 5, .load 1 false (.t 4), none⟩,
 ⟨some 6, .call 70 [(false, .t 5)], none⟩,
 ⟨some 7, .faddr 0 (.t 3), none⟩,
 ⟨none, .store [some 17] (.t 7) (.t 6), none⟩])
 (.seq (.reg [⟨some 8, .faddr 1 (.t 1), none⟩,
 ⟨some 9, .load 1 false (.t 8), none⟩,
 ⟨some 10, .faddr 1 (.t 3), none⟩,
 ⟨none, .store [none] (.t 10) (.t 9), none⟩])
 (.seq (.reg [⟨some 11, .faddr 2 (.t 1), none⟩,
 ⟨some 12, .load 1 false (.t 11), none⟩,
 ⟨some 13, .call 198 [(false, .t 12)], none⟩,
 ⟨some 14, .faddr 2 (.t 3), none⟩,
 ⟨none, .store [some 155] (.t 14) (.t 13), none⟩])
 (.seq (.reg [⟨some 15, .load 3 true (.t 3), none⟩,
 ⟨none, .store [some 17, none, some 155] (.t 2) (.t 15), none⟩])
 .ret))))))
def if_laws_toEntry : IFn := ⟨16, [.inr (2, 3)], ib_laws_toEntry⟩
def ks_laws_toEntry : List (List (Option Nat)) := [[some 17, none, some 155]]
def gf_laws_toEntry (a0 : Entry) : Option Entry := (((gf_laws_toIntS a0.up).bind fun x5 => some x5 : Option (List Int))).bind fun q4 => (gf_laws_toChangeS a0.diff).bind fun x21 => some ((⟨q4, a0.note, x21⟩ : Entry))
def c_laws_toEntry : Con := ⟨Entry, Entry, 199, fun a => [.agg [.ro (List.map eInt a.up), .v (.string a.note), .ro (List.map (eChange false) a.diff)]], fun a => gf_laws_toEntry a, fun r => ⟨[(true, eEntry true r)], []⟩⟩
def ib_laws_toEntryS : IC :=
 (.seq (.reg [⟨some 2, .mv (.c (.slice none 0 0)), none⟩])
 (.seq (.reg [⟨some 5, .mv (.t 0), none⟩,
 ⟨some 6, .len false (.t 5), none⟩,
 ⟨some 7, .mks 163 [.sl true 17 [], .v (.string ⟨#[]⟩), .sl true 155 []] (.t 6) (.t 6), none⟩,
 ⟨some 3, .mv (.t 7), none⟩])
 (.seq (.seq (.reg [⟨some 4, .mv (.c (.int .i64 0)), none⟩])
 (blkC 0 (.loop (.seq (.seq (.reg [⟨some 8, .mv (.t 4), none⟩,
 ⟨some 9, .mv (.t 0), none⟩,
 ⟨some 10, .len false (.t 9), none⟩,
 ⟨some 11, .bin .lss (.t 8) (.t 10), none⟩])
 (.cond (.t 11) .skip
 (.exit 0)))
 (.seq (.block 1 (.reg [⟨some 14, .mv (.t 3), none⟩,
 ⟨some 15, .mv (.t 4), none⟩,
 ⟨some 16, .mv (.t 0), none⟩,
 ⟨some 17, .mv (.t 4), none⟩,
 ⟨some 18, .iaddr 3 (.t 16) (.t 17), none⟩,
 ⟨some 19, .load 3 true (.t 18), none⟩,
 ⟨some 20, .call 199 [(false, .t 19)], none⟩,
 ⟨some 21, .iaddr 3 (.t 14) (.t 15), none⟩,
 ⟨none, .store [some 17, none, some 155] (.t 21) (.t 20), none⟩]))
 (.reg [⟨some 12, .mv (.t 4), none⟩,
 ⟨some 13, .bin .add (.t 12) (.c (.int .i64 1)), none⟩,
 ⟨some 4, .mv (.t 13), none⟩]))))))
 (.seq (.reg [⟨some 22, .mv (.t 3), none⟩,
 ⟨some 2, .mv (.t 22), none⟩])
 .ret))))
def if_laws_toEntryS : IFn := ⟨23, [.inl 2], ib_laws_toEntryS⟩
def ks_laws_toEntryS : List (List (Option Nat)) := [[some 163]]
def gl_laws_toEntryS_1 : List Entry → Nat → (List Entry) → Option (List Entry)
  | [], k45, v42 => some v42
  | x46 :: l47, k45, v42 => (gf_laws_toEntry x46).bind fun x54 => (idx v42 (k45 : Int)).bind fun x60 => gl_laws_toEntryS_1 l47 (k45 + 1) (List.set v42 (k45 : Int).toNat x54)
def gf_laws_toEntryS (a0 : (List Entry)) : Option (List Entry) := if (decide (0 ≤ (a0.length : Int)) && fits ((a0.length : Int)).toNat) = true then if fits a0.length = true then ((gl_laws_toEntryS_1 a0 0 (List.replicate ((a0.length : Int)).toNat (⟨[], (⟨#[]⟩ : Str), []⟩ : Entry))).bind fun q40 => some (q40)) else none else none
def c_laws_toEntryS : Con := ⟨(List Entry), (List Entry), 190, fun a => [.ro (List.map (eEntry false) a)], fun a => gf_laws_toEntryS a, fun r => ⟨[(false, [sl true 163 (List.map (eEntry true) r)])], []⟩⟩
def ib_spec_PackSize : IC :=
 (.seq (.reg [⟨some 2, .mv (.c (.int .i64 0)), none⟩])
 (.seq (.reg [⟨some 3, .mv (.c (.int .i64 0)), none⟩])
 (.seq (.seq (.reg [⟨some 4, .mv (.c (.int .i64 0)), none⟩])
 (blkC 0 (.loop (.seq (.seq (.reg [⟨some 5, .mv (.t 4), none⟩,
 ⟨some 6, .mv (.t 0), none⟩,
 ⟨some 7, .len false (.t 6), none⟩,
 ⟨some 8, .bin .lss (.t 5) (.t 7), none⟩])
 (.cond (.t 8) .skip
 (.exit 0)))
 (.seq (.block 1 (.reg [⟨some 11, .mv (.t 3), none⟩,
 ⟨some 12, .mv (.t 0), none⟩,
 ⟨some 13, .mv (.t 4), none⟩,
 ⟨some 14, .iaddr 3 (.t 12) (.t 13), none⟩,
 ⟨some 15, .faddr 2 (.t 14), none⟩,
 ⟨some 16, .load 1 false (.t 15), none⟩,
 ⟨some 17, .len false (.t 16), none⟩,
 ⟨some 18, .bin .add (.t 11) (.t 17), none⟩,
 ⟨some 3, .mv (.t 18), none⟩]))
 (.reg [⟨some 9, .mv (.t 4), none⟩,
 ⟨some 10, .bin .add (.t 9) (.c (.int .i64 1)), none⟩,
 ⟨some 4, .mv (.t 10), none⟩]))))))
 (.seq (.reg [⟨some 19, .mv (.t 3), none⟩,
 ⟨some 2, .mv (.t 19), none⟩])
 .ret))))
def if_spec_PackSize : IFn := ⟨20, [.inl 2], ib_spec_PackSize⟩
def ks_spec_PackSize : List (List (Option Nat)) := [[none]]
def gl_spec_PackSize_1 : List Entry → Nat → Int → Option Int
  | [], k12, v10 => some v10
  | x13 :: l14, k12, v10 => gl_spec_PackSize_1 l14 (k12 + 1) (IntKind.i64.wrap (v10 + (x13.diff.length : Int)))
def gf_spec_PackSize (a0 : (List Entry)) : Option Int := if fits a0.length = true then ((gl_spec_PackSize_1 a0 0 0).bind fun q9 => some (q9)) else none
def c_spec_PackSize : Con := ⟨(List Entry), Int, 191, fun a => [.ro (List.map (eEntry false) a)], fun a => gf_spec_PackSize a, fun r => ⟨[(false, [.v (.int .i64 r)])], []⟩⟩
def ib_impl_PackSize : IC :=
 (.seq (.reg [⟨some 2, .mv (.c (.int .i64 0)), none⟩])
 (.seq (.reg [⟨some 3, .mv (.c (.int .i64 0)), none⟩])
 (.seq (.seq (.reg [⟨some 6, .mv (.t 0), none⟩,
 ⟨some 7, .len false (.t 6), none⟩,
 ⟨some 8, .mv (.c (.int .i64 0)), none⟩])
 (blkC 0 (.loop (.seq (.reg [⟨some 9, .bin .lss (.t 8) (.t 7), none⟩])
 (.seq (.cond (.t 9) .skip
 (.exit 0))
 (.seq (.block 1 (.seq (.reg [⟨some 10, .iaddr 3 (.t 6) (.t 8), none⟩,
 ⟨some 11, .load 3 true (.t 10), none⟩,
 ⟨some 5, .alloc 163 [.sl true 17 [], .v (.string ⟨#[]⟩), .sl true 155 []], none⟩,
 ⟨none, .store [some 17, none, some 155] (.t 5) (.t 11), none⟩])
 (.reg [⟨some 12, .mv (.t 3), none⟩,
 ⟨some 13, .faddr 2 (.t 5), none⟩,
 ⟨some 14, .load 1 false (.t 13), none⟩,
 ⟨some 15, .len false (.t 14), none⟩,
 ⟨some 16, .bin .add (.t 12) (.t 15), none⟩,
 ⟨some 3, .mv (.t 16), none⟩])))
 (.reg [⟨some 17, .bin .add (.t 8) (.c (.int .i64 1)), none⟩,
 ⟨some 8, .mv (.t 17), none⟩])))))))
 (.seq (.reg [⟨some 18, .mv (.t 3), none⟩,
 ⟨some 2, .mv (.t 18), none⟩])
 .ret))))
def if_impl_PackSize : IFn := ⟨19, [.inl 2], ib_impl_PackSize⟩
def ks_impl_PackSize : List (List (Option Nat)) := [[none]]
def gl_impl_PackSize_1 : List Entry → Nat → Int → Option Int
  | [], k15, v13 => some v13
  | x16 :: l17, k15, v13 => gl_impl_PackSize_1 l17 (k15 + 1) (IntKind.i64.wrap (v13 + (x16.diff.length : Int)))
def gf_impl_PackSize (a0 : (List Entry)) : Option Int := if fits a0.length = true then ((gl_impl_PackSize_1 a0 0 0).bind fun q12 => some (q12)) else none
def c_impl_PackSize : Con := ⟨(List Entry), Int, 192, fun a => [.ro (List.map (eEntry false) a)], fun a => gf_impl_PackSize a, fun r => ⟨[(false, [.v (.int .i64 r)])], []⟩⟩
def ib_laws_eqChange : IC :=
 (.seq (.reg [⟨some 2, .box 155 [none, none, none, none, some 66, some 82, none, none, none, some 66, some 82] (.t 0), none⟩,
 ⟨some 3, .box 155 [none, none, none, none, some 66, some 82, none, none, none, some 66, some 82] (.t 1), none⟩,
 ⟨some 4, .mv (.c (.bool false)), none⟩])
 (.seq (.seq (.reg [⟨some 5, .faddr 0 (.t 2), none⟩,
 ⟨some 6, .load 1 false (.t 5), none⟩,
 ⟨some 7, .faddr 0 (.t 3), none⟩,
 ⟨some 8, .load 1 false (.t 7), none⟩,
 ⟨some 9, .bin .neq (.t 6) (.t 8), none⟩])
 (.cond (.t 9) (.seq (.reg [⟨some 4, .mv (.c (.bool false)), none⟩])
 .ret)
 .skip))
 (.seq (.seq (.reg [⟨some 10, .faddr 1 (.t 2), none⟩,
 ⟨some 11, .load 1 false (.t 10), none⟩,
 ⟨some 12, .faddr 1 (.t 3), none⟩,
 ⟨some 13, .load 1 false (.t 12), none⟩,
 ⟨some 14, .eqs true false [1] (.t 11) (.t 13), none⟩])
 (.cond (.t 14) (.seq (.reg [⟨some 4, .mv (.c (.bool false)), none⟩])
 .ret)
 .skip))
 (.seq (.seq (.reg [⟨some 15, .faddr 2 (.t 2), none⟩,
 ⟨some 16, .load 4 true (.t 15), none⟩,
 ⟨some 17, .faddr 2 (.t 3), none⟩,
 ⟨some 18, .load 4 true (.t 17), none⟩,
 ⟨some 19, .call 158 [(false, .t 16), (false, .t 18)], none⟩,
 ⟨some 20, .un .not (.t 19), none⟩])
 (.cond (.t 20) (.seq (.reg [⟨some 4, .mv (.c (.bool false)), none⟩])
 .ret)
 .skip))
 (.seq (.seq (.reg [⟨some 21, .faddr 6 (.t 2), none⟩,
 ⟨some 22, .load 1 false (.t 21), none⟩,
 ⟨some 23, .faddr 6 (.t 3), none⟩,
 ⟨some 24, .load 1 false (.t 23), none⟩,
 ⟨some 25, .eqs true false [1] (.t 22) (.t 24), none⟩])
 (.cond (.t 25) (.seq (.reg [⟨some 4, .mv (.c (.bool false)), none⟩])
 .ret)
 .skip))
 (.seq (.seq (.reg [⟨some 26, .faddr 7 (.t 2), none⟩,
 ⟨some 27, .load 4 true (.t 26), none⟩,
 ⟨some 28, .faddr 7 (.t 3), none⟩,
 ⟨some 29, .load 4 true (.t 28), none⟩,
 ⟨some 30, .call 158 [(false, .t 27), (false, .t 29)], none⟩,
 ⟨some 31, .un .not (.t 30), none⟩])
 (.cond (.t 31) (.seq (.reg [⟨some 4, .mv (.c (.bool false)), none⟩])
 .ret)
 .skip))
 (.seq (.reg [⟨some 4, .mv (.c (.bool true)), none⟩])
 .ret)))))))
def if_laws_eqChange : IFn := ⟨32, [.inl 4], ib_laws_eqChange⟩
def ks_laws_eqChange : List (List (Option Nat)) := [[none]]
def gf_laws_eqChange (a0 : Change) (a1 : Change) : Option Bool := if (!seq a0.id a1.id) = true then (some (false)) else (if (!(a0.had == a1.had)) = true then (some (false)) else ((gf_laws_eqFeat a0.was a1.was).bind fun x3 => if (!x3) = true then (some (false)) else (if (!(a0.has == a1.has)) = true then (some (false)) else ((gf_laws_eqFeat a0.now a1.now).bind fun x5 => if (!x5) = true then (some (false)) else (some (true))))))
def c_laws_eqChange : Con := ⟨Change × Change, Bool, 200, fun a => [.agg [.v (.string a.1.id), .v (.bool a.1.had), .v (.string a.1.was.id), .v (.int .i64 a.1.was.shape.kind), .ro (List.map ePt a.1.was.shape.pts), .ro (List.map eTag a.1.was.tags), .v (.bool a.1.has), .v (.string a.1.now.id), .v (.int .i64 a.1.now.shape.kind), .ro (List.map ePt a.1.now.shape.pts), .ro (List.map eTag a.1.now.tags)], .agg [.v (.string a.2.id), .v (.bool a.2.had), .v (.string a.2.was.id), .v (.int .i64 a.2.was.shape.kind), .ro (List.map ePt a.2.was.shape.pts), .ro (List.map eTag a.2.was.tags), .v (.bool a.2.has), .v (.string a.2.now.id), .v (.int .i64 a.2.now.shape.kind), .ro (List.map ePt a.2.now.shape.pts), .ro (List.map eTag a.2.now.tags)]], fun a => gf_laws_eqChange a.1 a.2, fun r => ⟨[(false, [.v (.bool r)])], []⟩⟩
def ib_laws_eqChangeS : IC :=
 (.seq (.reg [⟨some 4, .mv (.c (.bool false)), none⟩])
 (.seq (.seq (.reg [⟨some 6, .mv (.t 0), none⟩,
 ⟨some 7, .len false (.t 6), none⟩,
 ⟨some 8, .mv (.t 1), none⟩,
 ⟨some 9, .len false (.t 8), none⟩,
 ⟨some 10, .bin .neq (.t 7) (.t 9), none⟩])
 (.cond (.t 10) (.seq (.reg [⟨some 4, .mv (.c (.bool false)), none⟩])
 .ret)
 .skip))
 (.seq (.seq (.reg [⟨some 5, .mv (.c (.int .i64 0)), none⟩])
 (blkC 0 (.loop (.seq (.seq (.reg [⟨some 11, .mv (.t 5), none⟩,
 ⟨some 12, .mv (.t 0), none⟩,
 ⟨some 13, .len false (.t 12), none⟩,
 ⟨some 14, .bin .lss (.t 11) (.t 13), none⟩])
 (.cond (.t 14) .skip
 (.exit 0)))
 (.seq (.block 1 (.seq (.drw [⟨some 17, .mv (.t 0), none⟩,
 ⟨some 18, .mv (.t 5), none⟩,
 ⟨some 19, .iaddr 11 (.t 17) (.t 18), none⟩,
 ⟨some 20, .load 11 true (.t 19), none⟩,
 ⟨some 21, .mv (.t 1), none⟩,
 ⟨some 22, .mv (.t 5), none⟩,
 ⟨some 23, .iaddr 11 (.t 21) (.t 22), none⟩,
 ⟨some 24, .load 11 true (.t 23), none⟩,
 ⟨some 25, .call 200 [(false, .t 20), (false, .t 24)], none⟩,
 ⟨some 26, .un .not (.t 25), none⟩] [(3, 7)])
 (.cond (.t 26) (.seq (.reg [⟨some 4, .mv (.c (.bool false)), none⟩])
 .ret)
 .skip)))
 (.reg [⟨some 15, .mv (.t 5), none⟩,
 ⟨some 16, .bin .add (.t 15) (.c (.int .i64 1)), none⟩,
 ⟨some 5, .mv (.t 16), none⟩]))))))
 (.seq (.reg [⟨some 4, .mv (.c (.bool true)), none⟩])
 .ret))))
def if_laws_eqChangeS : IFn := ⟨27, [.inl 4], ib_laws_eqChangeS⟩
def ks_laws_eqChangeS : List (List (Option Nat)) := [[none]]
def gl_laws_eqChangeS_1 (a1 : (List Change)) : List Change → Nat → Option (Bool ⊕ Unit)
  | [], k22 => some (.inr ())
  | x23 :: l24, k22 => (idx a1 (k22 : Int)).bind fun x31 => (gf_laws_eqChange x23 x31).bind fun x33 => if (!x33) = true then (some (.inl (false))) else (gl_laws_eqChangeS_1 a1 l24 (k22 + 1) )
def gf_laws_eqChangeS (a0 : (List Change)) (a1 : (List Change)) : Option Bool := if ((a0.length : Int) != (a1.length : Int)) = true then (some (false)) else (if fits a0.length = true then ((gl_laws_eqChangeS_1 a1 a0 0 ).bind fun q => match q with | .inl r => some r | .inr q20 => some (true)) else none)
def c_laws_eqChangeS : Con := ⟨(List Change) × (List Change), Bool, 201, fun a => [.ro (List.map (eChange false) a.1), .ro (List.map (eChange false) a.2)], fun a => gf_laws_eqChangeS a.1 a.2, fun r => ⟨[(false, [.v (.bool r)])], []⟩⟩
def ib_laws_eqEntry : IC :=
 (.seq (.reg [⟨some 2, .box 163 [some 17, none, some 155] (.t 0), none⟩,
 ⟨some 3, .box 163 [some 17, none, some 155] (.t 1), none⟩,
 ⟨some 4, .mv (.c (.bool false)), none⟩])
 (.seq (.seq (.reg [⟨some 5, .faddr 0 (.t 2), none⟩,
 ⟨some 6, .load 1 false (.t 5), none⟩,
 ⟨some 7, .faddr 0 (.t 3), none⟩,
 ⟨some 8, .load 1 false (.t 7), none⟩,
 ⟨some 9, .call 159 [(false, .t 6), (false, .t 8)], none⟩,
 ⟨some 10, .un .not (.t 9), none⟩])
 (.cond (.t 10) (.seq (.reg [⟨some 4, .mv (.c (.bool false)), none⟩])
 .ret)
 .skip))
 (.seq (.seq (.reg [⟨some 11, .faddr 1 (.t 2), none⟩,
 ⟨some 12, .load 1 false (.t 11), none⟩,
 ⟨some 13, .faddr 1 (.t 3), none⟩,
 ⟨some 14, .load 1 false (.t 13), none⟩,
 ⟨some 15, .bin .neq (.t 12) (.t 14), none⟩])
 (.cond (.t 15) (.seq (.reg [⟨some 4, .mv (.c (.bool false)), none⟩])
 .ret)
 .skip))
 (.seq (.seq (.reg [⟨some 16, .faddr 2 (.t 2), none⟩,
 ⟨some 17, .load 1 false (.t 16), none⟩,
 ⟨some 18, .faddr 2 (.t 3), none⟩,
 ⟨some 19, .load 1 false (.t 18), none⟩,
 ⟨some 20, .call 201 [(false, .t 17), (false, .t 19)], none⟩,
 ⟨some 21, .un .not (.t 20), none⟩])
 (.cond (.t 21) (.seq (.reg [⟨some 4, .mv (.c (.bool false)), none⟩])
 .ret)
 .skip))
 (.seq (.reg [⟨some 4, .mv (.c (.bool true)), none⟩])
 .ret)))))
def if_laws_eqEntry : IFn := ⟨22, [.inl 4], ib_laws_eqEntry⟩
def ks_laws_eqEntry : List (List (Option Nat)) := [[none]]
def gf_laws_eqEntry (a0 : Entry) (a1 : Entry) : Option Bool := (gf_laws_eqIntS a0.up a1.up).bind fun x3 => if (!x3) = true then (some (false)) else (if (!seq a0.note a1.note) = true then (some (false)) else ((gf_laws_eqChangeS a0.diff a1.diff).bind fun x5 => if (!x5) = true then (some (false)) else (some (true))))
def c_laws_eqEntry : Con := ⟨Entry × Entry, Bool, 202, fun a => [.agg [.ro (List.map eInt a.1.up), .v (.string a.1.note), .ro (List.map (eChange false) a.1.diff)], .agg [.ro (List.map eInt a.2.up), .v (.string a.2.note), .ro (List.map (eChange false) a.2.diff)]], fun a => gf_laws_eqEntry a.1 a.2, fun r => ⟨[(false, [.v (.bool r)])], []⟩⟩
def ib_laws_eqEntryS : IC :=
 (.seq (.reg [⟨some 4, .mv (.c (.bool false)), none⟩])
 (.seq (.seq (.reg [⟨some 6, .mv (.t 0), none⟩,
 ⟨some 7, .len false (.t 6), none⟩,
 ⟨some 8, .mv (.t 1), none⟩,
 ⟨some 9, .len false (.t 8), none⟩,
 ⟨some 10, .bin .neq (.t 7) (.t 9), none⟩])
 (.cond (.t 10) (.seq (.reg [⟨some 4, .mv (.c (.bool false)), none⟩])
 .ret)
 .skip))
 (.seq (.seq (.reg [⟨some 5, .mv (.c (.int .i64 0)), none⟩])
 (blkC 0 (.loop (.seq (.seq (.reg [⟨some 11, .mv (.t 5), none⟩,
 ⟨some 12, .mv (.t 0), none⟩,
 ⟨some 13, .len false (.t 12), none⟩,
 ⟨some 14, .bin .lss (.t 11) (.t 13), none⟩])
 (.cond (.t 14) .skip
 (.exit 0)))
 (.seq (.block 1 (.seq (.drw [⟨some 17, .mv (.t 0), none⟩,
 ⟨some 18, .mv (.t 5), none⟩,
 ⟨some 19, .iaddr 3 (.t 17) (.t 18), none⟩,
 ⟨some 20, .load 3 true (.t 19), none⟩,
 ⟨some 21, .mv (.t 1), none⟩,
 ⟨some 22, .mv (.t 5), none⟩,
 ⟨some 23, .iaddr 3 (.t 21) (.t 22), none⟩,
 ⟨some 24, .load 3 true (.t 23), none⟩,
 ⟨some 25, .call 202 [(false, .t 20), (false, .t 24)], none⟩,
 ⟨some 26, .un .not (.t 25), none⟩] [(3, 7)])
 (.cond (.t 26) (.seq (.reg [⟨some 4, .mv (.c (.bool false)), none⟩])
 .ret)
 .skip)))
 (.reg [⟨some 15, .mv (.t 5), none⟩,
 ⟨some 16, .bin .add (.t 15) (.c (.int .i64 1)), none⟩,
 ⟨some 5, .mv (.t 16), none⟩]))))))
 (.seq (.reg [⟨some 4, .mv (.c (.bool true)), none⟩])
 .ret))))
def if_laws_eqEntryS : IFn := ⟨27, [.inl 4], ib_laws_eqEntryS⟩
def ks_laws_eqEntryS : List (List (Option Nat)) := [[none]]
def gl_laws_eqEntryS_1 (a1 : (List Entry)) : List Entry → Nat → Option (Bool ⊕ Unit)
  | [], k22 => some (.inr ())
  | x23 :: l24, k22 => (idx a1 (k22 : Int)).bind fun x31 => (gf_laws_eqEntry x23 x31).bind fun x33 => if (!x33) = true then (some (.inl (false))) else (gl_laws_eqEntryS_1 a1 l24 (k22 + 1) )
def gf_laws_eqEntryS (a0 : (List Entry)) (a1 : (List Entry)) : Option Bool := if ((a0.length : Int) != (a1.length : Int)) = true then (some (false)) else (if fits a0.length = true then ((gl_laws_eqEntryS_1 a1 a0 0 ).bind fun q => match q with | .inl r => some r | .inr q20 => some (true)) else none)
def c_laws_eqEntryS : Con := ⟨(List Entry) × (List Entry), Bool, 193, fun a => [.ro (List.map (eEntry false) a.1), .ro (List.map (eEntry false) a.2)], fun a => gf_laws_eqEntryS a.1 a.2, fun r => ⟨[(false, [.v (.bool r)])], []⟩⟩
def ib_laws_FnExactPackSize : IC :=
 (.seq (.reg [⟨some 2, .mv (.c (.bool false)), none⟩])
 (.seq (.reg [⟨some 3, .mv (.c (.int .i64 1048576)), none⟩])
 (.seq (.reg [⟨some 7, .mv (.t 0), none⟩,
 ⟨some 8, .mv (.t 3), none⟩,
 ⟨some 9, .call 189 [(false, .t 7), (false, .t 8)], none⟩,
 ⟨some 3, .mv (.t 9), none⟩])
 (.seq (.seq (.reg [⟨some 10, .mv (.t 3), none⟩,
 ⟨some 11, .bin .lss (.t 10) (.c (.int .i64 0)), none⟩])
 (.cond (.t 11) (.seq (.reg [⟨some 2, .mv (.c (.bool true)), none⟩])
 .ret)
 .skip))
 (.seq (.reg [⟨some 12, .mv (.t 0), none⟩,
 ⟨some 13, .call 190 [(false, .t 12)], none⟩,
 ⟨some 14, .call 191 [(false, .t 13)], none⟩,
 ⟨some 4, .mv (.t 14), none⟩])
 (.seq (.reg [⟨some 15, .mv (.t 0), none⟩,
 ⟨some 16, .call 190 [(false, .t 15)], none⟩,
 ⟨some 5, .mv (.t 16), none⟩])
 (.seq (.reg [⟨some 17, .mv (.t 5), none⟩,
 ⟨some 18, .call 192 [(false, .t 17)], none⟩,
 ⟨some 6, .mv (.t 18), none⟩])
 (.seq (.seq (.reg [⟨some 19, .mv (.t 6), none⟩,
 ⟨some 20, .mv (.t 4), none⟩,
 ⟨some 21, .bin .neq (.t 19) (.t 20), none⟩])
 (.cond (.t 21) (.seq (.reg [⟨some 2, .mv (.c (.bool false)), none⟩])
 .ret)
 .skip))
 (.seq (.seq (.reg [⟨some 22, .mv (.t 5), none⟩,
 ⟨some 23, .mv (.t 0), none⟩,
 ⟨some 24, .call 190 [(false, .t 23)], none⟩,
 ⟨some 25, .call 193 [(false, .t 22), (false, .t 24)], none⟩,
 ⟨some 26, .un .not (.t 25), none⟩])
 (.cond (.t 26) (.seq (.reg [⟨some 2, .mv (.c (.bool false)), none⟩])
 .ret)
 .skip))
 (.seq (.reg [⟨some 2, .mv (.c (.bool true)), none⟩])
 .ret))))))))))
def if_laws_FnExactPackSize : IFn := ⟨27, [.inl 2], ib_laws_FnExactPackSize⟩
def ks_laws_FnExactPackSize : List (List (Option Nat)) := [[none]]
def gf_laws_FnExactPackSize (a0 : (List Entry)) : Option Bool := (gf_laws_szEntryS a0 1048576).bind fun x1 => if (decide (x1 < 0)) = true then (some (true)) else ((gf_laws_toEntryS a0).bind fun x3 => (gf_spec_PackSize x3).bind fun x7 => (gf_laws_toEntryS a0).bind fun x9 => (gf_impl_PackSize x9).bind fun x13 => if (x13 != x7) = true then (some (false)) else ((gf_laws_toEntryS a0).bind fun x15 => (gf_laws_eqEntryS x9 x15).bind fun x19 => if (!x19) = true then (some (false)) else (some (true))))
def c_laws_FnExactPackSize : Con := ⟨(List Entry), Bool, 203, fun a => [.ro (List.map (eEntry false) a)], fun a => gf_laws_FnExactPackSize a, fun r => ⟨[(false, [.v (.bool r)])], []⟩⟩
end Go.Proofs.AM
