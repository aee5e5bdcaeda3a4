/- A part of the proofs of this seat's statements (JD): lemmas on an abstract machine for the program's functions. Conditions: none. -/
import Derived.Test.YtcmfdcgopfbkjaaG2
set_option linter.unusedVariables false
set_option maxRecDepth 100000
set_option maxHeartbeats 4000000
namespace Go.Proofs.AM
attribute [local irreducible] vwp vstps vstpLs vstp vdo vret kseq kblk kloop kend kcut kloop2 frzV renV shutK pfzV trnV unrV
/-! spec.l1Num -/
def ib_spec_l1Num : IC :=
 (.seq (.reg [⟨some 2, .mv (.c (.bool false)), none⟩])
 (.seq (.reg [⟨some 3, .mv (.t 0), none⟩,
 ⟨some 4, .bin .geq (.t 3) (.c (.int .i64 (-1000))), none⟩,
 ⟨some 5, .mv (.t 4), none⟩,
 ⟨some 6, .mv (.t 0), some (5, true)⟩,
 ⟨some 7, .bin .leq (.t 6) (.c (.int .i64 1000)), some (5, true)⟩,
 ⟨some 8, .pick (.t 5) (.t 7) (.c (.bool false)), none⟩,
 ⟨some 2, .mv (.t 8), none⟩])
 .ret))
def if_spec_l1Num : IFn := ⟨9, [.inl 2], ib_spec_l1Num, lcF []⟩
def ks_spec_l1Num : List (List (Option Nat)) := [[none]]
def gf_spec_l1Num (a0 : Int) : Option Bool := if (decide (a0 ≥ (-1000))) = true then (some ((decide (a0 ≤ 1000)))) else (some (false))
def c_spec_l1Num : Con := ⟨Int, Bool, 12, fun a => [.v (.int .i64 a)], fun a => gf_spec_l1Num a, fun a r => ⟨[(false, [.v (.bool r)])], []⟩, fun a => []⟩
/-! spec.l1Pts -/
def ib_spec_l1Pts : IC :=
 (.seq (.reg [⟨some 2, .mv (.c (.bool false)), none⟩])
 (.seq (.seq (.reg [⟨some 3, .mv (.c (.int .i64 0)), none⟩])
 (blkC 0 (.loop (.seq (.seq (.reg [⟨some 4, .mv (.t 3), none⟩,
 ⟨some 5, .mv (.t 0), none⟩,
 ⟨some 6, .len false (.t 5), none⟩,
 ⟨some 7, .bin .lss (.t 4) (.t 6), none⟩])
 (.cond (.t 7) .skip
 (.exit 0)))
 (.seq (.block 1 (.seq (.drw [⟨some 10, .mv (.t 0), none⟩,
 ⟨some 11, .mv (.t 3), none⟩,
 ⟨some 12, .iaddr 2 (.t 10) (.t 11), none⟩,
 ⟨some 13, .faddr 0 (.t 12), none⟩,
 ⟨some 14, .load 1 false (.t 13), none⟩,
 ⟨some 15, .call 12 [(false, .t 14)], none⟩,
 ⟨some 16, .un .not (.t 15), none⟩,
 ⟨some 17, .mv (.t 16), none⟩,
 ⟨some 18, .mv (.t 0), some (17, false)⟩,
 ⟨some 19, .mv (.t 3), some (17, false)⟩,
 ⟨some 20, .iaddr 2 (.t 18) (.t 19), some (17, false)⟩,
 ⟨some 21, .faddr 1 (.t 20), some (17, false)⟩,
 ⟨some 22, .load 1 false (.t 21), some (17, false)⟩,
 ⟨some 23, .call 12 [(false, .t 22)], some (17, false)⟩,
 ⟨some 24, .un .not (.t 23), some (17, false)⟩,
 ⟨some 25, .pick (.t 17) (.c (.bool true)) (.t 24), none⟩,
 ⟨some 26, .mv (.t 25), none⟩,
 ⟨some 27, .mv (.t 3), some (26, false)⟩,
 ⟨some 28, .bin .gtr (.t 27) (.c (.int .i64 0)), some (26, false)⟩,
 ⟨some 29, .mv (.t 28), some (26, false)⟩,
 ⟨some 30, .mv (.t 0), some (29, true)⟩,
 ⟨some 31, .mv (.t 3), some (29, true)⟩,
 ⟨some 32, .iaddr 2 (.t 30) (.t 31), some (29, true)⟩,
 ⟨some 33, .load 2 true (.t 32), some (29, true)⟩,
 ⟨some 34, .mv (.t 0), some (29, true)⟩,
 ⟨some 35, .mv (.t 3), some (29, true)⟩,
 ⟨some 36, .bin .sub (.t 35) (.c (.int .i64 1)), some (29, true)⟩,
 ⟨some 37, .iaddr 2 (.t 34) (.t 36), some (29, true)⟩,
 ⟨some 38, .load 2 true (.t 37), some (29, true)⟩,
 ⟨some 39, .eqs false true [0, 0] (.t 33) (.t 38), some (29, true)⟩,
 ⟨some 40, .pick (.t 29) (.t 39) (.c (.bool false)), some (26, false)⟩,
 ⟨some 41, .pick (.t 26) (.c (.bool true)) (.t 40), none⟩] [(23, 28)])
 (.cond (.t 41) (.seq (.reg [⟨some 2, .mv (.c (.bool false)), none⟩])
 .ret)
 .skip)))
 (.reg [⟨some 8, .mv (.t 3), none⟩,
 ⟨some 9, .bin .add (.t 8) (.c (.int .i64 1)), none⟩,
 ⟨some 3, .mv (.t 9), none⟩]))))))
 (.seq (.reg [⟨some 42, .mv (.t 0), none⟩,
 ⟨some 43, .len false (.t 42), none⟩,
 ⟨some 44, .bin .leq (.t 43) (.c (.int .i64 6)), none⟩,
 ⟨some 2, .mv (.t 44), none⟩])
 .ret)))
def if_spec_l1Pts : IFn := ⟨45, [.inl 2], ib_spec_l1Pts, lcF []⟩
def ks_spec_l1Pts : List (List (Option Nat)) := [[none]]
def gl_spec_l1Pts_1 (a0 : (List Pt)) : List Pt → Nat → Option (Bool ⊕ Unit)
  | [], k26 => some (.inr ())
  | x27 :: l28, k26 => (gf_spec_l1Num x27.x).bind fun x35 => if (!x35) = true then (some (.inl (false))) else ((gf_spec_l1Num x27.y).bind fun x37 => if (!x37) = true then (some (.inl (false))) else (if (decide ((k26 : Int) > 0)) = true then ((idx a0 (IntKind.i64.wrap ((k26 : Int) - 1))).bind fun x39 => if ((x27.x == x39.x) && ((x27.y == x39.y) && true)) = true then (some (.inl (false))) else (gl_spec_l1Pts_1 a0 l28 (k26 + 1) )) else (gl_spec_l1Pts_1 a0 l28 (k26 + 1) )))
def gf_spec_l1Pts (a0 : (List Pt)) : Option Bool := if fits a0.length = true then ((gl_spec_l1Pts_1 a0 a0 0 ).bind fun q => match q with | .inl r => some r | .inr q24 => some ((decide ((a0.length : Int) ≤ 6)))) else none
def c_spec_l1Pts : Con := ⟨(List Pt), Bool, 13, fun a => [.ro (List.map ePt a)], fun a => gf_spec_l1Pts a, fun a r => ⟨[(false, [.v (.bool r)])], []⟩, fun a => []⟩
/-! spec.WordOk -/
def ib_spec_WordOk : IC :=
 (.seq (.reg [⟨some 2, .mv (.c (.bool false)), none⟩])
 (.seq (.seq (.reg [⟨some 3, .mv (.c (.int .i64 0)), none⟩])
 (blkC 0 (.loop (.seq (.seq (.reg [⟨some 4, .mv (.t 3), none⟩,
 ⟨some 5, .mv (.t 0), none⟩,
 ⟨some 6, .len true (.t 5), none⟩,
 ⟨some 7, .bin .lss (.t 4) (.t 6), none⟩])
 (.cond (.t 7) .skip
 (.exit 0)))
 (.seq (.block 1 (.seq (.reg [⟨some 10, .mv (.t 0), none⟩,
 ⟨some 11, .mv (.t 3), none⟩,
 ⟨some 12, .sidx (.t 10) (.t 11), none⟩,
 ⟨some 13, .bin .lss (.t 12) (.c (.int .u8 97)), none⟩,
 ⟨some 14, .mv (.t 13), none⟩,
 ⟨some 15, .mv (.t 0), some (14, false)⟩,
 ⟨some 16, .mv (.t 3), some (14, false)⟩,
 ⟨some 17, .sidx (.t 15) (.t 16), some (14, false)⟩,
 ⟨some 18, .bin .gtr (.t 17) (.c (.int .u8 122)), some (14, false)⟩,
 ⟨some 19, .pick (.t 14) (.c (.bool true)) (.t 18), none⟩])
 (.cond (.t 19) (.seq (.reg [⟨some 2, .mv (.c (.bool false)), none⟩])
 .ret)
 .skip)))
 (.reg [⟨some 8, .mv (.t 3), none⟩,
 ⟨some 9, .bin .add (.t 8) (.c (.int .i64 1)), none⟩,
 ⟨some 3, .mv (.t 9), none⟩]))))))
 (.seq (.reg [⟨some 20, .mv (.t 0), none⟩,
 ⟨some 21, .len true (.t 20), none⟩,
 ⟨some 22, .bin .geq (.t 21) (.c (.int .i64 1)), none⟩,
 ⟨some 23, .mv (.t 22), none⟩,
 ⟨some 24, .mv (.t 0), some (23, true)⟩,
 ⟨some 25, .len true (.t 24), some (23, true)⟩,
 ⟨some 26, .bin .leq (.t 25) (.c (.int .i64 6)), some (23, true)⟩,
 ⟨some 27, .pick (.t 23) (.t 26) (.c (.bool false)), none⟩,
 ⟨some 2, .mv (.t 27), none⟩])
 .ret)))
def if_spec_WordOk : IFn := ⟨28, [.inl 2], ib_spec_WordOk, lcF []⟩
def ks_spec_WordOk : List (List (Option Nat)) := [[none]]
def gl_spec_WordOk_1 : List UInt8 → Nat → Option (Bool ⊕ Unit)
  | [], k10 => some (.inr ())
  | x11 :: l12, k10 => if (decide ((x11.toNat : Int) < 97)) = true then (some (.inl (false))) else (if (decide ((x11.toNat : Int) > 122)) = true then (some (.inl (false))) else (gl_spec_WordOk_1 l12 (k10 + 1) ))
def gf_spec_WordOk (a0 : Str) : Option Bool := if fits a0.size = true then ((gl_spec_WordOk_1 a0.data.toList 0 ).bind fun q => match q with | .inl r => some r | .inr q8 => if (decide ((a0.size : Int) ≥ 1)) = true then (some ((decide ((a0.size : Int) ≤ 6)))) else (some (false))) else none
def c_spec_WordOk : Con := ⟨Str, Bool, 14, fun a => [.v (.string a)], fun a => gf_spec_WordOk a, fun a r => ⟨[(false, [.v (.bool r)])], []⟩, fun a => []⟩
/-! spec.ShapeOk -/
def ib_spec_ShapeOk : IC :=
 (.seq (.reg [⟨some 1, .box 226 [none, some 66] (.t 0), none⟩,
 ⟨some 2, .mv (.c (.bool false)), none⟩])
 (.seq (.reg [⟨some 4, .faddr 1 (.t 1), none⟩,
 ⟨some 5, .load 1 false (.t 4), none⟩,
 ⟨some 6, .len false (.t 5), none⟩,
 ⟨some 3, .mv (.t 6), none⟩])
 (.seq (.seq (.reg [⟨some 7, .faddr 1 (.t 1), none⟩,
 ⟨some 8, .load 1 false (.t 7), none⟩,
 ⟨some 9, .call 13 [(false, .t 8)], none⟩,
 ⟨some 10, .un .not (.t 9), none⟩])
 (.cond (.t 10) (.seq (.reg [⟨some 2, .mv (.c (.bool false)), none⟩])
 .ret)
 .skip))
 (.seq (.seq (.reg [⟨some 11, .faddr 0 (.t 1), none⟩,
 ⟨some 12, .load 1 false (.t 11), none⟩])
 (.block 0 (.seq (.reg [⟨some 14, .bin .eql (.t 12) (.c (.int .i64 1)), none⟩,
 ⟨some 13, .mv (.t 14), none⟩])
 (.cond (.t 13) (.seq (.reg [⟨some 15, .mv (.t 3), none⟩,
 ⟨some 16, .bin .eql (.t 15) (.c (.int .i64 1)), none⟩,
 ⟨some 2, .mv (.t 16), none⟩])
 .ret)
 (.seq (.reg [⟨some 18, .bin .eql (.t 12) (.c (.int .i64 2)), none⟩,
 ⟨some 17, .mv (.t 18), none⟩])
 (.cond (.t 17) (.seq (.reg [⟨some 19, .mv (.t 3), none⟩,
 ⟨some 20, .bin .geq (.t 19) (.c (.int .i64 2)), none⟩,
 ⟨some 2, .mv (.t 20), none⟩])
 .ret)
 (.seq (.reg [⟨some 22, .bin .eql (.t 12) (.c (.int .i64 3)), none⟩,
 ⟨some 21, .mv (.t 22), none⟩])
 (.cond (.t 21) (.seq (.drw [⟨some 23, .mv (.t 3), none⟩,
 ⟨some 24, .bin .geq (.t 23) (.c (.int .i64 3)), none⟩,
 ⟨some 25, .mv (.t 24), none⟩,
 ⟨some 26, .faddr 1 (.t 1), some (25, true)⟩,
 ⟨some 27, .load 1 false (.t 26), some (25, true)⟩,
 ⟨some 28, .iaddr 2 (.t 27) (.c (.int .i64 0)), some (25, true)⟩,
 ⟨some 29, .load 2 true (.t 28), some (25, true)⟩,
 ⟨some 30, .faddr 1 (.t 1), some (25, true)⟩,
 ⟨some 31, .load 1 false (.t 30), some (25, true)⟩,
 ⟨some 32, .mv (.t 3), some (25, true)⟩,
 ⟨some 33, .bin .sub (.t 32) (.c (.int .i64 1)), some (25, true)⟩,
 ⟨some 34, .iaddr 2 (.t 31) (.t 33), some (25, true)⟩,
 ⟨some 35, .load 2 true (.t 34), some (25, true)⟩,
 ⟨some 36, .eqs true true [0, 0] (.t 29) (.t 35), some (25, true)⟩,
 ⟨some 37, .pick (.t 25) (.t 36) (.c (.bool false)), none⟩,
 ⟨some 2, .mv (.t 37), none⟩] [(4, 8), (6, 8), (4, 12), (6, 12)])
 .ret)
 .skip))))))))
 (.seq (.reg [⟨some 2, .mv (.c (.bool false)), none⟩])
 .ret)))))
def if_spec_ShapeOk : IFn := ⟨38, [.inl 2], ib_spec_ShapeOk, lcF []⟩
def ks_spec_ShapeOk : List (List (Option Nat)) := [[none]]
def gf_spec_ShapeOk (a0 : Shape) : Option Bool := (gf_spec_l1Pts a0.pts).bind fun x2 => if (!x2) = true then (some (false)) else (if (a0.kind == 1) = true then (some (((a0.pts.length : Int) == 1))) else (if (a0.kind == 2) = true then (some ((decide ((a0.pts.length : Int) ≥ 2)))) else (if (a0.kind == 3) = true then (if (decide ((a0.pts.length : Int) ≥ 3)) = true then ((idx a0.pts 0).bind fun x4 => (idx a0.pts (IntKind.i64.wrap ((a0.pts.length : Int) - 1))).bind fun x6 => some ((!((x4.x == x6.x) && ((x4.y == x6.y) && true))))) else (some (false))) else (some (false)))))
def c_spec_ShapeOk : Con := ⟨Shape, Bool, 15, fun a => [.agg [.v (.int .i64 a.kind), .ro (List.map ePt a.pts)]], fun a => gf_spec_ShapeOk a, fun a r => ⟨[(false, [.v (.bool r)])], []⟩, fun a => []⟩
/-! spec.l2Tags -/
def ib_spec_l2Tags : IC :=
 (.seq (.reg [⟨some 2, .mv (.c (.bool false)), none⟩])
 (.seq (.seq (.reg [⟨some 3, .mv (.c (.int .i64 0)), none⟩])
 (blkC 0 (.loop (.seq (.seq (.reg [⟨some 4, .mv (.t 3), none⟩,
 ⟨some 5, .mv (.t 0), none⟩,
 ⟨some 6, .len false (.t 5), none⟩,
 ⟨some 7, .bin .lss (.t 4) (.t 6), none⟩])
 (.cond (.t 7) .skip
 (.exit 0)))
 (.seq (.block 1 (.seq (.drw [⟨some 10, .mv (.t 0), none⟩,
 ⟨some 11, .mv (.t 3), none⟩,
 ⟨some 12, .iaddr 2 (.t 10) (.t 11), none⟩,
 ⟨some 13, .faddr 0 (.t 12), none⟩,
 ⟨some 14, .load 1 false (.t 13), none⟩,
 ⟨some 15, .call 14 [(false, .t 14)], none⟩,
 ⟨some 16, .un .not (.t 15), none⟩,
 ⟨some 17, .mv (.t 16), none⟩,
 ⟨some 18, .mv (.t 0), some (17, false)⟩,
 ⟨some 19, .mv (.t 3), some (17, false)⟩,
 ⟨some 20, .iaddr 2 (.t 18) (.t 19), some (17, false)⟩,
 ⟨some 21, .faddr 1 (.t 20), some (17, false)⟩,
 ⟨some 22, .load 1 false (.t 21), some (17, false)⟩,
 ⟨some 23, .call 14 [(false, .t 22)], some (17, false)⟩,
 ⟨some 24, .un .not (.t 23), some (17, false)⟩,
 ⟨some 25, .pick (.t 17) (.c (.bool true)) (.t 24), none⟩,
 ⟨some 26, .mv (.t 25), none⟩,
 ⟨some 27, .mv (.t 3), some (26, false)⟩,
 ⟨some 28, .bin .gtr (.t 27) (.c (.int .i64 0)), some (26, false)⟩,
 ⟨some 29, .mv (.t 28), some (26, false)⟩,
 ⟨some 30, .mv (.t 0), some (29, true)⟩,
 ⟨some 31, .mv (.t 3), some (29, true)⟩,
 ⟨some 32, .iaddr 2 (.t 30) (.t 31), some (29, true)⟩,
 ⟨some 33, .faddr 0 (.t 32), some (29, true)⟩,
 ⟨some 34, .load 1 false (.t 33), some (29, true)⟩,
 ⟨some 35, .mv (.t 0), some (29, true)⟩,
 ⟨some 36, .mv (.t 3), some (29, true)⟩,
 ⟨some 37, .bin .sub (.t 36) (.c (.int .i64 1)), some (29, true)⟩,
 ⟨some 38, .iaddr 2 (.t 35) (.t 37), some (29, true)⟩,
 ⟨some 39, .faddr 0 (.t 38), some (29, true)⟩,
 ⟨some 40, .load 1 false (.t 39), some (29, true)⟩,
 ⟨some 41, .bin .leq (.t 34) (.t 40), some (29, true)⟩,
 ⟨some 42, .pick (.t 29) (.t 41) (.c (.bool false)), some (26, false)⟩,
 ⟨some 43, .pick (.t 26) (.c (.bool true)) (.t 42), none⟩] [(24, 30)])
 (.cond (.t 43) (.seq (.reg [⟨some 2, .mv (.c (.bool false)), none⟩])
 .ret)
 .skip)))
 (.reg [⟨some 8, .mv (.t 3), none⟩,
 ⟨some 9, .bin .add (.t 8) (.c (.int .i64 1)), none⟩,
 ⟨some 3, .mv (.t 9), none⟩]))))))
 (.seq (.reg [⟨some 44, .mv (.t 0), none⟩,
 ⟨some 45, .len false (.t 44), none⟩,
 ⟨some 46, .bin .leq (.t 45) (.c (.int .i64 4)), none⟩,
 ⟨some 2, .mv (.t 46), none⟩])
 .ret)))
def if_spec_l2Tags : IFn := ⟨47, [.inl 2], ib_spec_l2Tags, lcF []⟩
def ks_spec_l2Tags : List (List (Option Nat)) := [[none]]
def gl_spec_l2Tags_1 (a0 : (List Tag)) : List Tag → Nat → Option (Bool ⊕ Unit)
  | [], k26 => some (.inr ())
  | x27 :: l28, k26 => (gf_spec_WordOk x27.key).bind fun x35 => if (!x35) = true then (some (.inl (false))) else ((gf_spec_WordOk x27.val).bind fun x37 => if (!x37) = true then (some (.inl (false))) else (if (decide ((k26 : Int) > 0)) = true then ((idx a0 (IntKind.i64.wrap ((k26 : Int) - 1))).bind fun x39 => if (slt x27.key x39.key || seq x27.key x39.key) = true then (some (.inl (false))) else (gl_spec_l2Tags_1 a0 l28 (k26 + 1) )) else (gl_spec_l2Tags_1 a0 l28 (k26 + 1) )))
def gf_spec_l2Tags (a0 : (List Tag)) : Option Bool := if fits a0.length = true then ((gl_spec_l2Tags_1 a0 a0 0 ).bind fun q => match q with | .inl r => some r | .inr q24 => some ((decide ((a0.length : Int) ≤ 4)))) else none
def c_spec_l2Tags : Con := ⟨(List Tag), Bool, 16, fun a => [.ro (List.map eTag a)], fun a => gf_spec_l2Tags a, fun a r => ⟨[(false, [.v (.bool r)])], []⟩, fun a => []⟩
/-! spec.FeatOk -/
def ib_spec_FeatOk : IC :=
 (.seq (.reg [⟨some 1, .box 100 [none, none, some 66, some 82] (.t 0), none⟩,
 ⟨some 2, .mv (.c (.bool false)), none⟩])
 (.seq (.reg [⟨some 3, .faddr 0 (.t 1), none⟩,
 ⟨some 4, .load 1 false (.t 3), none⟩,
 ⟨some 5, .call 14 [(false, .t 4)], none⟩,
 ⟨some 6, .mv (.t 5), none⟩,
 ⟨some 7, .faddr 1 (.t 1), some (6, true)⟩,
 ⟨some 8, .load 2 true (.t 7), some (6, true)⟩,
 ⟨some 9, .call 15 [(false, .t 8)], some (6, true)⟩,
 ⟨some 10, .pick (.t 6) (.t 9) (.c (.bool false)), none⟩,
 ⟨some 11, .mv (.t 10), none⟩,
 ⟨some 12, .faddr 3 (.t 1), some (11, true)⟩,
 ⟨some 13, .load 1 false (.t 12), some (11, true)⟩,
 ⟨some 14, .call 16 [(false, .t 13)], some (11, true)⟩,
 ⟨some 15, .pick (.t 11) (.t 14) (.c (.bool false)), none⟩,
 ⟨some 2, .mv (.t 15), none⟩])
 .ret))
def if_spec_FeatOk : IFn := ⟨16, [.inl 2], ib_spec_FeatOk, lcF []⟩
def ks_spec_FeatOk : List (List (Option Nat)) := [[none]]
def gf_spec_FeatOk (a0 : Feat) : Option Bool := (gf_spec_WordOk a0.id).bind fun x2 => if x2 = true then ((gf_spec_ShapeOk a0.shape).bind fun x4 => if x4 = true then ((gf_spec_l2Tags a0.tags).bind fun x6 => some (x6)) else (some (false))) else (some (false))
def c_spec_FeatOk : Con := ⟨Feat, Bool, 17, fun a => [.agg [.v (.string a.id), .v (.int .i64 a.shape.kind), .ro (List.map ePt a.shape.pts), .ro (List.map eTag a.tags)]], fun a => gf_spec_FeatOk a, fun a r => ⟨[(false, [.v (.bool r)])], []⟩, fun a => []⟩
/-! spec.l1Same -/
def ib_spec_l1Same : IC :=
 (.seq (.reg [⟨some 4, .mv (.c (.bool false)), none⟩])
 (.seq (.seq (.reg [⟨some 6, .mv (.t 0), none⟩,
 ⟨some 7, .len false (.t 6), none⟩,
 ⟨some 8, .mv (.t 1), none⟩,
 ⟨some 9, .len false (.t 8), none⟩,
 ⟨some 10, .bin .neq (.t 7) (.t 9), none⟩])
 (.cond (.t 10) (.seq (.reg [⟨some 4, .mv (.c (.bool false)), none⟩])
 .ret)
 .skip))
 (.seq (.seq (.reg [⟨some 5, .mv (.c (.int .i64 0)), none⟩])
 (blkC 0 (.loop (.seq (.seq (.reg [⟨some 11, .mv (.t 5), none⟩,
 ⟨some 12, .mv (.t 0), none⟩,
 ⟨some 13, .len false (.t 12), none⟩,
 ⟨some 14, .bin .lss (.t 11) (.t 13), none⟩])
 (.cond (.t 14) .skip
 (.exit 0)))
 (.seq (.block 1 (.seq (.drw [⟨some 17, .mv (.t 0), none⟩,
 ⟨some 18, .mv (.t 5), none⟩,
 ⟨some 19, .iaddr 2 (.t 17) (.t 18), none⟩,
 ⟨some 20, .load 2 true (.t 19), none⟩,
 ⟨some 21, .mv (.t 1), none⟩,
 ⟨some 22, .mv (.t 5), none⟩,
 ⟨some 23, .iaddr 2 (.t 21) (.t 22), none⟩,
 ⟨some 24, .load 2 true (.t 23), none⟩,
 ⟨some 25, .eqs true true [0, 0] (.t 20) (.t 24), none⟩] [(3, 7)])
 (.cond (.t 25) (.seq (.reg [⟨some 4, .mv (.c (.bool false)), none⟩])
 .ret)
 .skip)))
 (.reg [⟨some 15, .mv (.t 5), none⟩,
 ⟨some 16, .bin .add (.t 15) (.c (.int .i64 1)), none⟩,
 ⟨some 5, .mv (.t 16), none⟩]))))))
 (.seq (.reg [⟨some 4, .mv (.c (.bool true)), none⟩])
 .ret))))
def if_spec_l1Same : IFn := ⟨26, [.inl 4], ib_spec_l1Same, lcF []⟩
def ks_spec_l1Same : List (List (Option Nat)) := [[none]]
def gl_spec_l1Same_1 (a1 : (List Pt)) : List Pt → Nat → Option (Bool ⊕ Unit)
  | [], k16 => some (.inr ())
  | x17 :: l18, k16 => (idx a1 (k16 : Int)).bind fun x25 => if (!((x17.x == x25.x) && ((x17.y == x25.y) && true))) = true then (some (.inl (false))) else (gl_spec_l1Same_1 a1 l18 (k16 + 1) )
def gf_spec_l1Same (a0 : (List Pt)) (a1 : (List Pt)) : Option Bool := if ((a0.length : Int) != (a1.length : Int)) = true then (some (false)) else (if fits a0.length = true then ((gl_spec_l1Same_1 a1 a0 0 ).bind fun q => match q with | .inl r => some r | .inr q14 => some (true)) else none)
def c_spec_l1Same : Con := ⟨(List Pt) × (List Pt), Bool, 18, fun a => [.ro (List.map ePt a.1), .ro (List.map ePt a.2)], fun a => gf_spec_l1Same a.1 a.2, fun a r => ⟨[(false, [.v (.bool r)])], []⟩, fun a => []⟩
/-! spec.ShapeSame -/
def ib_spec_ShapeSame : IC :=
 (.seq (.reg [⟨some 2, .box 226 [none, some 66] (.t 0), none⟩,
 ⟨some 3, .box 226 [none, some 66] (.t 1), none⟩,
 ⟨some 4, .mv (.c (.bool false)), none⟩])
 (.seq (.reg [⟨some 5, .faddr 0 (.t 2), none⟩,
 ⟨some 6, .load 1 false (.t 5), none⟩,
 ⟨some 7, .faddr 0 (.t 3), none⟩,
 ⟨some 8, .load 1 false (.t 7), none⟩,
 ⟨some 9, .bin .eql (.t 6) (.t 8), none⟩,
 ⟨some 10, .mv (.t 9), none⟩,
 ⟨some 11, .faddr 1 (.t 2), some (10, true)⟩,
 ⟨some 12, .load 1 false (.t 11), some (10, true)⟩,
 ⟨some 13, .faddr 1 (.t 3), some (10, true)⟩,
 ⟨some 14, .load 1 false (.t 13), some (10, true)⟩,
 ⟨some 15, .call 18 [(false, .t 12), (false, .t 14)], some (10, true)⟩,
 ⟨some 16, .pick (.t 10) (.t 15) (.c (.bool false)), none⟩,
 ⟨some 4, .mv (.t 16), none⟩])
 .ret))
def if_spec_ShapeSame : IFn := ⟨17, [.inl 4], ib_spec_ShapeSame, lcF []⟩
def ks_spec_ShapeSame : List (List (Option Nat)) := [[none]]
def gf_spec_ShapeSame (a0 : Shape) (a1 : Shape) : Option Bool := if (a0.kind == a1.kind) = true then ((gf_spec_l1Same a0.pts a1.pts).bind fun x3 => some (x3)) else (some (false))
def c_spec_ShapeSame : Con := ⟨Shape × Shape, Bool, 19, fun a => [.agg [.v (.int .i64 a.1.kind), .ro (List.map ePt a.1.pts)], .agg [.v (.int .i64 a.2.kind), .ro (List.map ePt a.2.pts)]], fun a => gf_spec_ShapeSame a.1 a.2, fun a r => ⟨[(false, [.v (.bool r)])], []⟩, fun a => []⟩
/-! spec.l2Same -/
def ib_spec_l2Same : IC :=
 (.seq (.reg [⟨some 4, .mv (.c (.bool false)), none⟩])
 (.seq (.seq (.reg [⟨some 6, .mv (.t 0), none⟩,
 ⟨some 7, .len false (.t 6), none⟩,
 ⟨some 8, .mv (.t 1), none⟩,
 ⟨some 9, .len false (.t 8), none⟩,
 ⟨some 10, .bin .neq (.t 7) (.t 9), none⟩])
 (.cond (.t 10) (.seq (.reg [⟨some 4, .mv (.c (.bool false)), none⟩])
 .ret)
 .skip))
 (.seq (.seq (.reg [⟨some 5, .mv (.c (.int .i64 0)), none⟩])
 (blkC 0 (.loop (.seq (.seq (.reg [⟨some 11, .mv (.t 5), none⟩,
 ⟨some 12, .mv (.t 0), none⟩,
 ⟨some 13, .len false (.t 12), none⟩,
 ⟨some 14, .bin .lss (.t 11) (.t 13), none⟩])
 (.cond (.t 14) .skip
 (.exit 0)))
 (.seq (.block 1 (.seq (.drw [⟨some 17, .mv (.t 0), none⟩,
 ⟨some 18, .mv (.t 5), none⟩,
 ⟨some 19, .iaddr 2 (.t 17) (.t 18), none⟩,
 ⟨some 20, .load 2 true (.t 19), none⟩,
 ⟨some 21, .mv (.t 1), none⟩,
 ⟨some 22, .mv (.t 5), none⟩,
 ⟨some 23, .iaddr 2 (.t 21) (.t 22), none⟩,
 ⟨some 24, .load 2 true (.t 23), none⟩,
 ⟨some 25, .eqs true true [2, 2] (.t 20) (.t 24), none⟩] [(3, 7)])
 (.cond (.t 25) (.seq (.reg [⟨some 4, .mv (.c (.bool false)), none⟩])
 .ret)
 .skip)))
 (.reg [⟨some 15, .mv (.t 5), none⟩,
 ⟨some 16, .bin .add (.t 15) (.c (.int .i64 1)), none⟩,
 ⟨some 5, .mv (.t 16), none⟩]))))))
 (.seq (.reg [⟨some 4, .mv (.c (.bool true)), none⟩])
 .ret))))
def if_spec_l2Same : IFn := ⟨26, [.inl 4], ib_spec_l2Same, lcF []⟩
def ks_spec_l2Same : List (List (Option Nat)) := [[none]]
def gl_spec_l2Same_1 (a1 : (List Tag)) : List Tag → Nat → Option (Bool ⊕ Unit)
  | [], k16 => some (.inr ())
  | x17 :: l18, k16 => (idx a1 (k16 : Int)).bind fun x25 => if (!((x17.key == x25.key) && ((x17.val == x25.val) && true))) = true then (some (.inl (false))) else (gl_spec_l2Same_1 a1 l18 (k16 + 1) )
def gf_spec_l2Same (a0 : (List Tag)) (a1 : (List Tag)) : Option Bool := if ((a0.length : Int) != (a1.length : Int)) = true then (some (false)) else (if fits a0.length = true then ((gl_spec_l2Same_1 a1 a0 0 ).bind fun q => match q with | .inl r => some r | .inr q14 => some (true)) else none)
def c_spec_l2Same : Con := ⟨(List Tag) × (List Tag), Bool, 20, fun a => [.ro (List.map eTag a.1), .ro (List.map eTag a.2)], fun a => gf_spec_l2Same a.1 a.2, fun a r => ⟨[(false, [.v (.bool r)])], []⟩, fun a => []⟩
/-! spec.FeatSame -/
def ib_spec_FeatSame : IC :=
 (.seq (.reg [⟨some 2, .box 100 [none, none, some 66, some 82] (.t 0), none⟩,
 ⟨some 3, .box 100 [none, none, some 66, some 82] (.t 1), none⟩,
 ⟨some 4, .mv (.c (.bool false)), none⟩])
 (.seq (.reg [⟨some 5, .faddr 0 (.t 2), none⟩,
 ⟨some 6, .load 1 false (.t 5), none⟩,
 ⟨some 7, .faddr 0 (.t 3), none⟩,
 ⟨some 8, .load 1 false (.t 7), none⟩,
 ⟨some 9, .bin .eql (.t 6) (.t 8), none⟩,
 ⟨some 10, .mv (.t 9), none⟩,
 ⟨some 11, .faddr 1 (.t 2), some (10, true)⟩,
 ⟨some 12, .load 2 true (.t 11), some (10, true)⟩,
 ⟨some 13, .faddr 1 (.t 3), some (10, true)⟩,
 ⟨some 14, .load 2 true (.t 13), some (10, true)⟩,
 ⟨some 15, .call 19 [(false, .t 12), (false, .t 14)], some (10, true)⟩,
 ⟨some 16, .pick (.t 10) (.t 15) (.c (.bool false)), none⟩,
 ⟨some 17, .mv (.t 16), none⟩,
 ⟨some 18, .faddr 3 (.t 2), some (17, true)⟩,
 ⟨some 19, .load 1 false (.t 18), some (17, true)⟩,
 ⟨some 20, .faddr 3 (.t 3), some (17, true)⟩,
 ⟨some 21, .load 1 false (.t 20), some (17, true)⟩,
 ⟨some 22, .call 20 [(false, .t 19), (false, .t 21)], some (17, true)⟩,
 ⟨some 23, .pick (.t 17) (.t 22) (.c (.bool false)), none⟩,
 ⟨some 4, .mv (.t 23), none⟩])
 .ret))
def if_spec_FeatSame : IFn := ⟨24, [.inl 4], ib_spec_FeatSame, lcF []⟩
def ks_spec_FeatSame : List (List (Option Nat)) := [[none]]
def gf_spec_FeatSame (a0 : Feat) (a1 : Feat) : Option Bool := if (seq a0.id a1.id) = true then ((gf_spec_ShapeSame a0.shape a1.shape).bind fun x3 => if x3 = true then ((gf_spec_l2Same a0.tags a1.tags).bind fun x5 => some (x5)) else (some (false))) else (some (false))
def c_spec_FeatSame : Con := ⟨Feat × Feat, Bool, 21, fun a => [.agg [.v (.string a.1.id), .v (.int .i64 a.1.shape.kind), .ro (List.map ePt a.1.shape.pts), .ro (List.map eTag a.1.tags)], .agg [.v (.string a.2.id), .v (.int .i64 a.2.shape.kind), .ro (List.map ePt a.2.shape.pts), .ro (List.map eTag a.2.tags)]], fun a => gf_spec_FeatSame a.1 a.2, fun a r => ⟨[(false, [.v (.bool r)])], []⟩, fun a => []⟩
/-! spec.l7Ints -/
def ib_spec_l7Ints : IC :=
 (.seq (.reg [⟨some 4, .mv (.c (.bool false)), none⟩])
 (.seq (.seq (.reg [⟨some 6, .mv (.t 0), none⟩,
 ⟨some 7, .len false (.t 6), none⟩,
 ⟨some 8, .mv (.t 1), none⟩,
 ⟨some 9, .len false (.t 8), none⟩,
 ⟨some 10, .bin .neq (.t 7) (.t 9), none⟩])
 (.cond (.t 10) (.seq (.reg [⟨some 4, .mv (.c (.bool false)), none⟩])
 .ret)
 .skip))
 (.seq (.seq (.reg [⟨some 5, .mv (.c (.int .i64 0)), none⟩])
 (blkC 0 (.loop (.seq (.seq (.reg [⟨some 11, .mv (.t 5), none⟩,
 ⟨some 12, .mv (.t 0), none⟩,
 ⟨some 13, .len false (.t 12), none⟩,
 ⟨some 14, .bin .lss (.t 11) (.t 13), none⟩])
 (.cond (.t 14) .skip
 (.exit 0)))
 (.seq (.block 1 (.seq (.drw [⟨some 17, .mv (.t 0), none⟩,
 ⟨some 18, .mv (.t 5), none⟩,
 ⟨some 19, .iaddr 1 (.t 17) (.t 18), none⟩,
 ⟨some 20, .load 1 false (.t 19), none⟩,
 ⟨some 21, .mv (.t 1), none⟩,
 ⟨some 22, .mv (.t 5), none⟩,
 ⟨some 23, .iaddr 1 (.t 21) (.t 22), none⟩,
 ⟨some 24, .load 1 false (.t 23), none⟩,
 ⟨some 25, .bin .neq (.t 20) (.t 24), none⟩] [(3, 7)])
 (.cond (.t 25) (.seq (.reg [⟨some 4, .mv (.c (.bool false)), none⟩])
 .ret)
 .skip)))
 (.reg [⟨some 15, .mv (.t 5), none⟩,
 ⟨some 16, .bin .add (.t 15) (.c (.int .i64 1)), none⟩,
 ⟨some 5, .mv (.t 16), none⟩]))))))
 (.seq (.reg [⟨some 4, .mv (.c (.bool true)), none⟩])
 .ret))))
def if_spec_l7Ints : IFn := ⟨26, [.inl 4], ib_spec_l7Ints, lcF []⟩
def ks_spec_l7Ints : List (List (Option Nat)) := [[none]]
def gl_spec_l7Ints_1 (a1 : (List Int)) : List Int → Nat → Option (Bool ⊕ Unit)
  | [], k16 => some (.inr ())
  | x17 :: l18, k16 => (idx a1 (k16 : Int)).bind fun x25 => if (x17 != x25) = true then (some (.inl (false))) else (gl_spec_l7Ints_1 a1 l18 (k16 + 1) )
def gf_spec_l7Ints (a0 : (List Int)) (a1 : (List Int)) : Option Bool := if ((a0.length : Int) != (a1.length : Int)) = true then (some (false)) else (if fits a0.length = true then ((gl_spec_l7Ints_1 a1 a0 0 ).bind fun q => match q with | .inl r => some r | .inr q14 => some (true)) else none)
def c_spec_l7Ints : Con := ⟨(List Int) × (List Int), Bool, 22, fun a => [.ro (List.map eInt a.1), .ro (List.map eInt a.2)], fun a => gf_spec_l7Ints a.1 a.2, fun a r => ⟨[(false, [.v (.bool r)])], []⟩, fun a => []⟩
/-! spec.SheetSame -/
def ib_spec_SheetSame : IC :=
 (.seq (.reg [⟨some 4, .mv (.c (.bool false)), none⟩])
 (.seq (.seq (.reg [⟨some 6, .mv (.t 0), none⟩,
 ⟨some 7, .len false (.t 6), none⟩,
 ⟨some 8, .mv (.t 1), none⟩,
 ⟨some 9, .len false (.t 8), none⟩,
 ⟨some 10, .bin .neq (.t 7) (.t 9), none⟩])
 (.cond (.t 10) (.seq (.reg [⟨some 4, .mv (.c (.bool false)), none⟩])
 .ret)
 .skip))
 (.seq (.seq (.reg [⟨some 5, .mv (.c (.int .i64 0)), none⟩])
 (blkC 0 (.loop (.seq (.seq (.reg [⟨some 11, .mv (.t 5), none⟩,
 ⟨some 12, .mv (.t 0), none⟩,
 ⟨some 13, .len false (.t 12), none⟩,
 ⟨some 14, .bin .lss (.t 11) (.t 13), none⟩])
 (.cond (.t 14) .skip
 (.exit 0)))
 (.seq (.block 1 (.seq (.drw [⟨some 17, .mv (.t 0), none⟩,
 ⟨some 18, .mv (.t 5), none⟩,
 ⟨some 19, .iaddr 4 (.t 17) (.t 18), none⟩,
 ⟨some 20, .load 4 true (.t 19), none⟩,
 ⟨some 21, .mv (.t 1), none⟩,
 ⟨some 22, .mv (.t 5), none⟩,
 ⟨some 23, .iaddr 4 (.t 21) (.t 22), none⟩,
 ⟨some 24, .load 4 true (.t 23), none⟩,
 ⟨some 25, .call 21 [(false, .t 20), (false, .t 24)], none⟩,
 ⟨some 26, .un .not (.t 25), none⟩] [(3, 7)])
 (.cond (.t 26) (.seq (.reg [⟨some 4, .mv (.c (.bool false)), none⟩])
 .ret)
 .skip)))
 (.reg [⟨some 15, .mv (.t 5), none⟩,
 ⟨some 16, .bin .add (.t 15) (.c (.int .i64 1)), none⟩,
 ⟨some 5, .mv (.t 16), none⟩]))))))
 (.seq (.reg [⟨some 4, .mv (.c (.bool true)), none⟩])
 .ret))))
def if_spec_SheetSame : IFn := ⟨27, [.inl 4], ib_spec_SheetSame, lcF []⟩
def ks_spec_SheetSame : List (List (Option Nat)) := [[none]]
def gl_spec_SheetSame_1 (a1 : (List Feat)) : List Feat → Nat → Option (Bool ⊕ Unit)
  | [], k22 => some (.inr ())
  | x23 :: l24, k22 => (idx a1 (k22 : Int)).bind fun x31 => (gf_spec_FeatSame x23 x31).bind fun x33 => if (!x33) = true then (some (.inl (false))) else (gl_spec_SheetSame_1 a1 l24 (k22 + 1) )
def gf_spec_SheetSame (a0 : (List Feat)) (a1 : (List Feat)) : Option Bool := if ((a0.length : Int) != (a1.length : Int)) = true then (some (false)) else (if fits a0.length = true then ((gl_spec_SheetSame_1 a1 a0 0 ).bind fun q => match q with | .inl r => some r | .inr q20 => some (true)) else none)
def c_spec_SheetSame : Con := ⟨(List Feat) × (List Feat), Bool, 23, fun a => [.ro (List.map (eFeat false) a.1), .ro (List.map (eFeat false) a.2)], fun a => gf_spec_SheetSame a.1 a.2, fun a r => ⟨[(false, [.v (.bool r)])], []⟩, fun a => []⟩
/-! spec.l7Same -/
def ib_spec_l7Same : IC :=
 (.seq (.reg [⟨some 2, .box 115 [some 17, some 100, none] (.t 0), none⟩,
 ⟨some 3, .box 115 [some 17, some 100, none] (.t 1), none⟩,
 ⟨some 4, .mv (.c (.bool false)), none⟩])
 (.seq (.reg [⟨some 5, .faddr 0 (.t 2), none⟩,
 ⟨some 6, .load 1 false (.t 5), none⟩,
 ⟨some 7, .faddr 0 (.t 3), none⟩,
 ⟨some 8, .load 1 false (.t 7), none⟩,
 ⟨some 9, .call 22 [(false, .t 6), (false, .t 8)], none⟩,
 ⟨some 10, .mv (.t 9), none⟩,
 ⟨some 11, .faddr 1 (.t 2), some (10, true)⟩,
 ⟨some 12, .load 1 false (.t 11), some (10, true)⟩,
 ⟨some 13, .faddr 1 (.t 3), some (10, true)⟩,
 ⟨some 14, .load 1 false (.t 13), some (10, true)⟩,
 ⟨some 15, .call 23 [(false, .t 12), (false, .t 14)], some (10, true)⟩,
 ⟨some 16, .pick (.t 10) (.t 15) (.c (.bool false)), none⟩,
 ⟨some 17, .mv (.t 16), none⟩,
 ⟨some 18, .faddr 2 (.t 2), some (17, true)⟩,
 ⟨some 19, .load 1 false (.t 18), some (17, true)⟩,
 ⟨some 20, .faddr 2 (.t 3), some (17, true)⟩,
 ⟨some 21, .load 1 false (.t 20), some (17, true)⟩,
 ⟨some 22, .bin .eql (.t 19) (.t 21), some (17, true)⟩,
 ⟨some 23, .pick (.t 17) (.t 22) (.c (.bool false)), none⟩,
 ⟨some 4, .mv (.t 23), none⟩])
 .ret))
def if_spec_l7Same : IFn := ⟨24, [.inl 4], ib_spec_l7Same, lcF []⟩
def ks_spec_l7Same : List (List (Option Nat)) := [[none]]
def gf_spec_l7Same (a0 : Commit) (a1 : Commit) : Option Bool := (gf_spec_l7Ints a0.up a1.up).bind fun x3 => if x3 = true then ((gf_spec_SheetSame a0.sheet a1.sheet).bind fun x5 => if x5 = true then (some ((seq a0.note a1.note))) else (some (false))) else (some (false))
def c_spec_l7Same : Con := ⟨Commit × Commit, Bool, 24, fun a => [.agg [.ro (List.map eInt a.1.up), .ro (List.map (eFeat false) a.1.sheet), .v (.string a.1.note)], .agg [.ro (List.map eInt a.2.up), .ro (List.map (eFeat false) a.2.sheet), .v (.string a.2.note)]], fun a => gf_spec_l7Same a.1 a.2, fun a r => ⟨[(false, [.v (.bool r)])], []⟩, fun a => []⟩
/-! spec.l7Up -/
def ib_spec_l7Up : IC :=
 (.seq (.reg [⟨some 4, .mv (.c (.bool false)), none⟩])
 (.seq (.seq (.reg [⟨some 5, .mv (.c (.int .i64 0)), none⟩])
 (blkC 0 (.loop (.seq (.seq (.reg [⟨some 6, .mv (.t 5), none⟩,
 ⟨some 7, .mv (.t 0), none⟩,
 ⟨some 8, .len false (.t 7), none⟩,
 ⟨some 9, .bin .lss (.t 6) (.t 8), none⟩])
 (.cond (.t 9) .skip
 (.exit 0)))
 (.seq (.block 1 (.seq (.reg [⟨some 12, .mv (.t 0), none⟩,
 ⟨some 13, .mv (.t 5), none⟩,
 ⟨some 14, .iaddr 1 (.t 12) (.t 13), none⟩,
 ⟨some 15, .load 1 false (.t 14), none⟩,
 ⟨some 16, .bin .lss (.t 15) (.c (.int .i64 0)), none⟩,
 ⟨some 17, .mv (.t 16), none⟩,
 ⟨some 18, .mv (.t 0), some (17, false)⟩,
 ⟨some 19, .mv (.t 5), some (17, false)⟩,
 ⟨some 20, .iaddr 1 (.t 18) (.t 19), some (17, false)⟩,
 ⟨some 21, .load 1 false (.t 20), some (17, false)⟩,
 ⟨some 22, .mv (.t 1), some (17, false)⟩,
 ⟨some 23, .bin .geq (.t 21) (.t 22), some (17, false)⟩,
 ⟨some 24, .pick (.t 17) (.c (.bool true)) (.t 23), none⟩])
 (.cond (.t 24) (.seq (.reg [⟨some 4, .mv (.c (.bool false)), none⟩])
 .ret)
 .skip)))
 (.reg [⟨some 10, .mv (.t 5), none⟩,
 ⟨some 11, .bin .add (.t 10) (.c (.int .i64 1)), none⟩,
 ⟨some 5, .mv (.t 11), none⟩]))))))
 (.seq (.drw [⟨some 25, .mv (.t 0), none⟩,
 ⟨some 26, .len false (.t 25), none⟩,
 ⟨some 27, .bin .leq (.t 26) (.c (.int .i64 2)), none⟩,
 ⟨some 28, .mv (.t 27), none⟩,
 ⟨some 29, .mv (.t 0), some (28, true)⟩,
 ⟨some 30, .len false (.t 29), some (28, true)⟩,
 ⟨some 31, .bin .gtr (.t 30) (.c (.int .i64 0)), some (28, true)⟩,
 ⟨some 32, .mv (.t 1), some (28, true)⟩,
 ⟨some 33, .bin .gtr (.t 32) (.c (.int .i64 0)), some (28, true)⟩,
 ⟨some 34, .eqs false false [1] (.t 31) (.t 33), some (28, true)⟩,
 ⟨some 35, .pick (.t 28) (.t 34) (.c (.bool false)), none⟩,
 ⟨some 36, .mv (.t 35), none⟩,
 ⟨some 37, .mv (.t 0), some (36, true)⟩,
 ⟨some 38, .len false (.t 37), some (36, true)⟩,
 ⟨some 39, .bin .lss (.t 38) (.c (.int .i64 2)), some (36, true)⟩,
 ⟨some 40, .mv (.t 39), some (36, true)⟩,
 ⟨some 41, .mv (.t 0), some (40, false)⟩,
 ⟨some 42, .iaddr 1 (.t 41) (.c (.int .i64 0)), some (40, false)⟩,
 ⟨some 43, .load 1 false (.t 42), some (40, false)⟩,
 ⟨some 44, .mv (.t 0), some (40, false)⟩,
 ⟨some 45, .iaddr 1 (.t 44) (.c (.int .i64 1)), some (40, false)⟩,
 ⟨some 46, .load 1 false (.t 45), some (40, false)⟩,
 ⟨some 47, .bin .neq (.t 43) (.t 46), some (40, false)⟩,
 ⟨some 48, .pick (.t 40) (.c (.bool true)) (.t 47), some (36, true)⟩,
 ⟨some 49, .pick (.t 36) (.t 48) (.c (.bool false)), none⟩,
 ⟨some 4, .mv (.t 49), none⟩] [(18, 21)])
 .ret)))
def if_spec_l7Up : IFn := ⟨50, [.inl 4], ib_spec_l7Up, lcF []⟩
def ks_spec_l7Up : List (List (Option Nat)) := [[none]]
def gl_spec_l7Up_1 (a1 : Int) : List Int → Nat → Option (Bool ⊕ Unit)
  | [], k10 => some (.inr ())
  | x11 :: l12, k10 => if (decide (x11 < 0)) = true then (some (.inl (false))) else (if (decide (x11 ≥ a1)) = true then (some (.inl (false))) else (gl_spec_l7Up_1 a1 l12 (k10 + 1) ))
def gf_spec_l7Up (a0 : (List Int)) (a1 : Int) : Option Bool := if fits a0.length = true then ((gl_spec_l7Up_1 a1 a0 0 ).bind fun q => match q with | .inl r => some r | .inr q8 => if (decide ((a0.length : Int) ≤ 2)) = true then (if ((decide ((a0.length : Int) > 0)) == (decide (a1 > 0))) = true then (if (decide ((a0.length : Int) < 2)) = true then (some (true)) else ((idx a0 0).bind fun x19 => (idx a0 1).bind fun x21 => some ((x19 != x21)))) else (some (false))) else (some (false))) else none
def c_spec_l7Up : Con := ⟨(List Int) × Int, Bool, 25, fun a => [.ro (List.map eInt a.1), .v (.int .i64 a.2)], fun a => gf_spec_l7Up a.1 a.2, fun a r => ⟨[(false, [.v (.bool r)])], []⟩, fun a => []⟩
/-! spec.SheetOk -/
def ib_spec_SheetOk : IC :=
 (.seq (.reg [⟨some 2, .mv (.c (.bool false)), none⟩])
 (.seq (.seq (.reg [⟨some 3, .mv (.c (.int .i64 0)), none⟩])
 (blkC 0 (.loop (.seq (.seq (.reg [⟨some 4, .mv (.t 3), none⟩,
 ⟨some 5, .mv (.t 0), none⟩,
 ⟨some 6, .len false (.t 5), none⟩,
 ⟨some 7, .bin .lss (.t 4) (.t 6), none⟩])
 (.cond (.t 7) .skip
 (.exit 0)))
 (.seq (.block 1 (.seq (.drw [⟨some 10, .mv (.t 0), none⟩,
 ⟨some 11, .mv (.t 3), none⟩,
 ⟨some 12, .iaddr 4 (.t 10) (.t 11), none⟩,
 ⟨some 13, .load 4 true (.t 12), none⟩,
 ⟨some 14, .call 17 [(false, .t 13)], none⟩,
 ⟨some 15, .un .not (.t 14), none⟩,
 ⟨some 16, .mv (.t 15), none⟩,
 ⟨some 17, .mv (.t 3), some (16, false)⟩,
 ⟨some 18, .bin .gtr (.t 17) (.c (.int .i64 0)), some (16, false)⟩,
 ⟨some 19, .mv (.t 18), some (16, false)⟩,
 ⟨some 20, .mv (.t 0), some (19, true)⟩,
 ⟨some 21, .mv (.t 3), some (19, true)⟩,
 ⟨some 22, .iaddr 4 (.t 20) (.t 21), some (19, true)⟩,
 ⟨some 23, .faddr 0 (.t 22), some (19, true)⟩,
 ⟨some 24, .load 1 false (.t 23), some (19, true)⟩,
 ⟨some 25, .mv (.t 0), some (19, true)⟩,
 ⟨some 26, .mv (.t 3), some (19, true)⟩,
 ⟨some 27, .bin .sub (.t 26) (.c (.int .i64 1)), some (19, true)⟩,
 ⟨some 28, .iaddr 4 (.t 25) (.t 27), some (19, true)⟩,
 ⟨some 29, .faddr 0 (.t 28), some (19, true)⟩,
 ⟨some 30, .load 1 false (.t 29), some (19, true)⟩,
 ⟨some 31, .bin .leq (.t 24) (.t 30), some (19, true)⟩,
 ⟨some 32, .pick (.t 19) (.t 31) (.c (.bool false)), some (16, false)⟩,
 ⟨some 33, .pick (.t 16) (.c (.bool true)) (.t 32), none⟩] [(14, 20)])
 (.cond (.t 33) (.seq (.reg [⟨some 2, .mv (.c (.bool false)), none⟩])
 .ret)
 .skip)))
 (.reg [⟨some 8, .mv (.t 3), none⟩,
 ⟨some 9, .bin .add (.t 8) (.c (.int .i64 1)), none⟩,
 ⟨some 3, .mv (.t 9), none⟩]))))))
 (.seq (.reg [⟨some 34, .mv (.t 0), none⟩,
 ⟨some 35, .len false (.t 34), none⟩,
 ⟨some 36, .bin .leq (.t 35) (.c (.int .i64 8)), none⟩,
 ⟨some 2, .mv (.t 36), none⟩])
 .ret)))
def if_spec_SheetOk : IFn := ⟨37, [.inl 2], ib_spec_SheetOk, lcF []⟩
def ks_spec_SheetOk : List (List (Option Nat)) := [[none]]
def gl_spec_SheetOk_1 (a0 : (List Feat)) : List Feat → Nat → Option (Bool ⊕ Unit)
  | [], k20 => some (.inr ())
  | x21 :: l22, k20 => (gf_spec_FeatOk x21).bind fun x29 => if (!x29) = true then (some (.inl (false))) else (if (decide ((k20 : Int) > 0)) = true then ((idx a0 (IntKind.i64.wrap ((k20 : Int) - 1))).bind fun x31 => if (slt x21.id x31.id || seq x21.id x31.id) = true then (some (.inl (false))) else (gl_spec_SheetOk_1 a0 l22 (k20 + 1) )) else (gl_spec_SheetOk_1 a0 l22 (k20 + 1) ))
def gf_spec_SheetOk (a0 : (List Feat)) : Option Bool := if fits a0.length = true then ((gl_spec_SheetOk_1 a0 a0 0 ).bind fun q => match q with | .inl r => some r | .inr q18 => some ((decide ((a0.length : Int) ≤ 8)))) else none
def c_spec_SheetOk : Con := ⟨(List Feat), Bool, 26, fun a => [.ro (List.map (eFeat false) a)], fun a => gf_spec_SheetOk a, fun a r => ⟨[(false, [.v (.bool r)])], []⟩, fun a => []⟩
/-! spec.l7Find -/
def ib_spec_l7Find : IC :=
 (.seq (.reg [⟨some 2, .box 210 [some 115, some 130] (.t 0), none⟩,
 ⟨some 3, .box 115 [some 17, some 100, none] (.t 1), none⟩,
 ⟨some 4, .mv (.c (.int .i64 0)), none⟩])
 (.seq (.seq (.reg [⟨some 5, .mv (.c (.int .i64 0)), none⟩])
 (blkC 0 (.loop (.seq (.seq (.reg [⟨some 6, .mv (.t 5), none⟩,
 ⟨some 7, .faddr 0 (.t 2), none⟩,
 ⟨some 8, .load 1 false (.t 7), none⟩,
 ⟨some 9, .len false (.t 8), none⟩,
 ⟨some 10, .bin .lss (.t 6) (.t 9), none⟩])
 (.cond (.t 10) .skip
 (.exit 0)))
 (.seq (.block 1 (.seq (.drw [⟨some 13, .faddr 0 (.t 2), none⟩,
 ⟨some 14, .load 1 false (.t 13), none⟩,
 ⟨some 15, .mv (.t 5), none⟩,
 ⟨some 16, .iaddr 3 (.t 14) (.t 15), none⟩,
 ⟨some 17, .load 3 true (.t 16), none⟩,
 ⟨some 18, .load 3 true (.t 3), none⟩,
 ⟨some 19, .call 24 [(false, .t 17), (false, .t 18)], none⟩] [(1, 5), (4, 5)])
 (.cond (.t 19) (.seq (.reg [⟨some 20, .mv (.t 5), none⟩,
 ⟨some 4, .mv (.t 20), none⟩])
 .ret)
 .skip)))
 (.reg [⟨some 11, .mv (.t 5), none⟩,
 ⟨some 12, .bin .add (.t 11) (.c (.int .i64 1)), none⟩,
 ⟨some 5, .mv (.t 12), none⟩]))))))
 (.seq (.reg [⟨some 4, .mv (.c (.int .i64 (-1))), none⟩])
 .ret)))
def if_spec_l7Find : IFn := ⟨21, [.inl 4], ib_spec_l7Find, lcF []⟩
def ks_spec_l7Find : List (List (Option Nat)) := [[none]]
def gl_spec_l7Find_1 (a1 : Commit) : List Commit → Nat → Option (Int ⊕ Unit)
  | [], k24 => some (.inr ())
  | x25 :: l26, k24 => (gf_spec_l7Same x25 a1).bind fun x33 => if x33 = true then (some (.inl ((k24 : Int)))) else (gl_spec_l7Find_1 a1 l26 (k24 + 1) )
def gf_spec_l7Find (a0 : Repo) (a1 : Commit) : Option Int := if fits a0.commits.length = true then ((gl_spec_l7Find_1 a1 a0.commits 0 ).bind fun q => match q with | .inl r => some r | .inr q20 => some ((-1))) else none
def c_spec_l7Find : Con := ⟨Repo × Commit, Int, 27, fun a => [.agg [.ro (List.map (eCommit false) a.1.commits), .ro (List.map eHead a.1.heads)], .agg [.ro (List.map eInt a.2.up), .ro (List.map (eFeat false) a.2.sheet), .v (.string a.2.note)]], fun a => gf_spec_l7Find a.1 a.2, fun a r => ⟨[(false, [.v (.int .i64 r)])], []⟩, fun a => []⟩
/-! spec.l7Head -/
def ib_spec_l7Head : IC :=
 (.seq (.reg [⟨some 2, .box 210 [some 115, some 130] (.t 0), none⟩,
 ⟨some 4, .mv (.c (.int .i64 0)), none⟩])
 (.seq (.seq (.reg [⟨some 5, .mv (.c (.int .i64 0)), none⟩])
 (blkC 0 (.loop (.seq (.seq (.reg [⟨some 6, .mv (.t 5), none⟩,
 ⟨some 7, .faddr 1 (.t 2), none⟩,
 ⟨some 8, .load 1 false (.t 7), none⟩,
 ⟨some 9, .len false (.t 8), none⟩,
 ⟨some 10, .bin .lss (.t 6) (.t 9), none⟩])
 (.cond (.t 10) .skip
 (.exit 0)))
 (.seq (.block 1 (.seq (.reg [⟨some 13, .faddr 1 (.t 2), none⟩,
 ⟨some 14, .load 1 false (.t 13), none⟩,
 ⟨some 15, .mv (.t 5), none⟩,
 ⟨some 16, .iaddr 2 (.t 14) (.t 15), none⟩,
 ⟨some 17, .faddr 0 (.t 16), none⟩,
 ⟨some 18, .load 1 false (.t 17), none⟩,
 ⟨some 19, .mv (.t 1), none⟩,
 ⟨some 20, .bin .eql (.t 18) (.t 19), none⟩])
 (.cond (.t 20) (.seq (.reg [⟨some 21, .mv (.t 5), none⟩,
 ⟨some 4, .mv (.t 21), none⟩])
 .ret)
 .skip)))
 (.reg [⟨some 11, .mv (.t 5), none⟩,
 ⟨some 12, .bin .add (.t 11) (.c (.int .i64 1)), none⟩,
 ⟨some 5, .mv (.t 12), none⟩]))))))
 (.seq (.reg [⟨some 4, .mv (.c (.int .i64 (-1))), none⟩])
 .ret)))
def if_spec_l7Head : IFn := ⟨22, [.inl 4], ib_spec_l7Head, lcF []⟩
def ks_spec_l7Head : List (List (Option Nat)) := [[none]]
def gl_spec_l7Head_1 (a1 : Str) : List Head → Nat → Option (Int ⊕ Unit)
  | [], k14 => some (.inr ())
  | x15 :: l16, k14 => if (seq x15.name a1) = true then (some (.inl ((k14 : Int)))) else (gl_spec_l7Head_1 a1 l16 (k14 + 1) )
def gf_spec_l7Head (a0 : Repo) (a1 : Str) : Option Int := if fits a0.heads.length = true then ((gl_spec_l7Head_1 a1 a0.heads 0 ).bind fun q => match q with | .inl r => some r | .inr q11 => some ((-1))) else none
def c_spec_l7Head : Con := ⟨Repo × Str, Int, 28, fun a => [.agg [.ro (List.map (eCommit false) a.1.commits), .ro (List.map eHead a.1.heads)], .v (.string a.2)], fun a => gf_spec_l7Head a.1 a.2, fun a r => ⟨[(false, [.v (.int .i64 r)])], []⟩, fun a => []⟩
/-! spec.l1Copy -/
def ib_spec_l1Copy : IC :=
 (.seq (.reg [⟨some 1, .box 226 [none, some 66] (.t 0), none⟩,
 ⟨some 2, .alloc 226 [.v (.int .i64 0), .sl true 66 []], none⟩])
 (.seq (.drw [⟨some 3, .faddr 0 (.t 1), none⟩,
 ⟨some 4, .load 1 false (.t 3), none⟩,
 ⟨some 5, .lit 66 [none, none] [.v (.int .i64 0), .v (.int .i64 0)] 0 [], none⟩,
 ⟨some 6, .faddr 1 (.t 1), none⟩,
 ⟨some 7, .load 1 false (.t 6), none⟩,
 ⟨some 8, .app 66 false (.t 5) (.t 7), none⟩,
 ⟨some 9, .build [.v (.int .i64 0), .nil] [(0, 1, .t 4), (1, 1, .t 8)], none⟩,
 ⟨none, .store [none, some 66] (.t 2) (.t 9), none⟩] [(1, 2), (1, 4), (2, 4), (1, 5)])
 .ret))
def if_spec_l1Copy : IFn := ⟨10, [.inr (2, 2)], ib_spec_l1Copy, lcF []⟩
def ks_spec_l1Copy : List (List (Option Nat)) := [[none, some 66]]
def gf_spec_l1Copy (a0 : Shape) : Option Shape := if fits ([] ++ a0.pts).length = true then some ((⟨a0.kind, ([] ++ a0.pts)⟩ : Shape)) else none
def c_spec_l1Copy : Con := ⟨Shape, Shape, 29, fun a => [.agg [.v (.int .i64 a.kind), .ro (List.map ePt a.pts)]], fun a => gf_spec_l1Copy a, fun a r => ⟨[(true, eShape true r)], []⟩, fun a => []⟩
/-! spec.l2Copy -/
def ib_spec_l2Copy : IC :=
 (.seq (.reg [⟨some 1, .box 100 [none, none, some 66, some 82] (.t 0), none⟩,
 ⟨some 2, .alloc 100 [.v (.string ⟨#[]⟩), .v (.int .i64 0), .sl true 66 [], .sl true 82 []], none⟩])
 (.seq (.drw [⟨some 3, .faddr 0 (.t 1), none⟩,
 ⟨some 4, .load 1 false (.t 3), none⟩,
 ⟨some 5, .faddr 1 (.t 1), none⟩,
 ⟨some 6, .load 2 true (.t 5), none⟩,
 ⟨some 7, .call 29 [(false, .t 6)], none⟩,
 ⟨some 8, .lit 82 [none, none] [.v (.string ⟨#[]⟩), .v (.string ⟨#[]⟩)] 0 [], none⟩,
 ⟨some 9, .faddr 3 (.t 1), none⟩,
 ⟨some 10, .load 1 false (.t 9), none⟩,
 ⟨some 11, .app 82 false (.t 8) (.t 10), none⟩,
 ⟨some 12, .build [.v (.string ⟨#[]⟩), .v (.int .i64 0), .nil, .nil] [(0, 1, .t 4), (1, 2, .t 7), (3, 1, .t 11)], none⟩,
 ⟨none, .store [none, none, some 66, some 82] (.t 2) (.t 12), none⟩] [(1, 3), (1, 4), (1, 5), (3, 5), (4, 5), (1, 7), (3, 7), (4, 7), (5, 7), (1, 8)])
 .ret))
def if_spec_l2Copy : IFn := ⟨13, [.inr (2, 4)], ib_spec_l2Copy, lcF []⟩
def ks_spec_l2Copy : List (List (Option Nat)) := [[none, none, some 66, some 82]]
def gf_spec_l2Copy (a0 : Feat) : Option Feat := (gf_spec_l1Copy a0.shape).bind fun x3 => if fits ([] ++ a0.tags).length = true then some ((⟨a0.id, x3, ([] ++ a0.tags)⟩ : Feat)) else none
def c_spec_l2Copy : Con := ⟨Feat, Feat, 30, fun a => [.agg [.v (.string a.id), .v (.int .i64 a.shape.kind), .ro (List.map ePt a.shape.pts), .ro (List.map eTag a.tags)]], fun a => gf_spec_l2Copy a, fun a r => ⟨[(true, eFeat true r)], []⟩, fun a => []⟩
/-! spec.l3Copy -/
def ib_spec_l3Copy : IC :=
 (.seq (.reg [⟨some 2, .mv (.c (.slice none 0 0)), none⟩])
 (.seq (.reg [⟨some 5, .lit 100 [none, none, some 66, some 82] [.v (.string ⟨#[]⟩), .v (.int .i64 0), .sl true 66 [], .sl true 82 []] 0 [], none⟩,
 ⟨some 3, .mv (.t 5), none⟩])
 (.seq (.seq (.reg [⟨some 4, .mv (.c (.int .i64 0)), none⟩])
 (blkC 0 (.loop (.seq (.seq (.reg [⟨some 6, .mv (.t 4), none⟩,
 ⟨some 7, .mv (.t 0), none⟩,
 ⟨some 8, .len false (.t 7), none⟩,
 ⟨some 9, .bin .lss (.t 6) (.t 8), none⟩])
 (.cond (.t 9) .skip
 (.exit 0)))
 (.seq (.block 1 (.reg [⟨some 12, .mv (.t 3), none⟩,
 ⟨some 13, .mv (.t 0), none⟩,
 ⟨some 14, .mv (.t 4), none⟩,
 ⟨some 15, .iaddr 4 (.t 13) (.t 14), none⟩,
 ⟨some 16, .load 4 true (.t 15), none⟩,
 ⟨some 17, .call 30 [(false, .t 16)], none⟩,
 ⟨some 18, .lit 100 [none, none, some 66, some 82] [.v (.string ⟨#[]⟩), .v (.int .i64 0), .sl true 66 [], .sl true 82 []] 1 [(0, .t 17)], none⟩,
 ⟨some 19, .app 100 true (.t 12) (.t 18), none⟩,
 ⟨some 3, .mv (.t 19), none⟩]))
 (.reg [⟨some 10, .mv (.t 4), none⟩,
 ⟨some 11, .bin .add (.t 10) (.c (.int .i64 1)), none⟩,
 ⟨some 4, .mv (.t 11), none⟩]))))))
 (.seq (.reg [⟨some 20, .mv (.t 3), none⟩,
 ⟨some 2, .mv (.t 20), none⟩])
 .ret))))
def if_spec_l3Copy : IFn := ⟨21, [.inl 2], ib_spec_l3Copy, lcF []⟩
def ks_spec_l3Copy : List (List (Option Nat)) := [[some 100]]
def gl_spec_l3Copy_1 : List Feat → Nat → (List Feat) → Option (List Feat)
  | [], k49, v46 => some v46
  | x50 :: l51, k49, v46 => (gf_spec_l2Copy x50).bind fun x58 => if fits (v46 ++ ([x58] : (List Feat))).length = true then gl_spec_l3Copy_1 l51 (k49 + 1) (v46 ++ ([x58] : (List Feat))) else none
def gf_spec_l3Copy (a0 : (List Feat)) : Option (List Feat) := if fits a0.length = true then ((gl_spec_l3Copy_1 a0 0 []).bind fun q44 => some (q44)) else none
def c_spec_l3Copy : Con := ⟨(List Feat), (List Feat), 31, fun a => [.ro (List.map (eFeat false) a)], fun a => gf_spec_l3Copy a, fun a r => ⟨[(false, [sl true 100 (List.map (eFeat true) r)])], []⟩, fun a => []⟩
/-! spec.l7One -/
def ib_spec_l7One : IC :=
 (.seq (.reg [⟨some 1, .box 115 [some 17, some 100, none] (.t 0), none⟩,
 ⟨some 2, .alloc 115 [.sl true 17 [], .sl true 100 [], .v (.string ⟨#[]⟩)], none⟩])
 (.seq (.drw [⟨some 3, .lit 17 [none] [.v (.int .i64 0)] 0 [], none⟩,
 ⟨some 4, .faddr 0 (.t 1), none⟩,
 ⟨some 5, .load 1 false (.t 4), none⟩,
 ⟨some 6, .app 17 false (.t 3) (.t 5), none⟩,
 ⟨some 7, .faddr 1 (.t 1), none⟩,
 ⟨some 8, .load 1 false (.t 7), none⟩,
 ⟨some 9, .call 31 [(false, .t 8)], none⟩,
 ⟨some 10, .faddr 2 (.t 1), none⟩,
 ⟨some 11, .load 1 false (.t 10), none⟩,
 ⟨some 12, .build [.nil, .nil, .v (.string ⟨#[]⟩)] [(0, 1, .t 6), (1, 1, .t 9), (2, 1, .t 11)], none⟩,
 ⟨none, .store [some 17, some 100, none] (.t 2) (.t 12), none⟩] [(0, 2), (0, 5), (2, 5), (3, 5), (0, 8), (2, 8), (3, 8), (5, 8), (6, 8)])
 .ret))
def if_spec_l7One : IFn := ⟨13, [.inr (2, 3)], ib_spec_l7One, lcF []⟩
def ks_spec_l7One : List (List (Option Nat)) := [[some 17, some 100, none]]
def gf_spec_l7One (a0 : Commit) : Option Commit := if fits ([] ++ a0.up).length = true then (gf_spec_l3Copy a0.sheet).bind fun x7 => some ((⟨([] ++ a0.up), x7, a0.note⟩ : Commit)) else none
def c_spec_l7One : Con := ⟨Commit, Commit, 32, fun a => [.agg [.ro (List.map eInt a.up), .ro (List.map (eFeat false) a.sheet), .v (.string a.note)]], fun a => gf_spec_l7One a, fun a r => ⟨[(true, eCommit true r)], []⟩, fun a => []⟩
/-! spec.RepoOk -/
def ib_spec_RepoOk : IC :=
 (.seq (.reg [⟨some 1, .box 210 [some 115, some 130] (.t 0), none⟩,
 ⟨some 2, .mv (.c (.bool false)), none⟩])
 (.seq (.seq (.reg [⟨some 7, .faddr 0 (.t 1), none⟩,
 ⟨some 8, .load 1 false (.t 7), none⟩,
 ⟨some 9, .len false (.t 8), none⟩,
 ⟨some 10, .bin .lss (.t 9) (.c (.int .i64 1)), none⟩,
 ⟨some 11, .mv (.t 10), none⟩,
 ⟨some 12, .faddr 0 (.t 1), some (11, false)⟩,
 ⟨some 13, .load 1 false (.t 12), some (11, false)⟩,
 ⟨some 14, .len false (.t 13), some (11, false)⟩,
 ⟨some 15, .bin .gtr (.t 14) (.c (.int .i64 14)), some (11, false)⟩,
 ⟨some 16, .pick (.t 11) (.c (.bool true)) (.t 15), none⟩,
 ⟨some 17, .mv (.t 16), none⟩,
 ⟨some 18, .faddr 1 (.t 1), some (17, false)⟩,
 ⟨some 19, .load 1 false (.t 18), some (17, false)⟩,
 ⟨some 20, .len false (.t 19), some (17, false)⟩,
 ⟨some 21, .bin .lss (.t 20) (.c (.int .i64 1)), some (17, false)⟩,
 ⟨some 22, .pick (.t 17) (.c (.bool true)) (.t 21), none⟩,
 ⟨some 23, .mv (.t 22), none⟩,
 ⟨some 24, .faddr 1 (.t 1), some (23, false)⟩,
 ⟨some 25, .load 1 false (.t 24), some (23, false)⟩,
 ⟨some 26, .len false (.t 25), some (23, false)⟩,
 ⟨some 27, .bin .gtr (.t 26) (.c (.int .i64 4)), some (23, false)⟩,
 ⟨some 28, .pick (.t 23) (.c (.bool true)) (.t 27), none⟩])
 (.cond (.t 28) (.seq (.reg [⟨some 2, .mv (.c (.bool false)), none⟩])
 .ret)
 .skip))
 (.seq (.seq (.reg [⟨some 3, .mv (.c (.int .i64 0)), none⟩])
 (blkC 0 (.loop (.seq (.seq (.reg [⟨some 29, .mv (.t 3), none⟩,
 ⟨some 30, .faddr 0 (.t 1), none⟩,
 ⟨some 31, .load 1 false (.t 30), none⟩,
 ⟨some 32, .len false (.t 31), none⟩,
 ⟨some 33, .bin .lss (.t 29) (.t 32), none⟩])
 (.cond (.t 33) .skip
 (.exit 0)))
 (.seq (.block 1 (.seq (.reg [⟨some 36, .faddr 0 (.t 1), none⟩,
 ⟨some 37, .load 1 false (.t 36), none⟩,
 ⟨some 38, .mv (.t 3), none⟩,
 ⟨some 39, .iaddr 3 (.t 37) (.t 38), none⟩,
 ⟨some 40, .load 3 true (.t 39), none⟩,
 ⟨some 4, .alloc 115 [.sl true 17 [], .sl true 100 [], .v (.string ⟨#[]⟩)], none⟩,
 ⟨none, .store [some 17, some 100, none] (.t 4) (.t 40), none⟩])
 (.seq (.reg [⟨some 41, .faddr 0 (.t 4), none⟩,
 ⟨some 42, .load 1 false (.t 41), none⟩,
 ⟨some 43, .mv (.t 3), none⟩,
 ⟨some 44, .call 25 [(false, .t 42), (false, .t 43)], none⟩,
 ⟨some 45, .un .not (.t 44), none⟩,
 ⟨some 46, .mv (.t 45), none⟩,
 ⟨some 47, .faddr 1 (.t 4), some (46, false)⟩,
 ⟨some 48, .load 1 false (.t 47), some (46, false)⟩,
 ⟨some 49, .call 26 [(false, .t 48)], some (46, false)⟩,
 ⟨some 50, .un .not (.t 49), some (46, false)⟩,
 ⟨some 51, .pick (.t 46) (.c (.bool true)) (.t 50), none⟩,
 ⟨some 52, .mv (.t 51), none⟩,
 ⟨some 53, .faddr 2 (.t 4), some (52, false)⟩,
 ⟨some 54, .load 1 false (.t 53), some (52, false)⟩,
 ⟨some 55, .call 14 [(false, .t 54)], some (52, false)⟩,
 ⟨some 56, .un .not (.t 55), some (52, false)⟩,
 ⟨some 57, .pick (.t 52) (.c (.bool true)) (.t 56), none⟩,
 ⟨some 58, .mv (.t 57), none⟩,
 ⟨some 59, .load 2 true (.t 1), some (58, false)⟩,
 ⟨some 60, .load 3 true (.t 4), some (58, false)⟩,
 ⟨some 61, .call 27 [(false, .t 59), (false, .t 60)], some (58, false)⟩,
 ⟨some 62, .mv (.t 3), some (58, false)⟩,
 ⟨some 63, .bin .neq (.t 61) (.t 62), some (58, false)⟩,
 ⟨some 64, .pick (.t 58) (.c (.bool true)) (.t 63), none⟩])
 (.cond (.t 64) (.seq (.reg [⟨some 2, .mv (.c (.bool false)), none⟩])
 .ret)
 .skip))))
 (.reg [⟨some 34, .mv (.t 3), none⟩,
 ⟨some 35, .bin .add (.t 34) (.c (.int .i64 1)), none⟩,
 ⟨some 3, .mv (.t 35), none⟩]))))))
 (.seq (.seq (.reg [⟨some 5, .mv (.c (.int .i64 0)), none⟩])
 (blkC 2 (.loop (.seq (.seq (.reg [⟨some 65, .mv (.t 5), none⟩,
 ⟨some 66, .faddr 1 (.t 1), none⟩,
 ⟨some 67, .load 1 false (.t 66), none⟩,
 ⟨some 68, .len false (.t 67), none⟩,
 ⟨some 69, .bin .lss (.t 65) (.t 68), none⟩])
 (.cond (.t 69) .skip
 (.exit 2)))
 (.seq (.block 3 (.seq (.reg [⟨some 72, .faddr 1 (.t 1), none⟩,
 ⟨some 73, .load 1 false (.t 72), none⟩,
 ⟨some 74, .mv (.t 5), none⟩,
 ⟨some 75, .iaddr 2 (.t 73) (.t 74), none⟩,
 ⟨some 76, .load 2 true (.t 75), none⟩,
 ⟨some 6, .alloc 130 [.v (.string ⟨#[]⟩), .v (.int .i64 0)], none⟩,
 ⟨none, .store [none, none] (.t 6) (.t 76), none⟩])
 (.seq (.reg [⟨some 77, .faddr 0 (.t 6), none⟩,
 ⟨some 78, .load 1 false (.t 77), none⟩,
 ⟨some 79, .call 14 [(false, .t 78)], none⟩,
 ⟨some 80, .un .not (.t 79), none⟩,
 ⟨some 81, .mv (.t 80), none⟩,
 ⟨some 82, .load 2 true (.t 1), some (81, false)⟩,
 ⟨some 83, .faddr 0 (.t 6), some (81, false)⟩,
 ⟨some 84, .load 1 false (.t 83), some (81, false)⟩,
 ⟨some 85, .call 28 [(false, .t 82), (false, .t 84)], some (81, false)⟩,
 ⟨some 86, .mv (.t 5), some (81, false)⟩,
 ⟨some 87, .bin .neq (.t 85) (.t 86), some (81, false)⟩,
 ⟨some 88, .pick (.t 81) (.c (.bool true)) (.t 87), none⟩,
 ⟨some 89, .mv (.t 88), none⟩,
 ⟨some 90, .faddr 1 (.t 6), some (89, false)⟩,
 ⟨some 91, .load 1 false (.t 90), some (89, false)⟩,
 ⟨some 92, .bin .lss (.t 91) (.c (.int .i64 0)), some (89, false)⟩,
 ⟨some 93, .pick (.t 89) (.c (.bool true)) (.t 92), none⟩,
 ⟨some 94, .mv (.t 93), none⟩,
 ⟨some 95, .faddr 1 (.t 6), some (94, false)⟩,
 ⟨some 96, .load 1 false (.t 95), some (94, false)⟩,
 ⟨some 97, .faddr 0 (.t 1), some (94, false)⟩,
 ⟨some 98, .load 1 false (.t 97), some (94, false)⟩,
 ⟨some 99, .len false (.t 98), some (94, false)⟩,
 ⟨some 100, .bin .geq (.t 96) (.t 99), some (94, false)⟩,
 ⟨some 101, .pick (.t 94) (.c (.bool true)) (.t 100), none⟩])
 (.cond (.t 101) (.seq (.reg [⟨some 2, .mv (.c (.bool false)), none⟩])
 .ret)
 .skip))))
 (.reg [⟨some 70, .mv (.t 5), none⟩,
 ⟨some 71, .bin .add (.t 70) (.c (.int .i64 1)), none⟩,
 ⟨some 5, .mv (.t 71), none⟩]))))))
 (.seq (.reg [⟨some 2, .mv (.c (.bool true)), none⟩])
 .ret)))))
def if_spec_RepoOk : IFn := ⟨102, [.inl 2], ib_spec_RepoOk, lcF []⟩
def ks_spec_RepoOk : List (List (Option Nat)) := [[none]]
def gl_spec_RepoOk_1 (a0 : Repo) : List Commit → Nat → Option (Bool ⊕ Unit)
  | [], k41 => some (.inr ())
  | x42 :: l43, k41 => (gf_spec_l7Up x42.up (k41 : Int)).bind fun x51 => if (!x51) = true then (some (.inl (false))) else ((gf_spec_SheetOk x42.sheet).bind fun x53 => if (!x53) = true then (some (.inl (false))) else ((gf_spec_WordOk x42.note).bind fun x55 => if (!x55) = true then (some (.inl (false))) else ((gf_spec_l7Find a0 x42).bind fun x57 => if (x57 != (k41 : Int)) = true then (some (.inl (false))) else (gl_spec_RepoOk_1 a0 l43 (k41 + 1) ))))
def gl_spec_RepoOk_2 (a0 : Repo) : List Head → Nat → Option (Bool ⊕ Unit)
  | [], k87 => some (.inr ())
  | x88 :: l89, k87 => (gf_spec_WordOk x88.name).bind fun x97 => if (!x97) = true then (some (.inl (false))) else ((gf_spec_l7Head a0 x88.name).bind fun x99 => if (x99 != (k87 : Int)) = true then (some (.inl (false))) else (if (decide (x88.at_ < 0)) = true then (some (.inl (false))) else (if (decide (x88.at_ ≥ (a0.commits.length : Int))) = true then (some (.inl (false))) else (gl_spec_RepoOk_2 a0 l89 (k87 + 1) ))))
def gf_spec_RepoOk (a0 : Repo) : Option Bool := if (decide ((a0.commits.length : Int) < 1)) = true then (some (false)) else (if (decide ((a0.commits.length : Int) > 14)) = true then (some (false)) else (if (decide ((a0.heads.length : Int) < 1)) = true then (some (false)) else (if (decide ((a0.heads.length : Int) > 4)) = true then (some (false)) else (if fits a0.commits.length = true then ((gl_spec_RepoOk_1 a0 a0.commits 0 ).bind fun q => match q with | .inl r => some r | .inr q38 => if fits a0.heads.length = true then ((gl_spec_RepoOk_2 a0 a0.heads 0 ).bind fun q => match q with | .inl r => some r | .inr q84 => some (true)) else none) else none))))
def c_spec_RepoOk : Con := ⟨Repo, Bool, 33, fun a => [.agg [.ro (List.map (eCommit false) a.commits), .ro (List.map eHead a.heads)]], fun a => gf_spec_RepoOk a, fun a r => ⟨[(false, [.v (.bool r)])], []⟩, fun a => []⟩
/-! spec.l7In -/
def ib_spec_l7In : IC :=
 (.seq (.reg [⟨some 2, .box 210 [some 115, some 130] (.t 0), none⟩,
 ⟨some 4, .mv (.c (.bool false)), none⟩])
 (.seq (.reg [⟨some 5, .load 2 true (.t 2), none⟩,
 ⟨some 6, .call 33 [(false, .t 5)], none⟩,
 ⟨some 7, .mv (.t 6), none⟩,
 ⟨some 8, .mv (.t 1), some (7, true)⟩,
 ⟨some 9, .bin .geq (.t 8) (.c (.int .i64 0)), some (7, true)⟩,
 ⟨some 10, .pick (.t 7) (.t 9) (.c (.bool false)), none⟩,
 ⟨some 11, .mv (.t 10), none⟩,
 ⟨some 12, .mv (.t 1), some (11, true)⟩,
 ⟨some 13, .faddr 0 (.t 2), some (11, true)⟩,
 ⟨some 14, .load 1 false (.t 13), some (11, true)⟩,
 ⟨some 15, .len false (.t 14), some (11, true)⟩,
 ⟨some 16, .bin .lss (.t 12) (.t 15), some (11, true)⟩,
 ⟨some 17, .pick (.t 11) (.t 16) (.c (.bool false)), none⟩,
 ⟨some 4, .mv (.t 17), none⟩])
 .ret))
def if_spec_l7In : IFn := ⟨18, [.inl 4], ib_spec_l7In, lcF []⟩
def ks_spec_l7In : List (List (Option Nat)) := [[none]]
def gf_spec_l7In (a0 : Repo) (a1 : Int) : Option Bool := (gf_spec_RepoOk a0).bind fun x2 => if x2 = true then (if (decide (a1 ≥ 0)) = true then (some ((decide (a1 < (a0.commits.length : Int))))) else (some (false))) else (some (false))
def c_spec_l7In : Con := ⟨Repo × Int, Bool, 34, fun a => [.agg [.ro (List.map (eCommit false) a.1.commits), .ro (List.map eHead a.1.heads)], .v (.int .i64 a.2)], fun a => gf_spec_l7In a.1 a.2, fun a r => ⟨[(false, [.v (.bool r)])], []⟩, fun a => []⟩
/-! spec.l7Marks -/
def ib_spec_l7Marks : IC :=
 (.seq (.reg [⟨some 2, .box 210 [some 115, some 130] (.t 0), none⟩,
 ⟨some 4, .mv (.c (.slice none 0 0)), none⟩])
 (.seq (.reg [⟨some 9, .faddr 0 (.t 2), none⟩,
 ⟨some 10, .load 1 false (.t 9), none⟩,
 ⟨some 11, .len false (.t 10), none⟩,
 ⟨some 12, .mks 33 [.v (.bool false)] (.t 11) (.t 11), none⟩,
 ⟨some 5, .mv (.t 12), none⟩])
 (.seq (.seq (.reg [⟨some 6, .mv (.c (.int .i64 0)), none⟩])
 (blkC 0 (.loop (.seq (.seq (.reg [⟨some 13, .mv (.t 6), none⟩,
 ⟨some 14, .mv (.t 1), none⟩,
 ⟨some 15, .len false (.t 14), none⟩,
 ⟨some 16, .bin .lss (.t 13) (.t 15), none⟩])
 (.cond (.t 16) .skip
 (.exit 0)))
 (.seq (.block 1 (.reg [⟨some 19, .mv (.t 5), none⟩,
 ⟨some 20, .mv (.t 1), none⟩,
 ⟨some 21, .mv (.t 6), none⟩,
 ⟨some 22, .iaddr 1 (.t 20) (.t 21), none⟩,
 ⟨some 23, .load 1 false (.t 22), none⟩,
 ⟨some 24, .iaddr 1 (.t 19) (.t 23), none⟩,
 ⟨none, .store [none] (.t 24) (.c (.bool true)), none⟩]))
 (.reg [⟨some 17, .mv (.t 6), none⟩,
 ⟨some 18, .bin .add (.t 17) (.c (.int .i64 1)), none⟩,
 ⟨some 6, .mv (.t 18), none⟩]))))))
 (.seq (.seq (.reg [⟨some 25, .faddr 0 (.t 2), none⟩,
 ⟨some 26, .load 1 false (.t 25), none⟩,
 ⟨some 27, .len false (.t 26), none⟩,
 ⟨some 28, .bin .sub (.t 27) (.c (.int .i64 1)), none⟩,
 ⟨some 7, .mv (.t 28), none⟩])
 (blkC 2 (.loop (.seq (.seq (.reg [⟨some 29, .mv (.t 7), none⟩,
 ⟨some 30, .bin .geq (.t 29) (.c (.int .i64 0)), none⟩])
 (.cond (.t 30) .skip
 (.exit 2)))
 (.seq (.block 3 (.seq (.reg [⟨some 8, .mv (.c (.int .i64 0)), none⟩])
 (blkC 4 (.loop (.seq (.seq (.reg [⟨some 33, .mv (.t 8), none⟩,
 ⟨some 34, .faddr 0 (.t 2), none⟩,
 ⟨some 35, .load 1 false (.t 34), none⟩,
 ⟨some 36, .mv (.t 7), none⟩,
 ⟨some 37, .iaddr 3 (.t 35) (.t 36), none⟩,
 ⟨some 38, .faddr 0 (.t 37), none⟩,
 ⟨some 39, .load 1 false (.t 38), none⟩,
 ⟨some 40, .len false (.t 39), none⟩,
 ⟨some 41, .bin .lss (.t 33) (.t 40), none⟩,
 ⟨some 42, .mv (.t 41), none⟩,
 ⟨some 43, .mv (.t 5), some (42, true)⟩,
 ⟨some 44, .mv (.t 7), some (42, true)⟩,
 ⟨some 45, .iaddr 1 (.t 43) (.t 44), some (42, true)⟩,
 ⟨some 46, .load 1 false (.t 45), some (42, true)⟩,
 ⟨some 47, .pick (.t 42) (.t 46) (.c (.bool false)), none⟩])
 (.cond (.t 47) .skip
 (.exit 4)))
 (.seq (.block 5 (.reg [⟨some 50, .mv (.t 5), none⟩,
 ⟨some 51, .faddr 0 (.t 2), none⟩,
 ⟨some 52, .load 1 false (.t 51), none⟩,
 ⟨some 53, .mv (.t 7), none⟩,
 ⟨some 54, .iaddr 3 (.t 52) (.t 53), none⟩,
 ⟨some 55, .faddr 0 (.t 54), none⟩,
 ⟨some 56, .load 1 false (.t 55), none⟩,
 ⟨some 57, .mv (.t 8), none⟩,
 ⟨some 58, .iaddr 1 (.t 56) (.t 57), none⟩,
 ⟨some 59, .load 1 false (.t 58), none⟩,
 ⟨some 60, .iaddr 1 (.t 50) (.t 59), none⟩,
 ⟨none, .store [none] (.t 60) (.c (.bool true)), none⟩]))
 (.reg [⟨some 48, .mv (.t 8), none⟩,
 ⟨some 49, .bin .add (.t 48) (.c (.int .i64 1)), none⟩,
 ⟨some 8, .mv (.t 49), none⟩])))))))
 (.reg [⟨some 31, .mv (.t 7), none⟩,
 ⟨some 32, .bin .sub (.t 31) (.c (.int .i64 1)), none⟩,
 ⟨some 7, .mv (.t 32), none⟩]))))))
 (.seq (.reg [⟨some 61, .mv (.t 5), none⟩,
 ⟨some 4, .mv (.t 61), none⟩])
 .ret)))))
def if_spec_l7Marks : IFn := ⟨62, [.inl 4], ib_spec_l7Marks, lcF []⟩
def ks_spec_l7Marks : List (List (Option Nat)) := [[some 33]]
def gl_spec_l7Marks_1 : List Int → Nat → (List Bool) → Option (List Bool)
  | [], k31, v28 => some v28
  | x32 :: l33, k31, v28 => (idx v28 x32).bind fun x40 => gl_spec_l7Marks_1 l33 (k31 + 1) (List.set v28 x32.toNat true)
def gl_spec_l7Marks_6 (a0 : Repo) (v208 : Int) : Nat → Int → (List Bool) → Option (List Bool)
  | 0, _, _ => none
  | n252 + 1, v247, v249 => (idx a0.commits v208).bind fun x253 => if (decide (v247 < (x253.up.length : Int))) = true then ((idx v249 v208).bind fun x255 => if x255 = true then ((idx x253.up v247).bind fun x257 => (idx v249 x257).bind fun x259 => gl_spec_l7Marks_6 a0 v208 n252 (IntKind.i64.wrap (v247 + 1)) (List.set v249 x257.toNat true)) else (some v249)) else (some v249)
def gl_spec_l7Marks_5 (a0 : Repo) : Nat → Int → (List Bool) → Option (List Bool)
  | 0, _, _ => none
  | n213 + 1, v208, v210 => if (decide (v208 ≥ 0)) = true then ((gl_spec_l7Marks_6 a0 v208 rounds 0 v210).bind fun q246 => gl_spec_l7Marks_5 a0 n213 (IntKind.i64.wrap (v208 - 1)) q246) else (some v210)
def gf_spec_l7Marks (a0 : Repo) (a1 : (List Int)) : Option (List Bool) := if (decide (0 ≤ (a0.commits.length : Int)) && fits ((a0.commits.length : Int)).toNat) = true then if fits a1.length = true then ((gl_spec_l7Marks_1 a1 0 (List.replicate ((a0.commits.length : Int)).toNat false)).bind fun q25 => (gl_spec_l7Marks_5 a0 rounds (IntKind.i64.wrap ((a0.commits.length : Int) - 1)) q25).bind fun q207 => some (q207)) else none else none
def c_spec_l7Marks : Con := ⟨Repo × (List Int), (List Bool), 35, fun a => [.agg [.ro (List.map (eCommit false) a.1.commits), .ro (List.map eHead a.1.heads)], .ro (List.map eInt a.2)], fun a => gf_spec_l7Marks a.1 a.2, fun a r => ⟨[(false, [sl true 33 (List.map eBool r)])], []⟩, fun a => []⟩
/-! spec.RepoBases -/
def ib_spec_RepoBases : IC :=
 (.seq (.reg [⟨some 3, .box 210 [some 115, some 130] (.t 0), none⟩,
 ⟨some 6, .mv (.c (.slice none 0 0)), none⟩])
 (.seq (.reg [⟨some 13, .lit 17 [none] [.v (.int .i64 0)] 0 [], none⟩,
 ⟨some 7, .mv (.t 13), none⟩])
 (.seq (.seq (.reg [⟨some 14, .load 2 true (.t 3), none⟩,
 ⟨some 15, .mv (.t 1), none⟩,
 ⟨some 16, .call 34 [(false, .t 14), (false, .t 15)], none⟩,
 ⟨some 17, .un .not (.t 16), none⟩,
 ⟨some 18, .mv (.t 17), none⟩,
 ⟨some 19, .load 2 true (.t 3), some (18, false)⟩,
 ⟨some 20, .mv (.t 2), some (18, false)⟩,
 ⟨some 21, .call 34 [(false, .t 19), (false, .t 20)], some (18, false)⟩,
 ⟨some 22, .un .not (.t 21), some (18, false)⟩,
 ⟨some 23, .pick (.t 18) (.c (.bool true)) (.t 22), none⟩])
 (.cond (.t 23) (.seq (.reg [⟨some 24, .mv (.t 7), none⟩,
 ⟨some 6, .mv (.t 24), none⟩])
 .ret)
 .skip))
 (.seq (.reg [⟨some 25, .load 2 true (.t 3), none⟩,
 ⟨some 26, .mv (.t 1), none⟩,
 ⟨some 27, .lit 17 [none] [.v (.int .i64 0)] 1 [(0, .t 26)], none⟩,
 ⟨some 28, .call 35 [(false, .t 25), (false, .t 27)], none⟩,
 ⟨some 8, .mv (.t 28), none⟩])
 (.seq (.reg [⟨some 29, .load 2 true (.t 3), none⟩,
 ⟨some 30, .mv (.t 2), none⟩,
 ⟨some 31, .lit 17 [none] [.v (.int .i64 0)] 1 [(0, .t 30)], none⟩,
 ⟨some 32, .call 35 [(false, .t 29), (false, .t 31)], none⟩,
 ⟨some 9, .mv (.t 32), none⟩])
 (.seq (.reg [⟨some 33, .faddr 0 (.t 3), none⟩,
 ⟨some 34, .load 1 false (.t 33), none⟩,
 ⟨some 35, .len false (.t 34), none⟩,
 ⟨some 36, .mks 33 [.v (.bool false)] (.t 35) (.t 35), none⟩,
 ⟨some 10, .mv (.t 36), none⟩])
 (.seq (.seq (.reg [⟨some 37, .faddr 0 (.t 3), none⟩,
 ⟨some 38, .load 1 false (.t 37), none⟩,
 ⟨some 39, .len false (.t 38), none⟩,
 ⟨some 40, .bin .sub (.t 39) (.c (.int .i64 1)), none⟩,
 ⟨some 11, .mv (.t 40), none⟩])
 (blkC 0 (.loop (.seq (.seq (.reg [⟨some 41, .mv (.t 11), none⟩,
 ⟨some 42, .bin .geq (.t 41) (.c (.int .i64 0)), none⟩])
 (.cond (.t 42) .skip
 (.exit 0)))
 (.seq (.block 1 (.seq (.seq (.reg [⟨some 45, .mv (.t 8), none⟩,
 ⟨some 46, .mv (.t 11), none⟩,
 ⟨some 47, .iaddr 1 (.t 45) (.t 46), none⟩,
 ⟨some 48, .load 1 false (.t 47), none⟩,
 ⟨some 49, .un .not (.t 48), none⟩,
 ⟨some 50, .mv (.t 49), none⟩,
 ⟨some 51, .mv (.t 9), some (50, false)⟩,
 ⟨some 52, .mv (.t 11), some (50, false)⟩,
 ⟨some 53, .iaddr 1 (.t 51) (.t 52), some (50, false)⟩,
 ⟨some 54, .load 1 false (.t 53), some (50, false)⟩,
 ⟨some 55, .un .not (.t 54), some (50, false)⟩,
 ⟨some 56, .pick (.t 50) (.c (.bool true)) (.t 55), none⟩])
 (.cond (.t 56) (.exit 1)
 .skip))
 (seqC (.seq (.reg [⟨some 57, .mv (.t 10), none⟩,
 ⟨some 58, .mv (.t 11), none⟩,
 ⟨some 59, .iaddr 1 (.t 57) (.t 58), none⟩,
 ⟨some 60, .load 1 false (.t 59), none⟩,
 ⟨some 61, .un .not (.t 60), none⟩])
 (.cond (.t 61) (.reg [⟨some 62, .mv (.t 7), none⟩,
 ⟨some 63, .mv (.t 11), none⟩,
 ⟨some 64, .lit 17 [none] [.v (.int .i64 0)] 1 [(0, .t 63)], none⟩,
 ⟨some 65, .app 17 true (.t 62) (.t 64), none⟩,
 ⟨some 7, .mv (.t 65), none⟩])
 .skip))
 (.seq (.reg [⟨some 12, .mv (.c (.int .i64 0)), none⟩])
 (blkC 2 (.loop (.seq (.seq (.reg [⟨some 66, .mv (.t 12), none⟩,
 ⟨some 67, .faddr 0 (.t 3), none⟩,
 ⟨some 68, .load 1 false (.t 67), none⟩,
 ⟨some 69, .mv (.t 11), none⟩,
 ⟨some 70, .iaddr 3 (.t 68) (.t 69), none⟩,
 ⟨some 71, .faddr 0 (.t 70), none⟩,
 ⟨some 72, .load 1 false (.t 71), none⟩,
 ⟨some 73, .len false (.t 72), none⟩,
 ⟨some 74, .bin .lss (.t 66) (.t 73), none⟩])
 (.cond (.t 74) .skip
 (.exit 2)))
 (.seq (.block 3 (.reg [⟨some 77, .mv (.t 10), none⟩,
 ⟨some 78, .faddr 0 (.t 3), none⟩,
 ⟨some 79, .load 1 false (.t 78), none⟩,
 ⟨some 80, .mv (.t 11), none⟩,
 ⟨some 81, .iaddr 3 (.t 79) (.t 80), none⟩,
 ⟨some 82, .faddr 0 (.t 81), none⟩,
 ⟨some 83, .load 1 false (.t 82), none⟩,
 ⟨some 84, .mv (.t 12), none⟩,
 ⟨some 85, .iaddr 1 (.t 83) (.t 84), none⟩,
 ⟨some 86, .load 1 false (.t 85), none⟩,
 ⟨some 87, .iaddr 1 (.t 77) (.t 86), none⟩,
 ⟨none, .store [none] (.t 87) (.c (.bool true)), none⟩]))
 (.reg [⟨some 75, .mv (.t 12), none⟩,
 ⟨some 76, .bin .add (.t 75) (.c (.int .i64 1)), none⟩,
 ⟨some 12, .mv (.t 76), none⟩])))))))))
 (.reg [⟨some 43, .mv (.t 11), none⟩,
 ⟨some 44, .bin .sub (.t 43) (.c (.int .i64 1)), none⟩,
 ⟨some 11, .mv (.t 44), none⟩]))))))
 (.seq (.reg [⟨some 88, .mv (.t 7), none⟩,
 ⟨some 6, .mv (.t 88), none⟩])
 .ret))))))))
def if_spec_RepoBases : IFn := ⟨89, [.inl 6], ib_spec_RepoBases, lcF []⟩
def ks_spec_RepoBases : List (List (Option Nat)) := [[some 17]]
def gl_spec_RepoBases_5 (a0 : Repo) (v324 : Int) : Nat → Int → (List Bool) → Option (List Bool)
  | 0, _, _ => none
  | n414 + 1, v403, v411 => (idx a0.commits v324).bind fun x415 => if (decide (v403 < (x415.up.length : Int))) = true then ((idx x415.up v403).bind fun x417 => (idx v411 x417).bind fun x419 => gl_spec_RepoBases_5 a0 v324 n414 (IntKind.i64.wrap (v403 + 1)) (List.set v411 x417.toNat true)) else (some v411)
def gl_spec_RepoBases_4 (x8 : (List Bool)) (x13 : (List Bool)) (a0 : Repo) : Nat → Int → (List Int) → (List Bool) → Option (List Int)
  | 0, _, _, _ => none
  | n336 + 1, v324, v326, v333 => if (decide (v324 ≥ 0)) = true then ((idx x8 v324).bind fun x337 => if (!x337) = true then (gl_spec_RepoBases_4 x8 x13 a0 n336 (IntKind.i64.wrap (v324 - 1)) v326 v333) else ((idx x13 v324).bind fun x339 => if (!x339) = true then (gl_spec_RepoBases_4 x8 x13 a0 n336 (IntKind.i64.wrap (v324 - 1)) v326 v333) else ((((idx v333 v324).bind fun x348 => if (!x348) = true then (if fits (v326 ++ ([v324] : (List Int))).length = true then some (v326 ++ ([v324] : (List Int))) else none) else (some v326) : Option (List Int))).bind fun q347 => (gl_spec_RepoBases_5 a0 v324 rounds 0 v333).bind fun q402 => gl_spec_RepoBases_4 x8 x13 a0 n336 (IntKind.i64.wrap (v324 - 1)) q347 q402))) else (some v326)
def gf_spec_RepoBases (a0 : Repo) (a1 : Int) (a2 : Int) : Option (List Int) := (gf_spec_l7In a0 a1).bind fun x3 => if (!x3) = true then (some (([] : (List Int)))) else ((gf_spec_l7In a0 a2).bind fun x5 => if (!x5) = true then (some (([] : (List Int)))) else ((gf_spec_l7Marks a0 ([a1] : (List Int))).bind fun x8 => (gf_spec_l7Marks a0 ([a2] : (List Int))).bind fun x13 => if (decide (0 ≤ (a0.commits.length : Int)) && fits ((a0.commits.length : Int)).toNat) = true then (gl_spec_RepoBases_4 x8 x13 a0 rounds (IntKind.i64.wrap ((a0.commits.length : Int) - 1)) [] (List.replicate ((a0.commits.length : Int)).toNat false)).bind fun q323 => some (q323) else none))
def c_spec_RepoBases : Con := ⟨Repo × Int × Int, (List Int), 36, fun a => [.agg [.ro (List.map (eCommit false) a.1.commits), .ro (List.map eHead a.1.heads)], .v (.int .i64 a.2.1), .v (.int .i64 a.2.2)], fun a => gf_spec_RepoBases a.1 a.2.1 a.2.2, fun a r => ⟨[(false, [sl true 17 (List.map eInt r)])], []⟩, fun a => []⟩
/-! spec.l3Put -/
def ib_spec_l3Put : IC :=
 (.seq (.reg [⟨some 3, .box 100 [none, none, some 66, some 82] (.t 1), none⟩,
 ⟨some 4, .mv (.c (.slice none 0 0)), none⟩])
 (.seq (.reg [⟨some 8, .lit 100 [none, none, some 66, some 82] [.v (.string ⟨#[]⟩), .v (.int .i64 0), .sl true 66 [], .sl true 82 []] 0 [], none⟩,
 ⟨some 5, .mv (.t 8), none⟩])
 (.seq (.reg [⟨some 6, .mv (.c (.bool false)), none⟩])
 (.seq (.seq (.reg [⟨some 7, .mv (.c (.int .i64 0)), none⟩])
 (blkC 0 (.loop (.seq (.seq (.reg [⟨some 9, .mv (.t 7), none⟩,
 ⟨some 10, .mv (.t 0), none⟩,
 ⟨some 11, .len false (.t 10), none⟩,
 ⟨some 12, .bin .lss (.t 9) (.t 11), none⟩])
 (.cond (.t 12) .skip
 (.exit 0)))
 (.seq (.block 1 (seqC (.seq (.drw [⟨some 15, .mv (.t 6), none⟩,
 ⟨some 16, .un .not (.t 15), none⟩,
 ⟨some 17, .mv (.t 16), none⟩,
 ⟨some 18, .mv (.t 0), some (17, true)⟩,
 ⟨some 19, .mv (.t 7), some (17, true)⟩,
 ⟨some 20, .iaddr 4 (.t 18) (.t 19), some (17, true)⟩,
 ⟨some 21, .faddr 0 (.t 20), some (17, true)⟩,
 ⟨some 22, .load 1 false (.t 21), some (17, true)⟩,
 ⟨some 23, .faddr 0 (.t 3), some (17, true)⟩,
 ⟨some 24, .load 1 false (.t 23), some (17, true)⟩,
 ⟨some 25, .bin .geq (.t 22) (.t 24), some (17, true)⟩,
 ⟨some 26, .pick (.t 17) (.t 25) (.c (.bool false)), none⟩] [(7, 9)])
 (.cond (.t 26) (.seq (.reg [⟨some 27, .mv (.t 5), none⟩,
 ⟨some 28, .load 4 true (.t 3), none⟩,
 ⟨some 29, .lit 100 [none, none, some 66, some 82] [.v (.string ⟨#[]⟩), .v (.int .i64 0), .sl true 66 [], .sl true 82 []] 1 [(0, .t 28)], none⟩,
 ⟨some 30, .app 100 true (.t 27) (.t 29), none⟩,
 ⟨some 5, .mv (.t 30), none⟩])
 (.reg [⟨some 6, .mv (.c (.bool true)), none⟩]))
 .skip))
 (.seq (.drw [⟨some 31, .mv (.t 0), none⟩,
 ⟨some 32, .mv (.t 7), none⟩,
 ⟨some 33, .iaddr 4 (.t 31) (.t 32), none⟩,
 ⟨some 34, .faddr 0 (.t 33), none⟩,
 ⟨some 35, .load 1 false (.t 34), none⟩,
 ⟨some 36, .faddr 0 (.t 3), none⟩,
 ⟨some 37, .load 1 false (.t 36), none⟩,
 ⟨some 38, .bin .neq (.t 35) (.t 37), none⟩] [(4, 6)])
 (.cond (.t 38) (.reg [⟨some 39, .mv (.t 5), none⟩,
 ⟨some 40, .mv (.t 0), none⟩,
 ⟨some 41, .mv (.t 7), none⟩,
 ⟨some 42, .iaddr 4 (.t 40) (.t 41), none⟩,
 ⟨some 43, .load 4 true (.t 42), none⟩,
 ⟨some 44, .lit 100 [none, none, some 66, some 82] [.v (.string ⟨#[]⟩), .v (.int .i64 0), .sl true 66 [], .sl true 82 []] 1 [(0, .t 43)], none⟩,
 ⟨some 45, .app 100 true (.t 39) (.t 44), none⟩,
 ⟨some 5, .mv (.t 45), none⟩])
 .skip))))
 (.reg [⟨some 13, .mv (.t 7), none⟩,
 ⟨some 14, .bin .add (.t 13) (.c (.int .i64 1)), none⟩,
 ⟨some 7, .mv (.t 14), none⟩]))))))
 (.seq (.seq (.reg [⟨some 46, .mv (.t 6), none⟩,
 ⟨some 47, .un .not (.t 46), none⟩])
 (.cond (.t 47) (.reg [⟨some 48, .mv (.t 5), none⟩,
 ⟨some 49, .load 4 true (.t 3), none⟩,
 ⟨some 50, .lit 100 [none, none, some 66, some 82] [.v (.string ⟨#[]⟩), .v (.int .i64 0), .sl true 66 [], .sl true 82 []] 1 [(0, .t 49)], none⟩,
 ⟨some 51, .app 100 true (.t 48) (.t 50), none⟩,
 ⟨some 5, .mv (.t 51), none⟩])
 .skip))
 (.seq (.reg [⟨some 52, .mv (.t 5), none⟩,
 ⟨some 4, .mv (.t 52), none⟩])
 .ret))))))
def if_spec_l3Put : IFn := ⟨53, [.inl 4], ib_spec_l3Put, lcF []⟩
def ks_spec_l3Put : List (List (Option Nat)) := [[some 100]]
def gl_spec_l3Put_1 (a1 : Feat) : List Feat → Nat → Bool → (List Feat) → Option (Bool × (List Feat))
  | [], k95, v89, v92 => some (v89, v92)
  | x96 :: l97, k95, v89, v92 => ((if (!v89) = true then (if (!slt x96.id a1.id) = true then (if fits (v92 ++ ([a1] : (List Feat))).length = true then some (true, (v92 ++ ([a1] : (List Feat)))) else none) else (some (v89, v92))) else (some (v89, v92)) : Option (Bool × (List Feat)))).bind fun q108 => if (!seq x96.id a1.id) = true then (if fits (q108.2 ++ ([x96] : (List Feat))).length = true then gl_spec_l3Put_1 a1 l97 (k95 + 1) q108.1 (q108.2 ++ ([x96] : (List Feat))) else none) else (gl_spec_l3Put_1 a1 l97 (k95 + 1) q108.1 q108.2)
def gf_spec_l3Put (a0 : (List Feat)) (a1 : Feat) : Option (List Feat) := if fits a0.length = true then ((gl_spec_l3Put_1 a1 a0 0 false []).bind fun q88 => if (!q88.1) = true then (if fits (q88.2 ++ ([a1] : (List Feat))).length = true then some ((q88.2 ++ ([a1] : (List Feat)))) else none) else (some (q88.2))) else none
def c_spec_l3Put : Con := ⟨(List Feat) × Feat, (List Feat), 37, fun a => [.ro (List.map (eFeat false) a.1), .agg [.v (.string a.2.id), .v (.int .i64 a.2.shape.kind), .ro (List.map ePt a.2.shape.pts), .ro (List.map eTag a.2.tags)]], fun a => gf_spec_l3Put a.1 a.2, fun a r => ⟨[(false, [sl true 100 (List.map (eFeat false) r)])], []⟩, fun a => []⟩
/-! spec.l3Find -/
def ib_spec_l3Find : IC :=
 (.seq (.reg [⟨some 4, .mv (.c (.int .i64 0)), none⟩])
 (.seq (.seq (.reg [⟨some 5, .mv (.c (.int .i64 0)), none⟩])
 (blkC 0 (.loop (.seq (.seq (.reg [⟨some 6, .mv (.t 5), none⟩,
 ⟨some 7, .mv (.t 0), none⟩,
 ⟨some 8, .len false (.t 7), none⟩,
 ⟨some 9, .bin .lss (.t 6) (.t 8), none⟩])
 (.cond (.t 9) .skip
 (.exit 0)))
 (.seq (.block 1 (.seq (.reg [⟨some 12, .mv (.t 0), none⟩,
 ⟨some 13, .mv (.t 5), none⟩,
 ⟨some 14, .iaddr 4 (.t 12) (.t 13), none⟩,
 ⟨some 15, .faddr 0 (.t 14), none⟩,
 ⟨some 16, .load 1 false (.t 15), none⟩,
 ⟨some 17, .mv (.t 1), none⟩,
 ⟨some 18, .bin .eql (.t 16) (.t 17), none⟩])
 (.cond (.t 18) (.seq (.reg [⟨some 19, .mv (.t 5), none⟩,
 ⟨some 4, .mv (.t 19), none⟩])
 .ret)
 .skip)))
 (.reg [⟨some 10, .mv (.t 5), none⟩,
 ⟨some 11, .bin .add (.t 10) (.c (.int .i64 1)), none⟩,
 ⟨some 5, .mv (.t 11), none⟩]))))))
 (.seq (.reg [⟨some 4, .mv (.c (.int .i64 (-1))), none⟩])
 .ret)))
def if_spec_l3Find : IFn := ⟨20, [.inl 4], ib_spec_l3Find, lcF []⟩
def ks_spec_l3Find : List (List (Option Nat)) := [[none]]
def gl_spec_l3Find_1 (a1 : Str) : List Feat → Nat → Option (Int ⊕ Unit)
  | [], k10 => some (.inr ())
  | x11 :: l12, k10 => if (seq x11.id a1) = true then (some (.inl ((k10 : Int)))) else (gl_spec_l3Find_1 a1 l12 (k10 + 1) )
def gf_spec_l3Find (a0 : (List Feat)) (a1 : Str) : Option Int := if fits a0.length = true then ((gl_spec_l3Find_1 a1 a0 0 ).bind fun q => match q with | .inl r => some r | .inr q8 => some ((-1))) else none
def c_spec_l3Find : Con := ⟨(List Feat) × Str, Int, 39, fun a => [.ro (List.map (eFeat false) a.1), .v (.string a.2)], fun a => gf_spec_l3Find a.1 a.2, fun a r => ⟨[(false, [.v (.int .i64 r)])], []⟩, fun a => []⟩
/-! spec.l2Put -/
def ib_spec_l2Put : IC :=
 (.seq (.reg [⟨some 6, .mv (.c (.slice none 0 0)), none⟩])
 (.seq (.reg [⟨some 10, .lit 82 [none, none] [.v (.string ⟨#[]⟩), .v (.string ⟨#[]⟩)] 0 [], none⟩,
 ⟨some 7, .mv (.t 10), none⟩])
 (.seq (.reg [⟨some 8, .mv (.c (.bool false)), none⟩])
 (.seq (.seq (.reg [⟨some 9, .mv (.c (.int .i64 0)), none⟩])
 (blkC 0 (.loop (.seq (.seq (.reg [⟨some 11, .mv (.t 9), none⟩,
 ⟨some 12, .mv (.t 0), none⟩,
 ⟨some 13, .len false (.t 12), none⟩,
 ⟨some 14, .bin .lss (.t 11) (.t 13), none⟩])
 (.cond (.t 14) .skip
 (.exit 0)))
 (.seq (.block 1 (seqC (.seq (.reg [⟨some 17, .mv (.t 8), none⟩,
 ⟨some 18, .un .not (.t 17), none⟩,
 ⟨some 19, .mv (.t 18), none⟩,
 ⟨some 20, .mv (.t 0), some (19, true)⟩,
 ⟨some 21, .mv (.t 9), some (19, true)⟩,
 ⟨some 22, .iaddr 2 (.t 20) (.t 21), some (19, true)⟩,
 ⟨some 23, .faddr 0 (.t 22), some (19, true)⟩,
 ⟨some 24, .load 1 false (.t 23), some (19, true)⟩,
 ⟨some 25, .mv (.t 1), some (19, true)⟩,
 ⟨some 26, .bin .geq (.t 24) (.t 25), some (19, true)⟩,
 ⟨some 27, .pick (.t 19) (.t 26) (.c (.bool false)), none⟩])
 (.cond (.t 27) (.seq (.reg [⟨some 28, .mv (.t 7), none⟩,
 ⟨some 29, .mv (.t 1), none⟩,
 ⟨some 30, .mv (.t 2), none⟩,
 ⟨some 31, .build [.v (.string ⟨#[]⟩), .v (.string ⟨#[]⟩)] [(0, 1, .t 29), (1, 1, .t 30)], none⟩,
 ⟨some 32, .lit 82 [none, none] [.v (.string ⟨#[]⟩), .v (.string ⟨#[]⟩)] 1 [(0, .t 31)], none⟩,
 ⟨some 33, .app 82 true (.t 28) (.t 32), none⟩,
 ⟨some 7, .mv (.t 33), none⟩])
 (.reg [⟨some 8, .mv (.c (.bool true)), none⟩]))
 .skip))
 (.seq (.reg [⟨some 34, .mv (.t 0), none⟩,
 ⟨some 35, .mv (.t 9), none⟩,
 ⟨some 36, .iaddr 2 (.t 34) (.t 35), none⟩,
 ⟨some 37, .faddr 0 (.t 36), none⟩,
 ⟨some 38, .load 1 false (.t 37), none⟩,
 ⟨some 39, .mv (.t 1), none⟩,
 ⟨some 40, .bin .neq (.t 38) (.t 39), none⟩])
 (.cond (.t 40) (.reg [⟨some 41, .mv (.t 7), none⟩,
 ⟨some 42, .mv (.t 0), none⟩,
 ⟨some 43, .mv (.t 9), none⟩,
 ⟨some 44, .iaddr 2 (.t 42) (.t 43), none⟩,
 ⟨some 45, .load 2 true (.t 44), none⟩,
 ⟨some 46, .lit 82 [none, none] [.v (.string ⟨#[]⟩), .v (.string ⟨#[]⟩)] 1 [(0, .t 45)], none⟩,
 ⟨some 47, .app 82 true (.t 41) (.t 46), none⟩,
 ⟨some 7, .mv (.t 47), none⟩])
 .skip))))
 (.reg [⟨some 15, .mv (.t 9), none⟩,
 ⟨some 16, .bin .add (.t 15) (.c (.int .i64 1)), none⟩,
 ⟨some 9, .mv (.t 16), none⟩]))))))
 (.seq (.seq (.reg [⟨some 48, .mv (.t 8), none⟩,
 ⟨some 49, .un .not (.t 48), none⟩])
 (.cond (.t 49) (.reg [⟨some 50, .mv (.t 7), none⟩,
 ⟨some 51, .mv (.t 1), none⟩,
 ⟨some 52, .mv (.t 2), none⟩,
 ⟨some 53, .build [.v (.string ⟨#[]⟩), .v (.string ⟨#[]⟩)] [(0, 1, .t 51), (1, 1, .t 52)], none⟩,
 ⟨some 54, .lit 82 [none, none] [.v (.string ⟨#[]⟩), .v (.string ⟨#[]⟩)] 1 [(0, .t 53)], none⟩,
 ⟨some 55, .app 82 true (.t 50) (.t 54), none⟩,
 ⟨some 7, .mv (.t 55), none⟩])
 .skip))
 (.seq (.reg [⟨some 56, .mv (.t 7), none⟩,
 ⟨some 6, .mv (.t 56), none⟩])
 .ret))))))
def if_spec_l2Put : IFn := ⟨57, [.inl 6], ib_spec_l2Put, lcF []⟩
def ks_spec_l2Put : List (List (Option Nat)) := [[some 82]]
def gl_spec_l2Put_1 (a1 : Str) (a2 : Str) : List Tag → Nat → Bool → (List Tag) → Option (Bool × (List Tag))
  | [], k86, v81, v83 => some (v81, v83)
  | x87 :: l88, k86, v81, v83 => ((if (!v81) = true then (if (!slt x87.key a1) = true then (if fits (v83 ++ ([(⟨a1, a2⟩ : Tag)] : (List Tag))).length = true then some (true, (v83 ++ ([(⟨a1, a2⟩ : Tag)] : (List Tag)))) else none) else (some (v81, v83))) else (some (v81, v83)) : Option (Bool × (List Tag)))).bind fun q99 => if (!seq x87.key a1) = true then (if fits (q99.2 ++ ([x87] : (List Tag))).length = true then gl_spec_l2Put_1 a1 a2 l88 (k86 + 1) q99.1 (q99.2 ++ ([x87] : (List Tag))) else none) else (gl_spec_l2Put_1 a1 a2 l88 (k86 + 1) q99.1 q99.2)
def gf_spec_l2Put (a0 : (List Tag)) (a1 : Str) (a2 : Str) : Option (List Tag) := if fits a0.length = true then ((gl_spec_l2Put_1 a1 a2 a0 0 false []).bind fun q80 => if (!q80.1) = true then (if fits (q80.2 ++ ([(⟨a1, a2⟩ : Tag)] : (List Tag))).length = true then some ((q80.2 ++ ([(⟨a1, a2⟩ : Tag)] : (List Tag)))) else none) else (some (q80.2))) else none
def c_spec_l2Put : Con := ⟨(List Tag) × Str × Str, (List Tag), 47, fun a => [.ro (List.map eTag a.1), .v (.string a.2.1), .v (.string a.2.2)], fun a => gf_spec_l2Put a.1 a.2.1 a.2.2, fun a r => ⟨[(false, [sl true 82 (List.map eTag r)])], []⟩, fun a => []⟩
/-! spec.JoinBase -/
def ib_spec_JoinBase : IC :=
 (.seq (.reg [⟨some 3, .box 210 [some 115, some 130] (.t 0), none⟩,
 ⟨some 6, .mv (.c (.int .i64 0)), none⟩])
 (.seq (.reg [⟨some 8, .load 2 true (.t 3), none⟩,
 ⟨some 9, .mv (.t 1), none⟩,
 ⟨some 10, .mv (.t 2), none⟩,
 ⟨some 11, .call 36 [(false, .t 8), (false, .t 9), (false, .t 10)], none⟩,
 ⟨some 7, .mv (.t 11), none⟩])
 (.seq (.seq (.reg [⟨some 12, .mv (.t 7), none⟩,
 ⟨some 13, .len false (.t 12), none⟩,
 ⟨some 14, .bin .eql (.t 13) (.c (.int .i64 0)), none⟩])
 (.cond (.t 14) (.seq (.reg [⟨some 6, .mv (.c (.int .i64 (-1))), none⟩])
 .ret)
 .skip))
 (.seq (.reg [⟨some 15, .mv (.t 7), none⟩,
 ⟨some 16, .iaddr 1 (.t 15) (.c (.int .i64 0)), none⟩,
 ⟨some 17, .load 1 false (.t 16), none⟩,
 ⟨some 6, .mv (.t 17), none⟩])
 .ret))))
def if_spec_JoinBase : IFn := ⟨18, [.inl 6], ib_spec_JoinBase, lcF []⟩
def ks_spec_JoinBase : List (List (Option Nat)) := [[none]]
def gf_spec_JoinBase (a0 : Repo) (a1 : Int) (a2 : Int) : Option Int := (gf_spec_RepoBases a0 a1 a2).bind fun x2 => if ((x2.length : Int) == 0) = true then (some ((-1))) else ((idx x2 0).bind fun x6 => some (x6))
def c_spec_JoinBase : Con := ⟨Repo × Int × Int, Int, 57, fun a => [.agg [.ro (List.map (eCommit false) a.1.commits), .ro (List.map eHead a.1.heads)], .v (.int .i64 a.2.1), .v (.int .i64 a.2.2)], fun a => gf_spec_JoinBase a.1 a.2.1 a.2.2, fun a r => ⟨[(false, [.v (.int .i64 r)])], []⟩, fun a => []⟩
/-! spec.l7Add -/
def ib_spec_l7Add : IC :=
 (.seq (.reg [⟨some 3, .box 210 [some 115, some 130] (.t 0), none⟩,
 ⟨some 5, .box 115 [some 17, some 100, none] (.t 2), none⟩,
 ⟨some 6, .alloc 210 [.sl true 115 [], .sl true 130 []], none⟩])
 (.seq (.reg [⟨some 8, .load 2 true (.t 3), none⟩,
 ⟨some 9, .load 3 true (.t 5), none⟩,
 ⟨some 10, .call 27 [(false, .t 8), (false, .t 9)], none⟩,
 ⟨some 7, .mv (.t 10), none⟩])
 (.seq (.seq (.reg [⟨some 11, .mv (.t 7), none⟩,
 ⟨some 12, .bin .lss (.t 11) (.c (.int .i64 0)), none⟩])
 (.cond (.t 12) (.seq (.reg [⟨some 13, .faddr 0 (.t 3), none⟩,
 ⟨some 14, .load 1 false (.t 13), none⟩,
 ⟨some 15, .len false (.t 14), none⟩,
 ⟨some 7, .mv (.t 15), none⟩])
 (.drw [⟨some 16, .faddr 0 (.t 3), none⟩,
 ⟨some 17, .load 1 false (.t 16), none⟩,
 ⟨some 18, .load 3 true (.t 5), none⟩,
 ⟨some 19, .call 32 [(false, .t 18)], none⟩,
 ⟨some 20, .lit 115 [some 17, some 100, none] [.sl true 17 [], .sl true 100 [], .v (.string ⟨#[]⟩)] 1 [(0, .t 19)], none⟩,
 ⟨some 21, .app 115 true (.t 17) (.t 20), none⟩,
 ⟨some 22, .faddr 0 (.t 3), none⟩,
 ⟨none, .store [some 115] (.t 22) (.t 21), none⟩] [(1, 2), (1, 3), (1, 4)]))
 .skip))
 (.seq (.reg [⟨some 23, .faddr 1 (.t 3), none⟩,
 ⟨some 24, .load 1 false (.t 23), none⟩,
 ⟨some 25, .mv (.t 1), none⟩,
 ⟨some 26, .mv (.t 7), none⟩,
 ⟨some 27, .iaddr 2 (.t 24) (.t 25), none⟩,
 ⟨some 28, .faddr 1 (.t 27), none⟩,
 ⟨none, .store [none] (.t 28) (.t 26), none⟩])
 (.seq (.reg [⟨some 29, .load 2 true (.t 3), none⟩,
 ⟨none, .store [some 115, some 130] (.t 6) (.t 29), none⟩])
 .ret)))))
def if_spec_l7Add : IFn := ⟨30, [.inr (6, 2)], ib_spec_l7Add, lcF []⟩
def ks_spec_l7Add : List (List (Option Nat)) := [[some 115, some 130]]
def gf_spec_l7Add (a0 : Repo) (a1 : Int) (a2 : Commit) : Option Repo := (gf_spec_l7Find a0 a2).bind fun x4 => if (decide (x4 < 0)) = true then ((gf_spec_l7One a2).bind fun x6 => if fits (a0.commits ++ ([x6] : (List Commit))).length = true then (idx a0.heads a1).bind fun x16 => some ((⟨(a0.commits ++ ([x6] : (List Commit))), (List.set a0.heads a1.toNat (⟨x16.name, (a0.commits.length : Int)⟩ : Head))⟩ : Repo)) else none) else ((idx a0.heads a1).bind fun x18 => some ((⟨a0.commits, (List.set a0.heads a1.toNat (⟨x18.name, x4⟩ : Head))⟩ : Repo)))
def c_spec_l7Add : Con := ⟨Repo × Int × Commit, Repo, 60, fun a => [.agg [.io 0 a.1.commits.length 115, .io 1 a.1.heads.length 130], .v (.int .i64 a.2.1), .agg [.ro (List.map eInt a.2.2.up), .ro (List.map (eFeat false) a.2.2.sheet), .v (.string a.2.2.note)]], fun a => gf_spec_l7Add a.1 a.2.1 a.2.2, fun a r => ⟨[(true, eRepo true r)], [none, none]⟩, fun a => [(false, 115, List.map (eCommit true) a.1.commits), (false, 130, List.map eHead a.1.heads)]⟩
/-! spec.l7Copy -/
def ib_spec_l7Copy : IC :=
 (.seq (.reg [⟨some 1, .box 210 [some 115, some 130] (.t 0), none⟩,
 ⟨some 2, .alloc 210 [.sl true 115 [], .sl true 130 []], none⟩])
 (.seq (.reg [⟨some 5, .lit 130 [none, none] [.v (.string ⟨#[]⟩), .v (.int .i64 0)] 0 [], none⟩,
 ⟨some 6, .faddr 1 (.t 1), none⟩,
 ⟨some 7, .load 1 false (.t 6), none⟩,
 ⟨some 8, .app 130 false (.t 5) (.t 7), none⟩,
 ⟨some 9, .build [.nil, .nil] [(1, 1, .t 8)], none⟩,
 ⟨some 3, .alloc 210 [.sl true 115 [], .sl true 130 []], none⟩,
 ⟨none, .store [some 115, some 130] (.t 3) (.t 9), none⟩])
 (.seq (.seq (.reg [⟨some 4, .mv (.c (.int .i64 0)), none⟩])
 (blkC 0 (.loop (.seq (.seq (.reg [⟨some 10, .mv (.t 4), none⟩,
 ⟨some 11, .faddr 0 (.t 1), none⟩,
 ⟨some 12, .load 1 false (.t 11), none⟩,
 ⟨some 13, .len false (.t 12), none⟩,
 ⟨some 14, .bin .lss (.t 10) (.t 13), none⟩])
 (.cond (.t 14) .skip
 (.exit 0)))
 (.seq (.block 1 (.drw [⟨some 17, .faddr 0 (.t 3), none⟩,
 ⟨some 18, .load 1 false (.t 17), none⟩,
 ⟨some 19, .faddr 0 (.t 1), none⟩,
 ⟨some 20, .load 1 false (.t 19), none⟩,
 ⟨some 21, .mv (.t 4), none⟩,
 ⟨some 22, .iaddr 3 (.t 20) (.t 21), none⟩,
 ⟨some 23, .load 3 true (.t 22), none⟩,
 ⟨some 24, .call 32 [(false, .t 23)], none⟩,
 ⟨some 25, .lit 115 [some 17, some 100, none] [.sl true 17 [], .sl true 100 [], .v (.string ⟨#[]⟩)] 1 [(0, .t 24)], none⟩,
 ⟨some 26, .app 115 true (.t 18) (.t 25), none⟩,
 ⟨some 27, .faddr 0 (.t 3), none⟩,
 ⟨none, .store [some 115] (.t 27) (.t 26), none⟩] [(1, 3), (1, 6), (1, 7), (1, 8)]))
 (.reg [⟨some 15, .mv (.t 4), none⟩,
 ⟨some 16, .bin .add (.t 15) (.c (.int .i64 1)), none⟩,
 ⟨some 4, .mv (.t 16), none⟩]))))))
 (.seq (.reg [⟨some 28, .load 2 true (.t 3), none⟩,
 ⟨none, .store [some 115, some 130] (.t 2) (.t 28), none⟩])
 .ret))))
def if_spec_l7Copy : IFn := ⟨29, [.inr (2, 2)], ib_spec_l7Copy, lcF []⟩
def ks_spec_l7Copy : List (List (Option Nat)) := [[some 115, some 130]]
def gl_spec_l7Copy_1 : List Commit → Nat → (List Commit) → Option (List Commit)
  | [], k82, v76 => some v76
  | x83 :: l84, k82, v76 => (gf_spec_l7One x83).bind fun x91 => if fits (v76 ++ ([x91] : (List Commit))).length = true then gl_spec_l7Copy_1 l84 (k82 + 1) (v76 ++ ([x91] : (List Commit))) else none
def gf_spec_l7Copy (a0 : Repo) : Option Repo := if fits ([] ++ a0.heads).length = true then if fits a0.commits.length = true then ((gl_spec_l7Copy_1 a0.commits 0 []).bind fun q68 => some ((⟨q68, ([] ++ a0.heads)⟩ : Repo))) else none else none
def c_spec_l7Copy : Con := ⟨Repo, Repo, 61, fun a => [.agg [.ro (List.map (eCommit false) a.commits), .ro (List.map eHead a.heads)]], fun a => gf_spec_l7Copy a, fun a r => ⟨[(true, eRepo true r)], []⟩, fun a => []⟩
/-! impl.within -/
def ib_impl_within : IC :=
 (.seq (.reg [⟨some 6, .mv (.c (.bool false)), none⟩])
 (.seq (.reg [⟨some 7, .mv (.t 0), none⟩,
 ⟨some 8, .mv (.t 1), none⟩,
 ⟨some 9, .bin .geq (.t 7) (.t 8), none⟩,
 ⟨some 10, .mv (.t 9), none⟩,
 ⟨some 11, .mv (.t 0), some (10, true)⟩,
 ⟨some 12, .mv (.t 2), some (10, true)⟩,
 ⟨some 13, .bin .leq (.t 11) (.t 12), some (10, true)⟩,
 ⟨some 14, .pick (.t 10) (.t 13) (.c (.bool false)), none⟩,
 ⟨some 6, .mv (.t 14), none⟩])
 .ret))
def if_impl_within : IFn := ⟨15, [.inl 6], ib_impl_within, lcF []⟩
def ks_impl_within : List (List (Option Nat)) := [[none]]
def gf_impl_within (a0 : Int) (a1 : Int) (a2 : Int) : Option Bool := if (decide (a0 ≥ a1)) = true then (some ((decide (a0 ≤ a2)))) else (some (false))
def c_impl_within : Con := ⟨Int × Int × Int, Bool, 76, fun a => [.v (.int .i64 a.1), .v (.int .i64 a.2.1), .v (.int .i64 a.2.2)], fun a => gf_impl_within a.1 a.2.1 a.2.2, fun a r => ⟨[(false, [.v (.bool r)])], []⟩, fun a => []⟩
/-! impl.ptOk -/
def ib_impl_ptOk : IC :=
 (.seq (.reg [⟨some 1, .box 66 [none, none] (.t 0), none⟩,
 ⟨some 2, .mv (.c (.bool false)), none⟩])
 (.seq (.reg [⟨some 3, .faddr 0 (.t 1), none⟩,
 ⟨some 4, .load 1 false (.t 3), none⟩,
 ⟨some 5, .call 76 [(false, .t 4), (false, .c (.int .i64 (-1000))), (false, .c (.int .i64 1000))], none⟩,
 ⟨some 6, .mv (.t 5), none⟩,
 ⟨some 7, .faddr 1 (.t 1), some (6, true)⟩,
 ⟨some 8, .load 1 false (.t 7), some (6, true)⟩,
 ⟨some 9, .call 76 [(false, .t 8), (false, .c (.int .i64 (-1000))), (false, .c (.int .i64 1000))], some (6, true)⟩,
 ⟨some 10, .pick (.t 6) (.t 9) (.c (.bool false)), none⟩,
 ⟨some 2, .mv (.t 10), none⟩])
 .ret))
def if_impl_ptOk : IFn := ⟨11, [.inl 2], ib_impl_ptOk, lcF []⟩
def ks_impl_ptOk : List (List (Option Nat)) := [[none]]
def gf_impl_ptOk (a0 : Pt) : Option Bool := (gf_impl_within a0.x (-1000) 1000).bind fun x2 => if x2 = true then ((gf_impl_within a0.y (-1000) 1000).bind fun x4 => some (x4)) else (some (false))
def c_impl_ptOk : Con := ⟨Pt, Bool, 79, fun a => [.agg [.v (.int .i64 a.x), .v (.int .i64 a.y)]], fun a => gf_impl_ptOk a, fun a r => ⟨[(false, [.v (.bool r)])], []⟩, fun a => []⟩
/-! impl.WordOk -/
def ib_impl_WordOk : IC :=
 (.seq (.reg [⟨some 2, .mv (.c (.bool false)), none⟩])
 (.seq (.seq (.reg [⟨some 4, .mv (.t 0), none⟩,
 ⟨some 5, .len true (.t 4), none⟩,
 ⟨some 6, .mv (.c (.int .i64 0)), none⟩])
 (blkC 0 (.loop (.seq (.reg [⟨some 7, .bin .lss (.t 6) (.t 5), none⟩])
 (.seq (.cond (.t 7) .skip
 (.exit 0))
 (.seq (.block 1 (.seq (.reg [⟨some 8, .mv (.t 6), none⟩,
 ⟨some 3, .mv (.t 8), none⟩])
 (.seq (.reg [⟨some 9, .mv (.t 0), none⟩,
 ⟨some 10, .mv (.t 3), none⟩,
 ⟨some 11, .sidx (.t 9) (.t 10), none⟩,
 ⟨some 12, .bin .lss (.t 11) (.c (.int .u8 97)), none⟩,
 ⟨some 13, .mv (.t 12), none⟩,
 ⟨some 14, .mv (.t 0), some (13, false)⟩,
 ⟨some 15, .mv (.t 3), some (13, false)⟩,
 ⟨some 16, .sidx (.t 14) (.t 15), some (13, false)⟩,
 ⟨some 17, .bin .gtr (.t 16) (.c (.int .u8 122)), some (13, false)⟩,
 ⟨some 18, .pick (.t 13) (.c (.bool true)) (.t 17), none⟩])
 (.cond (.t 18) (.seq (.reg [⟨some 2, .mv (.c (.bool false)), none⟩])
 .ret)
 .skip))))
 (.reg [⟨some 19, .bin .add (.t 6) (.c (.int .i64 1)), none⟩,
 ⟨some 6, .mv (.t 19), none⟩])))))))
 (.seq (.reg [⟨some 20, .mv (.t 0), none⟩,
 ⟨some 21, .len true (.t 20), none⟩,
 ⟨some 22, .call 76 [(false, .t 21), (false, .c (.int .i64 1)), (false, .c (.int .i64 6))], none⟩,
 ⟨some 2, .mv (.t 22), none⟩])
 .ret)))
def if_impl_WordOk : IFn := ⟨23, [.inl 2], ib_impl_WordOk, lcF []⟩
def ks_impl_WordOk : List (List (Option Nat)) := [[none]]
def gl_impl_WordOk_1 : List UInt8 → Nat → Option (Bool ⊕ Unit)
  | [], k10 => some (.inr ())
  | x11 :: l12, k10 => if (decide ((x11.toNat : Int) < 97)) = true then (some (.inl (false))) else (if (decide ((x11.toNat : Int) > 122)) = true then (some (.inl (false))) else (gl_impl_WordOk_1 l12 (k10 + 1) ))
def gf_impl_WordOk (a0 : Str) : Option Bool := if fits a0.size = true then ((gl_impl_WordOk_1 a0.data.toList 0 ).bind fun q => match q with | .inl r => some r | .inr q8 => (gf_impl_within (a0.size : Int) 1 6).bind fun x19 => some (x19)) else none
def c_impl_WordOk : Con := ⟨Str, Bool, 80, fun a => [.v (.string a)], fun a => gf_impl_WordOk a, fun a r => ⟨[(false, [.v (.bool r)])], []⟩, fun a => []⟩
/-! impl.ShapeOk -/
def ib_impl_ShapeOk : IC :=
 (.seq (.reg [⟨some 1, .box 226 [none, some 66] (.t 0), none⟩,
 ⟨some 2, .mv (.c (.bool false)), none⟩])
 (.seq (.seq (.reg [⟨some 6, .faddr 1 (.t 1), none⟩,
 ⟨some 7, .load 1 false (.t 6), none⟩,
 ⟨some 8, .len false (.t 7), none⟩,
 ⟨some 9, .mv (.c (.int .i64 0)), none⟩])
 (blkC 0 (.loop (.seq (.reg [⟨some 10, .bin .lss (.t 9) (.t 8), none⟩])
 (.seq (.cond (.t 10) .skip
 (.exit 0))
 (.seq (.block 1 (.seq (.reg [⟨some 11, .mv (.t 9), none⟩,
 ⟨some 12, .iaddr 2 (.t 7) (.t 9), none⟩,
 ⟨some 13, .load 2 true (.t 12), none⟩,
 ⟨some 4, .alloc 66 [.v (.int .i64 0), .v (.int .i64 0)], none⟩,
 ⟨some 3, .mv (.t 11), none⟩,
 ⟨none, .store [none, none] (.t 4) (.t 13), none⟩])
 (.seq (.drw [⟨some 14, .load 2 true (.t 4), none⟩,
 ⟨some 15, .call 79 [(false, .t 14)], none⟩,
 ⟨some 16, .un .not (.t 15), none⟩,
 ⟨some 17, .mv (.t 16), none⟩,
 ⟨some 18, .mv (.t 3), some (17, false)⟩,
 ⟨some 19, .bin .gtr (.t 18) (.c (.int .i64 0)), some (17, false)⟩,
 ⟨some 20, .mv (.t 19), some (17, false)⟩,
 ⟨some 21, .faddr 1 (.t 1), some (20, true)⟩,
 ⟨some 22, .load 1 false (.t 21), some (20, true)⟩,
 ⟨some 23, .mv (.t 3), some (20, true)⟩,
 ⟨some 24, .bin .sub (.t 23) (.c (.int .i64 1)), some (20, true)⟩,
 ⟨some 25, .iaddr 2 (.t 22) (.t 24), some (20, true)⟩,
 ⟨some 26, .load 2 true (.t 25), some (20, true)⟩,
 ⟨some 27, .load 2 true (.t 4), some (20, true)⟩,
 ⟨some 28, .eqs false true [0, 0] (.t 26) (.t 27), some (20, true)⟩,
 ⟨some 29, .pick (.t 20) (.t 28) (.c (.bool false)), some (17, false)⟩,
 ⟨some 30, .pick (.t 17) (.c (.bool true)) (.t 29), none⟩] [(8, 13), (12, 13)])
 (.cond (.t 30) (.seq (.reg [⟨some 2, .mv (.c (.bool false)), none⟩])
 .ret)
 .skip))))
 (.reg [⟨some 31, .bin .add (.t 9) (.c (.int .i64 1)), none⟩,
 ⟨some 9, .mv (.t 31), none⟩])))))))
 (.seq (.reg [⟨some 32, .faddr 1 (.t 1), none⟩,
 ⟨some 33, .load 1 false (.t 32), none⟩,
 ⟨some 34, .len false (.t 33), none⟩,
 ⟨some 5, .mv (.t 34), none⟩])
 (.seq (.seq (.reg [⟨some 35, .faddr 0 (.t 1), none⟩,
 ⟨some 36, .load 1 false (.t 35), none⟩])
 (.block 2 (.seq (.reg [⟨some 38, .bin .eql (.t 36) (.c (.int .i64 1)), none⟩,
 ⟨some 37, .mv (.t 38), none⟩])
 (.cond (.t 37) (.seq (.reg [⟨some 39, .mv (.t 5), none⟩,
 ⟨some 40, .bin .eql (.t 39) (.c (.int .i64 1)), none⟩,
 ⟨some 2, .mv (.t 40), none⟩])
 .ret)
 (.seq (.reg [⟨some 42, .bin .eql (.t 36) (.c (.int .i64 2)), none⟩,
 ⟨some 41, .mv (.t 42), none⟩])
 (.cond (.t 41) (.seq (.reg [⟨some 43, .mv (.t 5), none⟩,
 ⟨some 44, .call 76 [(false, .t 43), (false, .c (.int .i64 2)), (false, .c (.int .i64 6))], none⟩,
 ⟨some 2, .mv (.t 44), none⟩])
 .ret)
 (.seq (.reg [⟨some 46, .bin .eql (.t 36) (.c (.int .i64 3)), none⟩,
 ⟨some 45, .mv (.t 46), none⟩])
 (.cond (.t 45) (.seq (.drw [⟨some 47, .mv (.t 5), none⟩,
 ⟨some 48, .call 76 [(false, .t 47), (false, .c (.int .i64 3)), (false, .c (.int .i64 6))], none⟩,
 ⟨some 49, .mv (.t 48), none⟩,
 ⟨some 50, .faddr 1 (.t 1), some (49, true)⟩,
 ⟨some 51, .load 1 false (.t 50), some (49, true)⟩,
 ⟨some 52, .iaddr 2 (.t 51) (.c (.int .i64 0)), some (49, true)⟩,
 ⟨some 53, .load 2 true (.t 52), some (49, true)⟩,
 ⟨some 54, .faddr 1 (.t 1), some (49, true)⟩,
 ⟨some 55, .load 1 false (.t 54), some (49, true)⟩,
 ⟨some 56, .mv (.t 5), some (49, true)⟩,
 ⟨some 57, .bin .sub (.t 56) (.c (.int .i64 1)), some (49, true)⟩,
 ⟨some 58, .iaddr 2 (.t 55) (.t 57), some (49, true)⟩,
 ⟨some 59, .load 2 true (.t 58), some (49, true)⟩,
 ⟨some 60, .eqs true true [0, 0] (.t 53) (.t 59), some (49, true)⟩,
 ⟨some 61, .pick (.t 49) (.t 60) (.c (.bool false)), none⟩,
 ⟨some 2, .mv (.t 61), none⟩] [(4, 8), (6, 8), (4, 12), (6, 12)])
 .ret)
 .skip))))))))
 (.seq (.reg [⟨some 2, .mv (.c (.bool false)), none⟩])
 .ret)))))
def if_impl_ShapeOk : IFn := ⟨62, [.inl 2], ib_impl_ShapeOk, lcF []⟩
def ks_impl_ShapeOk : List (List (Option Nat)) := [[none]]
def gl_impl_ShapeOk_1 (a0 : Shape) : List Pt → Nat → Option (Bool ⊕ Unit)
  | [], k27 => some (.inr ())
  | x28 :: l29, k27 => (gf_impl_ptOk x28).bind fun x37 => if (!x37) = true then (some (.inl (false))) else (if (decide ((k27 : Int) > 0)) = true then ((idx a0.pts (IntKind.i64.wrap ((k27 : Int) - 1))).bind fun x39 => if ((x39.x == x28.x) && ((x39.y == x28.y) && true)) = true then (some (.inl (false))) else (gl_impl_ShapeOk_1 a0 l29 (k27 + 1) )) else (gl_impl_ShapeOk_1 a0 l29 (k27 + 1) ))
def gf_impl_ShapeOk (a0 : Shape) : Option Bool := if fits a0.pts.length = true then ((gl_impl_ShapeOk_1 a0 a0.pts 0 ).bind fun q => match q with | .inl r => some r | .inr q24 => if (a0.kind == 1) = true then (some (((a0.pts.length : Int) == 1))) else (if (a0.kind == 2) = true then ((gf_impl_within (a0.pts.length : Int) 2 6).bind fun x42 => some (x42)) else (if (a0.kind == 3) = true then ((gf_impl_within (a0.pts.length : Int) 3 6).bind fun x44 => if x44 = true then ((idx a0.pts 0).bind fun x46 => (idx a0.pts (IntKind.i64.wrap ((a0.pts.length : Int) - 1))).bind fun x48 => some ((!((x46.x == x48.x) && ((x46.y == x48.y) && true))))) else (some (false))) else (some (false))))) else none
def c_impl_ShapeOk : Con := ⟨Shape, Bool, 81, fun a => [.agg [.v (.int .i64 a.kind), .ro (List.map ePt a.pts)]], fun a => gf_impl_ShapeOk a, fun a r => ⟨[(false, [.v (.bool r)])], []⟩, fun a => []⟩
/-! impl.FeatOk -/
def ib_impl_FeatOk : IC :=
 (.seq (.reg [⟨some 1, .box 100 [none, none, some 66, some 82] (.t 0), none⟩,
 ⟨some 2, .mv (.c (.bool false)), none⟩])
 (.seq (.seq (.reg [⟨some 5, .faddr 3 (.t 1), none⟩,
 ⟨some 6, .load 1 false (.t 5), none⟩,
 ⟨some 7, .len false (.t 6), none⟩,
 ⟨some 8, .mv (.c (.int .i64 0)), none⟩])
 (blkC 0 (.loop (.seq (.reg [⟨some 9, .bin .lss (.t 8) (.t 7), none⟩])
 (.seq (.cond (.t 9) .skip
 (.exit 0))
 (.seq (.block 1 (.seq (.reg [⟨some 10, .mv (.t 8), none⟩,
 ⟨some 11, .iaddr 2 (.t 6) (.t 8), none⟩,
 ⟨some 12, .load 2 true (.t 11), none⟩,
 ⟨some 4, .alloc 82 [.v (.string ⟨#[]⟩), .v (.string ⟨#[]⟩)], none⟩,
 ⟨some 3, .mv (.t 10), none⟩,
 ⟨none, .store [none, none] (.t 4) (.t 12), none⟩])
 (.seq (.drw [⟨some 13, .faddr 0 (.t 4), none⟩,
 ⟨some 14, .load 1 false (.t 13), none⟩,
 ⟨some 15, .call 80 [(false, .t 14)], none⟩,
 ⟨some 16, .un .not (.t 15), none⟩,
 ⟨some 17, .mv (.t 16), none⟩,
 ⟨some 18, .faddr 1 (.t 4), some (17, false)⟩,
 ⟨some 19, .load 1 false (.t 18), some (17, false)⟩,
 ⟨some 20, .call 80 [(false, .t 19)], some (17, false)⟩,
 ⟨some 21, .un .not (.t 20), some (17, false)⟩,
 ⟨some 22, .pick (.t 17) (.c (.bool true)) (.t 21), none⟩,
 ⟨some 23, .mv (.t 22), none⟩,
 ⟨some 24, .mv (.t 3), some (23, false)⟩,
 ⟨some 25, .bin .gtr (.t 24) (.c (.int .i64 0)), some (23, false)⟩,
 ⟨some 26, .mv (.t 25), some (23, false)⟩,
 ⟨some 27, .faddr 3 (.t 1), some (26, true)⟩,
 ⟨some 28, .load 1 false (.t 27), some (26, true)⟩,
 ⟨some 29, .mv (.t 3), some (26, true)⟩,
 ⟨some 30, .bin .sub (.t 29) (.c (.int .i64 1)), some (26, true)⟩,
 ⟨some 31, .iaddr 2 (.t 28) (.t 30), some (26, true)⟩,
 ⟨some 32, .faddr 0 (.t 31), some (26, true)⟩,
 ⟨some 33, .load 1 false (.t 32), some (26, true)⟩,
 ⟨some 34, .faddr 0 (.t 4), some (26, true)⟩,
 ⟨some 35, .load 1 false (.t 34), some (26, true)⟩,
 ⟨some 36, .bin .geq (.t 33) (.t 35), some (26, true)⟩,
 ⟨some 37, .pick (.t 26) (.t 36) (.c (.bool false)), some (23, false)⟩,
 ⟨some 38, .pick (.t 23) (.c (.bool true)) (.t 37), none⟩] [(15, 22), (20, 22)])
 (.cond (.t 38) (.seq (.reg [⟨some 2, .mv (.c (.bool false)), none⟩])
 .ret)
 .skip))))
 (.reg [⟨some 39, .bin .add (.t 8) (.c (.int .i64 1)), none⟩,
 ⟨some 8, .mv (.t 39), none⟩])))))))
 (.seq (.reg [⟨some 40, .faddr 0 (.t 1), none⟩,
 ⟨some 41, .load 1 false (.t 40), none⟩,
 ⟨some 42, .call 80 [(false, .t 41)], none⟩,
 ⟨some 43, .mv (.t 42), none⟩,
 ⟨some 44, .faddr 1 (.t 1), some (43, true)⟩,
 ⟨some 45, .load 2 true (.t 44), some (43, true)⟩,
 ⟨some 46, .call 81 [(false, .t 45)], some (43, true)⟩,
 ⟨some 47, .pick (.t 43) (.t 46) (.c (.bool false)), none⟩,
 ⟨some 48, .mv (.t 47), none⟩,
 ⟨some 49, .faddr 3 (.t 1), some (48, true)⟩,
 ⟨some 50, .load 1 false (.t 49), some (48, true)⟩,
 ⟨some 51, .len false (.t 50), some (48, true)⟩,
 ⟨some 52, .bin .leq (.t 51) (.c (.int .i64 4)), some (48, true)⟩,
 ⟨some 53, .pick (.t 48) (.t 52) (.c (.bool false)), none⟩,
 ⟨some 2, .mv (.t 53), none⟩])
 .ret)))
def if_impl_FeatOk : IFn := ⟨54, [.inl 2], ib_impl_FeatOk, lcF []⟩
def ks_impl_FeatOk : List (List (Option Nat)) := [[none]]
def gl_impl_FeatOk_1 (a0 : Feat) : List Tag → Nat → Option (Bool ⊕ Unit)
  | [], k33 => some (.inr ())
  | x34 :: l35, k33 => (gf_impl_WordOk x34.key).bind fun x43 => if (!x43) = true then (some (.inl (false))) else ((gf_impl_WordOk x34.val).bind fun x45 => if (!x45) = true then (some (.inl (false))) else (if (decide ((k33 : Int) > 0)) = true then ((idx a0.tags (IntKind.i64.wrap ((k33 : Int) - 1))).bind fun x47 => if (!slt x47.key x34.key) = true then (some (.inl (false))) else (gl_impl_FeatOk_1 a0 l35 (k33 + 1) )) else (gl_impl_FeatOk_1 a0 l35 (k33 + 1) )))
def gf_impl_FeatOk (a0 : Feat) : Option Bool := if fits a0.tags.length = true then ((gl_impl_FeatOk_1 a0 a0.tags 0 ).bind fun q => match q with | .inl r => some r | .inr q30 => (gf_impl_WordOk a0.id).bind fun x50 => if x50 = true then ((gf_impl_ShapeOk a0.shape).bind fun x52 => if x52 = true then (some ((decide ((a0.tags.length : Int) ≤ 4)))) else (some (false))) else (some (false))) else none
def c_impl_FeatOk : Con := ⟨Feat, Bool, 82, fun a => [.agg [.v (.string a.id), .v (.int .i64 a.shape.kind), .ro (List.map ePt a.shape.pts), .ro (List.map eTag a.tags)]], fun a => gf_impl_FeatOk a, fun a r => ⟨[(false, [.v (.bool r)])], []⟩, fun a => []⟩
/-! slices.Equal[[]impl.Pt,impl.Pt] -/
def ib_slices_Equal_impl_Pt_impl_Pt : IC :=
 (.seq (.reg [⟨some 4, .mv (.c (.bool false)), none⟩])
 (.seq (.seq (.reg [⟨some 6, .mv (.t 0), none⟩,
 ⟨some 7, .len false (.t 6), none⟩,
 ⟨some 8, .mv (.t 1), none⟩,
 ⟨some 9, .len false (.t 8), none⟩,
 ⟨some 10, .bin .neq (.t 7) (.t 9), none⟩])
 (.cond (.t 10) (.seq (.reg [⟨some 4, .mv (.c (.bool false)), none⟩])
 .ret)
 .skip))
 (.seq (.seq (.reg [⟨some 11, .mv (.t 0), none⟩,
 ⟨some 12, .len false (.t 11), none⟩,
 ⟨some 13, .mv (.c (.int .i64 0)), none⟩])
 (blkC 0 (.loop (.seq (.reg [⟨some 14, .bin .lss (.t 13) (.t 12), none⟩])
 (.seq (.cond (.t 14) .skip
 (.exit 0))
 (.seq (.block 1 (.seq (.reg [⟨some 15, .mv (.t 13), none⟩,
 ⟨some 5, .mv (.t 15), none⟩])
 (.seq (.drw [⟨some 16, .mv (.t 0), none⟩,
 ⟨some 17, .mv (.t 5), none⟩,
 ⟨some 18, .iaddr 2 (.t 16) (.t 17), none⟩,
 ⟨some 19, .load 2 true (.t 18), none⟩,
 ⟨some 20, .mv (.t 1), none⟩,
 ⟨some 21, .mv (.t 5), none⟩,
 ⟨some 22, .iaddr 2 (.t 20) (.t 21), none⟩,
 ⟨some 23, .load 2 true (.t 22), none⟩,
 ⟨some 24, .eqs true true [0, 0] (.t 19) (.t 23), none⟩] [(3, 7)])
 (.cond (.t 24) (.seq (.reg [⟨some 4, .mv (.c (.bool false)), none⟩])
 .ret)
 .skip))))
 (.reg [⟨some 25, .bin .add (.t 13) (.c (.int .i64 1)), none⟩,
 ⟨some 13, .mv (.t 25), none⟩])))))))
 (.seq (.reg [⟨some 4, .mv (.c (.bool true)), none⟩])
 .ret))))
def if_slices_Equal_impl_Pt_impl_Pt : IFn := ⟨26, [.inl 4], ib_slices_Equal_impl_Pt_impl_Pt, lcF []⟩
def ks_slices_Equal_impl_Pt_impl_Pt : List (List (Option Nat)) := [[none]]
def gl_slices_Equal_impl_Pt_impl_Pt_1 (a1 : (List Pt)) : List Pt → Nat → Option (Bool ⊕ Unit)
  | [], k16 => some (.inr ())
  | x17 :: l18, k16 => (idx a1 (k16 : Int)).bind fun x25 => if (!((x17.x == x25.x) && ((x17.y == x25.y) && true))) = true then (some (.inl (false))) else (gl_slices_Equal_impl_Pt_impl_Pt_1 a1 l18 (k16 + 1) )
def gf_slices_Equal_impl_Pt_impl_Pt (a0 : (List Pt)) (a1 : (List Pt)) : Option Bool := if ((a0.length : Int) != (a1.length : Int)) = true then (some (false)) else (if fits a0.length = true then ((gl_slices_Equal_impl_Pt_impl_Pt_1 a1 a0 0 ).bind fun q => match q with | .inl r => some r | .inr q14 => some (true)) else none)
def c_slices_Equal_impl_Pt_impl_Pt : Con := ⟨(List Pt) × (List Pt), Bool, 127, fun a => [.ro (List.map ePt a.1), .ro (List.map ePt a.2)], fun a => gf_slices_Equal_impl_Pt_impl_Pt a.1 a.2, fun a r => ⟨[(false, [.v (.bool r)])], []⟩, fun a => []⟩
/-! impl.ShapeSame -/
def ib_impl_ShapeSame : IC :=
 (.seq (.reg [⟨some 2, .box 226 [none, some 66] (.t 0), none⟩,
 ⟨some 3, .box 226 [none, some 66] (.t 1), none⟩,
 ⟨some 4, .mv (.c (.bool false)), none⟩])
 (.seq (.reg [⟨some 5, .faddr 0 (.t 2), none⟩,
 ⟨some 6, .load 1 false (.t 5), none⟩,
 ⟨some 7, .faddr 0 (.t 3), none⟩,
 ⟨some 8, .load 1 false (.t 7), none⟩,
 ⟨some 9, .bin .eql (.t 6) (.t 8), none⟩,
 ⟨some 10, .mv (.t 9), none⟩,
 ⟨some 11, .faddr 1 (.t 2), some (10, true)⟩,
 ⟨some 12, .load 1 false (.t 11), some (10, true)⟩,
 ⟨some 13, .faddr 1 (.t 3), some (10, true)⟩,
 ⟨some 14, .load 1 false (.t 13), some (10, true)⟩,
 ⟨some 15, .call 127 [(false, .t 12), (false, .t 14)], some (10, true)⟩,
 ⟨some 16, .pick (.t 10) (.t 15) (.c (.bool false)), none⟩,
 ⟨some 4, .mv (.t 16), none⟩])
 .ret))
def if_impl_ShapeSame : IFn := ⟨17, [.inl 4], ib_impl_ShapeSame, lcF []⟩
def ks_impl_ShapeSame : List (List (Option Nat)) := [[none]]
def gf_impl_ShapeSame (a0 : Shape) (a1 : Shape) : Option Bool := if (a0.kind == a1.kind) = true then ((gf_slices_Equal_impl_Pt_impl_Pt a0.pts a1.pts).bind fun x3 => some (x3)) else (some (false))
def c_impl_ShapeSame : Con := ⟨Shape × Shape, Bool, 128, fun a => [.agg [.v (.int .i64 a.1.kind), .ro (List.map ePt a.1.pts)], .agg [.v (.int .i64 a.2.kind), .ro (List.map ePt a.2.pts)]], fun a => gf_impl_ShapeSame a.1 a.2, fun a r => ⟨[(false, [.v (.bool r)])], []⟩, fun a => []⟩
/-! slices.Equal[[]impl.Tag,impl.Tag] -/
def ib_slices_Equal_impl_Tag_impl_Tag : IC :=
 (.seq (.reg [⟨some 4, .mv (.c (.bool false)), none⟩])
 (.seq (.seq (.reg [⟨some 6, .mv (.t 0), none⟩,
 ⟨some 7, .len false (.t 6), none⟩,
 ⟨some 8, .mv (.t 1), none⟩,
 ⟨some 9, .len false (.t 8), none⟩,
 ⟨some 10, .bin .neq (.t 7) (.t 9), none⟩])
 (.cond (.t 10) (.seq (.reg [⟨some 4, .mv (.c (.bool false)), none⟩])
 .ret)
 .skip))
 (.seq (.seq (.reg [⟨some 11, .mv (.t 0), none⟩,
 ⟨some 12, .len false (.t 11), none⟩,
 ⟨some 13, .mv (.c (.int .i64 0)), none⟩])
 (blkC 0 (.loop (.seq (.reg [⟨some 14, .bin .lss (.t 13) (.t 12), none⟩])
 (.seq (.cond (.t 14) .skip
 (.exit 0))
 (.seq (.block 1 (.seq (.reg [⟨some 15, .mv (.t 13), none⟩,
 ⟨some 5, .mv (.t 15), none⟩])
 (.seq (.drw [⟨some 16, .mv (.t 0), none⟩,
 ⟨some 17, .mv (.t 5), none⟩,
 ⟨some 18, .iaddr 2 (.t 16) (.t 17), none⟩,
 ⟨some 19, .load 2 true (.t 18), none⟩,
 ⟨some 20, .mv (.t 1), none⟩,
 ⟨some 21, .mv (.t 5), none⟩,
 ⟨some 22, .iaddr 2 (.t 20) (.t 21), none⟩,
 ⟨some 23, .load 2 true (.t 22), none⟩,
 ⟨some 24, .eqs true true [2, 2] (.t 19) (.t 23), none⟩] [(3, 7)])
 (.cond (.t 24) (.seq (.reg [⟨some 4, .mv (.c (.bool false)), none⟩])
 .ret)
 .skip))))
 (.reg [⟨some 25, .bin .add (.t 13) (.c (.int .i64 1)), none⟩,
 ⟨some 13, .mv (.t 25), none⟩])))))))
 (.seq (.reg [⟨some 4, .mv (.c (.bool true)), none⟩])
 .ret))))
def if_slices_Equal_impl_Tag_impl_Tag : IFn := ⟨26, [.inl 4], ib_slices_Equal_impl_Tag_impl_Tag, lcF []⟩
def ks_slices_Equal_impl_Tag_impl_Tag : List (List (Option Nat)) := [[none]]
def gl_slices_Equal_impl_Tag_impl_Tag_1 (a1 : (List Tag)) : List Tag → Nat → Option (Bool ⊕ Unit)
  | [], k16 => some (.inr ())
  | x17 :: l18, k16 => (idx a1 (k16 : Int)).bind fun x25 => if (!((x17.key == x25.key) && ((x17.val == x25.val) && true))) = true then (some (.inl (false))) else (gl_slices_Equal_impl_Tag_impl_Tag_1 a1 l18 (k16 + 1) )
def gf_slices_Equal_impl_Tag_impl_Tag (a0 : (List Tag)) (a1 : (List Tag)) : Option Bool := if ((a0.length : Int) != (a1.length : Int)) = true then (some (false)) else (if fits a0.length = true then ((gl_slices_Equal_impl_Tag_impl_Tag_1 a1 a0 0 ).bind fun q => match q with | .inl r => some r | .inr q14 => some (true)) else none)
def c_slices_Equal_impl_Tag_impl_Tag : Con := ⟨(List Tag) × (List Tag), Bool, 129, fun a => [.ro (List.map eTag a.1), .ro (List.map eTag a.2)], fun a => gf_slices_Equal_impl_Tag_impl_Tag a.1 a.2, fun a r => ⟨[(false, [.v (.bool r)])], []⟩, fun a => []⟩
/-! impl.FeatSame -/
def ib_impl_FeatSame : IC :=
 (.seq (.reg [⟨some 2, .box 100 [none, none, some 66, some 82] (.t 0), none⟩,
 ⟨some 3, .box 100 [none, none, some 66, some 82] (.t 1), none⟩,
 ⟨some 4, .mv (.c (.bool false)), none⟩])
 (.seq (.reg [⟨some 5, .faddr 0 (.t 2), none⟩,
 ⟨some 6, .load 1 false (.t 5), none⟩,
 ⟨some 7, .faddr 0 (.t 3), none⟩,
 ⟨some 8, .load 1 false (.t 7), none⟩,
 ⟨some 9, .bin .eql (.t 6) (.t 8), none⟩,
 ⟨some 10, .mv (.t 9), none⟩,
 ⟨some 11, .faddr 1 (.t 2), some (10, true)⟩,
 ⟨some 12, .load 2 true (.t 11), some (10, true)⟩,
 ⟨some 13, .faddr 1 (.t 3), some (10, true)⟩,
 ⟨some 14, .load 2 true (.t 13), some (10, true)⟩,
 ⟨some 15, .call 128 [(false, .t 12), (false, .t 14)], some (10, true)⟩,
 ⟨some 16, .pick (.t 10) (.t 15) (.c (.bool false)), none⟩,
 ⟨some 17, .mv (.t 16), none⟩,
 ⟨some 18, .faddr 3 (.t 2), some (17, true)⟩,
 ⟨some 19, .load 1 false (.t 18), some (17, true)⟩,
 ⟨some 20, .faddr 3 (.t 3), some (17, true)⟩,
 ⟨some 21, .load 1 false (.t 20), some (17, true)⟩,
 ⟨some 22, .call 129 [(false, .t 19), (false, .t 21)], some (17, true)⟩,
 ⟨some 23, .pick (.t 17) (.t 22) (.c (.bool false)), none⟩,
 ⟨some 4, .mv (.t 23), none⟩])
 .ret))
def if_impl_FeatSame : IFn := ⟨24, [.inl 4], ib_impl_FeatSame, lcF []⟩
def ks_impl_FeatSame : List (List (Option Nat)) := [[none]]
def gf_impl_FeatSame (a0 : Feat) (a1 : Feat) : Option Bool := if (seq a0.id a1.id) = true then ((gf_impl_ShapeSame a0.shape a1.shape).bind fun x3 => if x3 = true then ((gf_slices_Equal_impl_Tag_impl_Tag a0.tags a1.tags).bind fun x5 => some (x5)) else (some (false))) else (some (false))
def c_impl_FeatSame : Con := ⟨Feat × Feat, Bool, 130, fun a => [.agg [.v (.string a.1.id), .v (.int .i64 a.1.shape.kind), .ro (List.map ePt a.1.shape.pts), .ro (List.map eTag a.1.tags)], .agg [.v (.string a.2.id), .v (.int .i64 a.2.shape.kind), .ro (List.map ePt a.2.shape.pts), .ro (List.map eTag a.2.tags)]], fun a => gf_impl_FeatSame a.1 a.2, fun a r => ⟨[(false, [.v (.bool r)])], []⟩, fun a => []⟩
/-! slices.EqualFunc[[]impl.Feat,[]impl.Feat,impl.Feat,impl.Feat] -/
def ib_slices_EqualFunc_impl_Feat_impl_Feat_impl_Feat_impl_Feat : IC :=
 (.seq (.reg [⟨some 6, .mv (.c (.bool false)), none⟩])
 (.seq (.seq (.reg [⟨some 10, .mv (.t 0), none⟩,
 ⟨some 11, .len false (.t 10), none⟩,
 ⟨some 12, .mv (.t 1), none⟩,
 ⟨some 13, .len false (.t 12), none⟩,
 ⟨some 14, .bin .neq (.t 11) (.t 13), none⟩])
 (.cond (.t 14) (.seq (.reg [⟨some 6, .mv (.c (.bool false)), none⟩])
 .ret)
 .skip))
 (.seq (.seq (.reg [⟨some 15, .mv (.t 0), none⟩,
 ⟨some 16, .len false (.t 15), none⟩,
 ⟨some 17, .mv (.c (.int .i64 0)), none⟩])
 (blkC 0 (.loop (.seq (.reg [⟨some 18, .bin .lss (.t 17) (.t 16), none⟩])
 (.seq (.cond (.t 18) .skip
 (.exit 0))
 (.seq (.block 1 (.seq (.reg [⟨some 19, .mv (.t 17), none⟩,
 ⟨some 20, .iaddr 4 (.t 15) (.t 17), none⟩,
 ⟨some 21, .load 4 true (.t 20), none⟩,
 ⟨some 8, .alloc 100 [.v (.string ⟨#[]⟩), .v (.int .i64 0), .sl true 66 [], .sl true 82 []], none⟩,
 ⟨some 7, .mv (.t 19), none⟩,
 ⟨none, .store [none, none, some 66, some 82] (.t 8) (.t 21), none⟩])
 (.seq (.reg [⟨some 22, .mv (.t 1), none⟩,
 ⟨some 23, .mv (.t 7), none⟩,
 ⟨some 24, .iaddr 4 (.t 22) (.t 23), none⟩,
 ⟨some 25, .load 4 true (.t 24), none⟩,
 ⟨some 9, .alloc 100 [.v (.string ⟨#[]⟩), .v (.int .i64 0), .sl true 66 [], .sl true 82 []], none⟩,
 ⟨none, .store [none, none, some 66, some 82] (.t 9) (.t 25), none⟩])
 (.seq (.reg [⟨some 26, .mv (.t 2), none⟩,
 ⟨some 27, .load 4 true (.t 8), none⟩,
 ⟨some 28, .load 4 true (.t 9), none⟩,
 ⟨some 29, .calld (.t 26) [(false, .t 27), (false, .t 28)], none⟩,
 ⟨some 30, .un .not (.t 29), none⟩])
 (.cond (.t 30) (.seq (.reg [⟨some 6, .mv (.c (.bool false)), none⟩])
 .ret)
 .skip)))))
 (.reg [⟨some 31, .bin .add (.t 17) (.c (.int .i64 1)), none⟩,
 ⟨some 17, .mv (.t 31), none⟩])))))))
 (.seq (.reg [⟨some 6, .mv (.c (.bool true)), none⟩])
 .ret))))
def if_slices_EqualFunc_impl_Feat_impl_Feat_impl_Feat_impl_Feat : IFn := ⟨32, [.inl 6], ib_slices_EqualFunc_impl_Feat_impl_Feat_impl_Feat_impl_Feat, lcF []⟩
def ks_slices_EqualFunc_impl_Feat_impl_Feat_impl_Feat_impl_Feat : List (List (Option Nat)) := [[none]]
def gl_slices_EqualFunc_impl_Feat_impl_Feat_impl_Feat_impl_Feat__impl_FeatSame_1 (a1 : (List Feat)) : List Feat → Nat → Option (Bool ⊕ Unit)
  | [], k28 => some (.inr ())
  | x29 :: l30, k28 => (idx a1 (k28 : Int)).bind fun x38 => (gf_impl_FeatSame x29 x38).bind fun x41 => if (!x41) = true then (some (.inl (false))) else (gl_slices_EqualFunc_impl_Feat_impl_Feat_impl_Feat_impl_Feat__impl_FeatSame_1 a1 l30 (k28 + 1) )
def gf_slices_EqualFunc_impl_Feat_impl_Feat_impl_Feat_impl_Feat__impl_FeatSame (a0 : (List Feat)) (a1 : (List Feat)) : Option Bool := if ((a0.length : Int) != (a1.length : Int)) = true then (some (false)) else (if fits a0.length = true then ((gl_slices_EqualFunc_impl_Feat_impl_Feat_impl_Feat_impl_Feat__impl_FeatSame_1 a1 a0 0 ).bind fun q => match q with | .inl r => some r | .inr q26 => some (true)) else none)
def c_slices_EqualFunc_impl_Feat_impl_Feat_impl_Feat_impl_Feat__impl_FeatSame : Con := ⟨(List Feat) × (List Feat), Bool, 325, fun a => [.ro (List.map (eFeat false) a.1), .ro (List.map (eFeat false) a.2), .fn 130 []], fun a => gf_slices_EqualFunc_impl_Feat_impl_Feat_impl_Feat_impl_Feat__impl_FeatSame a.1 a.2, fun a r => ⟨[(false, [.v (.bool r)])], []⟩, fun a => []⟩
/-! impl.SheetSame -/
def ib_impl_SheetSame : IC :=
 (.seq (.reg [⟨some 4, .mv (.c (.bool false)), none⟩])
 (.seq (.reg [⟨some 5, .mv (.t 0), none⟩,
 ⟨some 6, .mv (.t 1), none⟩,
 ⟨some 7, .call 325 [(false, .t 5), (false, .t 6), (false, .f 130)], none⟩,
 ⟨some 4, .mv (.t 7), none⟩])
 .ret))
def if_impl_SheetSame : IFn := ⟨8, [.inl 4], ib_impl_SheetSame, lcF []⟩
def ks_impl_SheetSame : List (List (Option Nat)) := [[none]]
def gf_impl_SheetSame (a0 : (List Feat)) (a1 : (List Feat)) : Option Bool := (gf_slices_EqualFunc_impl_Feat_impl_Feat_impl_Feat_impl_Feat__impl_FeatSame a0 a1).bind fun x1 => some (x1)
def c_impl_SheetSame : Con := ⟨(List Feat) × (List Feat), Bool, 220, fun a => [.ro (List.map (eFeat false) a.1), .ro (List.map (eFeat false) a.2)], fun a => gf_impl_SheetSame a.1 a.2, fun a r => ⟨[(false, [.v (.bool r)])], []⟩, fun a => []⟩
/-! slices.Equal[[]int,int] -/
def ib_slices_Equal_int_int : IC :=
 (.seq (.reg [⟨some 4, .mv (.c (.bool false)), none⟩])
 (.seq (.seq (.reg [⟨some 6, .mv (.t 0), none⟩,
 ⟨some 7, .len false (.t 6), none⟩,
 ⟨some 8, .mv (.t 1), none⟩,
 ⟨some 9, .len false (.t 8), none⟩,
 ⟨some 10, .bin .neq (.t 7) (.t 9), none⟩])
 (.cond (.t 10) (.seq (.reg [⟨some 4, .mv (.c (.bool false)), none⟩])
 .ret)
 .skip))
 (.seq (.seq (.reg [⟨some 11, .mv (.t 0), none⟩,
 ⟨some 12, .len false (.t 11), none⟩,
 ⟨some 13, .mv (.c (.int .i64 0)), none⟩])
 (blkC 0 (.loop (.seq (.reg [⟨some 14, .bin .lss (.t 13) (.t 12), none⟩])
 (.seq (.cond (.t 14) .skip
 (.exit 0))
 (.seq (.block 1 (.seq (.reg [⟨some 15, .mv (.t 13), none⟩,
 ⟨some 5, .mv (.t 15), none⟩])
 (.seq (.drw [⟨some 16, .mv (.t 0), none⟩,
 ⟨some 17, .mv (.t 5), none⟩,
 ⟨some 18, .iaddr 1 (.t 16) (.t 17), none⟩,
 ⟨some 19, .load 1 false (.t 18), none⟩,
 ⟨some 20, .mv (.t 1), none⟩,
 ⟨some 21, .mv (.t 5), none⟩,
 ⟨some 22, .iaddr 1 (.t 20) (.t 21), none⟩,
 ⟨some 23, .load 1 false (.t 22), none⟩,
 ⟨some 24, .bin .neq (.t 19) (.t 23), none⟩] [(3, 7)])
 (.cond (.t 24) (.seq (.reg [⟨some 4, .mv (.c (.bool false)), none⟩])
 .ret)
 .skip))))
 (.reg [⟨some 25, .bin .add (.t 13) (.c (.int .i64 1)), none⟩,
 ⟨some 13, .mv (.t 25), none⟩])))))))
 (.seq (.reg [⟨some 4, .mv (.c (.bool true)), none⟩])
 .ret))))
def if_slices_Equal_int_int : IFn := ⟨26, [.inl 4], ib_slices_Equal_int_int, lcF []⟩
def ks_slices_Equal_int_int : List (List (Option Nat)) := [[none]]
def gl_slices_Equal_int_int_1 (a1 : (List Int)) : List Int → Nat → Option (Bool ⊕ Unit)
  | [], k16 => some (.inr ())
  | x17 :: l18, k16 => (idx a1 (k16 : Int)).bind fun x25 => if (x17 != x25) = true then (some (.inl (false))) else (gl_slices_Equal_int_int_1 a1 l18 (k16 + 1) )
def gf_slices_Equal_int_int (a0 : (List Int)) (a1 : (List Int)) : Option Bool := if ((a0.length : Int) != (a1.length : Int)) = true then (some (false)) else (if fits a0.length = true then ((gl_slices_Equal_int_int_1 a1 a0 0 ).bind fun q => match q with | .inl r => some r | .inr q14 => some (true)) else none)
def c_slices_Equal_int_int : Con := ⟨(List Int) × (List Int), Bool, 358, fun a => [.ro (List.map eInt a.1), .ro (List.map eInt a.2)], fun a => gf_slices_Equal_int_int a.1 a.2, fun a r => ⟨[(false, [.v (.bool r)])], []⟩, fun a => []⟩
/-! impl.sameCommit -/
def ib_impl_sameCommit : IC :=
 (.seq (.reg [⟨some 2, .box 115 [some 17, some 100, none] (.t 0), none⟩,
 ⟨some 3, .box 115 [some 17, some 100, none] (.t 1), none⟩,
 ⟨some 4, .mv (.c (.bool false)), none⟩])
 (.seq (.reg [⟨some 5, .faddr 0 (.t 2), none⟩,
 ⟨some 6, .load 1 false (.t 5), none⟩,
 ⟨some 7, .faddr 0 (.t 3), none⟩,
 ⟨some 8, .load 1 false (.t 7), none⟩,
 ⟨some 9, .call 358 [(false, .t 6), (false, .t 8)], none⟩,
 ⟨some 10, .mv (.t 9), none⟩,
 ⟨some 11, .faddr 1 (.t 2), some (10, true)⟩,
 ⟨some 12, .load 1 false (.t 11), some (10, true)⟩,
 ⟨some 13, .faddr 1 (.t 3), some (10, true)⟩,
 ⟨some 14, .load 1 false (.t 13), some (10, true)⟩,
 ⟨some 15, .call 220 [(false, .t 12), (false, .t 14)], some (10, true)⟩,
 ⟨some 16, .pick (.t 10) (.t 15) (.c (.bool false)), none⟩,
 ⟨some 17, .mv (.t 16), none⟩,
 ⟨some 18, .faddr 2 (.t 2), some (17, true)⟩,
 ⟨some 19, .load 1 false (.t 18), some (17, true)⟩,
 ⟨some 20, .faddr 2 (.t 3), some (17, true)⟩,
 ⟨some 21, .load 1 false (.t 20), some (17, true)⟩,
 ⟨some 22, .bin .eql (.t 19) (.t 21), some (17, true)⟩,
 ⟨some 23, .pick (.t 17) (.t 22) (.c (.bool false)), none⟩,
 ⟨some 4, .mv (.t 23), none⟩])
 .ret))
def if_impl_sameCommit : IFn := ⟨24, [.inl 4], ib_impl_sameCommit, lcF []⟩
def ks_impl_sameCommit : List (List (Option Nat)) := [[none]]
def gf_impl_sameCommit (a0 : Commit) (a1 : Commit) : Option Bool := (gf_slices_Equal_int_int a0.up a1.up).bind fun x3 => if x3 = true then ((gf_impl_SheetSame a0.sheet a1.sheet).bind fun x5 => if x5 = true then (some ((seq a0.note a1.note))) else (some (false))) else (some (false))
def c_impl_sameCommit : Con := ⟨Commit × Commit, Bool, 330, fun a => [.agg [.ro (List.map eInt a.1.up), .ro (List.map (eFeat false) a.1.sheet), .v (.string a.1.note)], .agg [.ro (List.map eInt a.2.up), .ro (List.map (eFeat false) a.2.sheet), .v (.string a.2.note)]], fun a => gf_impl_sameCommit a.1 a.2, fun a r => ⟨[(false, [.v (.bool r)])], []⟩, fun a => []⟩
/-! slices.Index[[]int,int] -/
def ib_slices_Index_int_int : IC :=
 (.seq (.reg [⟨some 4, .mv (.c (.int .i64 0)), none⟩])
 (.seq (.seq (.reg [⟨some 6, .mv (.t 0), none⟩,
 ⟨some 7, .len false (.t 6), none⟩,
 ⟨some 8, .mv (.c (.int .i64 0)), none⟩])
 (blkC 0 (.loop (.seq (.reg [⟨some 9, .bin .lss (.t 8) (.t 7), none⟩])
 (.seq (.cond (.t 9) .skip
 (.exit 0))
 (.seq (.block 1 (.seq (.reg [⟨some 10, .mv (.t 8), none⟩,
 ⟨some 5, .mv (.t 10), none⟩])
 (.seq (.reg [⟨some 11, .mv (.t 1), none⟩,
 ⟨some 12, .mv (.t 0), none⟩,
 ⟨some 13, .mv (.t 5), none⟩,
 ⟨some 14, .iaddr 1 (.t 12) (.t 13), none⟩,
 ⟨some 15, .load 1 false (.t 14), none⟩,
 ⟨some 16, .bin .eql (.t 11) (.t 15), none⟩])
 (.cond (.t 16) (.seq (.reg [⟨some 17, .mv (.t 5), none⟩,
 ⟨some 4, .mv (.t 17), none⟩])
 .ret)
 .skip))))
 (.reg [⟨some 18, .bin .add (.t 8) (.c (.int .i64 1)), none⟩,
 ⟨some 8, .mv (.t 18), none⟩])))))))
 (.seq (.reg [⟨some 4, .mv (.c (.int .i64 (-1))), none⟩])
 .ret)))
def if_slices_Index_int_int : IFn := ⟨19, [.inl 4], ib_slices_Index_int_int, lcF []⟩
def ks_slices_Index_int_int : List (List (Option Nat)) := [[none]]
def gl_slices_Index_int_int_1 (a1 : Int) : List Int → Nat → Option (Int ⊕ Unit)
  | [], k10 => some (.inr ())
  | x11 :: l12, k10 => if (a1 == x11) = true then (some (.inl ((k10 : Int)))) else (gl_slices_Index_int_int_1 a1 l12 (k10 + 1) )
def gf_slices_Index_int_int (a0 : (List Int)) (a1 : Int) : Option Int := if fits a0.length = true then ((gl_slices_Index_int_int_1 a1 a0 0 ).bind fun q => match q with | .inl r => some r | .inr q8 => some ((-1))) else none
def c_slices_Index_int_int : Con := ⟨(List Int) × Int, Int, 85, fun a => [.ro (List.map eInt a.1), .v (.int .i64 a.2)], fun a => gf_slices_Index_int_int a.1 a.2, fun a r => ⟨[(false, [.v (.int .i64 r)])], []⟩, fun a => []⟩
/-! impl.SheetOk -/
def ib_impl_SheetOk : IC :=
 (.seq (.reg [⟨some 2, .mv (.c (.bool false)), none⟩])
 (.seq (.seq (.reg [⟨some 5, .mv (.t 0), none⟩,
 ⟨some 6, .len false (.t 5), none⟩,
 ⟨some 7, .mv (.c (.int .i64 0)), none⟩])
 (blkC 0 (.loop (.seq (.reg [⟨some 8, .bin .lss (.t 7) (.t 6), none⟩])
 (.seq (.cond (.t 8) .skip
 (.exit 0))
 (.seq (.block 1 (.seq (.reg [⟨some 9, .mv (.t 7), none⟩,
 ⟨some 10, .iaddr 4 (.t 5) (.t 7), none⟩,
 ⟨some 11, .load 4 true (.t 10), none⟩,
 ⟨some 4, .alloc 100 [.v (.string ⟨#[]⟩), .v (.int .i64 0), .sl true 66 [], .sl true 82 []], none⟩,
 ⟨some 3, .mv (.t 9), none⟩,
 ⟨none, .store [none, none, some 66, some 82] (.t 4) (.t 11), none⟩])
 (.seq (.drw [⟨some 12, .load 4 true (.t 4), none⟩,
 ⟨some 13, .call 82 [(false, .t 12)], none⟩,
 ⟨some 14, .un .not (.t 13), none⟩,
 ⟨some 15, .mv (.t 14), none⟩,
 ⟨some 16, .mv (.t 3), some (15, false)⟩,
 ⟨some 17, .bin .gtr (.t 16) (.c (.int .i64 0)), some (15, false)⟩,
 ⟨some 18, .mv (.t 17), some (15, false)⟩,
 ⟨some 19, .mv (.t 0), some (18, true)⟩,
 ⟨some 20, .mv (.t 3), some (18, true)⟩,
 ⟨some 21, .bin .sub (.t 20) (.c (.int .i64 1)), some (18, true)⟩,
 ⟨some 22, .iaddr 4 (.t 19) (.t 21), some (18, true)⟩,
 ⟨some 23, .faddr 0 (.t 22), some (18, true)⟩,
 ⟨some 24, .load 1 false (.t 23), some (18, true)⟩,
 ⟨some 25, .faddr 0 (.t 4), some (18, true)⟩,
 ⟨some 26, .load 1 false (.t 25), some (18, true)⟩,
 ⟨some 27, .bin .geq (.t 24) (.t 26), some (18, true)⟩,
 ⟨some 28, .pick (.t 18) (.t 27) (.c (.bool false)), some (15, false)⟩,
 ⟨some 29, .pick (.t 15) (.c (.bool true)) (.t 28), none⟩] [(12, 14)])
 (.cond (.t 29) (.seq (.reg [⟨some 2, .mv (.c (.bool false)), none⟩])
 .ret)
 .skip))))
 (.reg [⟨some 30, .bin .add (.t 7) (.c (.int .i64 1)), none⟩,
 ⟨some 7, .mv (.t 30), none⟩])))))))
 (.seq (.reg [⟨some 31, .mv (.t 0), none⟩,
 ⟨some 32, .len false (.t 31), none⟩,
 ⟨some 33, .bin .leq (.t 32) (.c (.int .i64 8)), none⟩,
 ⟨some 2, .mv (.t 33), none⟩])
 .ret)))
def if_impl_SheetOk : IFn := ⟨34, [.inl 2], ib_impl_SheetOk, lcF []⟩
def ks_impl_SheetOk : List (List (Option Nat)) := [[none]]
def gl_impl_SheetOk_1 (a0 : (List Feat)) : List Feat → Nat → Option (Bool ⊕ Unit)
  | [], k23 => some (.inr ())
  | x24 :: l25, k23 => (gf_impl_FeatOk x24).bind fun x33 => if (!x33) = true then (some (.inl (false))) else (if (decide ((k23 : Int) > 0)) = true then ((idx a0 (IntKind.i64.wrap ((k23 : Int) - 1))).bind fun x35 => if (!slt x35.id x24.id) = true then (some (.inl (false))) else (gl_impl_SheetOk_1 a0 l25 (k23 + 1) )) else (gl_impl_SheetOk_1 a0 l25 (k23 + 1) ))
def gf_impl_SheetOk (a0 : (List Feat)) : Option Bool := if fits a0.length = true then ((gl_impl_SheetOk_1 a0 a0 0 ).bind fun q => match q with | .inl r => some r | .inr q21 => some ((decide ((a0.length : Int) ≤ 8)))) else none
def c_impl_SheetOk : Con := ⟨(List Feat), Bool, 86, fun a => [.ro (List.map (eFeat false) a)], fun a => gf_impl_SheetOk a, fun a r => ⟨[(false, [.v (.bool r)])], []⟩, fun a => []⟩
/-! (impl.Repo).commit$1 -/
def ib_impl_Repo_commit_1 : IC :=
 (.seq (.reg [⟨some 2, .box 115 [some 17, some 100, none] (.t 0), none⟩,
 ⟨some 3, .mv (.c (.bool false)), none⟩])
 (.seq (.reg [⟨some 4, .load 3 true (.t 2), none⟩,
 ⟨some 5, .load 3 true (.t 1), none⟩,
 ⟨some 6, .call 330 [(false, .t 4), (false, .t 5)], none⟩,
 ⟨some 3, .mv (.t 6), none⟩])
 .ret))
def if_impl_Repo_commit_1 : IFn := ⟨7, [.inl 3], ib_impl_Repo_commit_1, lcF []⟩
def ks_impl_Repo_commit_1 : List (List (Option Nat)) := [[none]]
def gf_impl_Repo_commit_1 (a0 : Commit) (a1 : Commit) : Option Bool := (gf_impl_sameCommit a0 a1).bind fun x2 => some (x2)
def c_impl_Repo_commit_1 : Con := ⟨Commit × Commit, Bool, 83, fun a => [.agg [.ro (List.map eInt a.1.up), .ro (List.map (eFeat false) a.1.sheet), .v (.string a.1.note)], .rptr [.sl false 1 (List.map eInt a.2.up), .sl false 4 (List.map (eFeat false) a.2.sheet), .v (.string a.2.note)]], fun a => gf_impl_Repo_commit_1 a.1 a.2, fun a r => ⟨[(false, [.v (.bool r)])], []⟩, fun a => []⟩
/-! slices.IndexFunc[[]impl.Commit,impl.Commit] -/
def ib_slices_IndexFunc_impl_Commit_impl_Commit : IC :=
 (.seq (.reg [⟨some 4, .mv (.c (.int .i64 0)), none⟩])
 (.seq (.seq (.reg [⟨some 6, .mv (.t 0), none⟩,
 ⟨some 7, .len false (.t 6), none⟩,
 ⟨some 8, .mv (.c (.int .i64 0)), none⟩])
 (blkC 0 (.loop (.seq (.reg [⟨some 9, .bin .lss (.t 8) (.t 7), none⟩])
 (.seq (.cond (.t 9) .skip
 (.exit 0))
 (.seq (.block 1 (.seq (.reg [⟨some 10, .mv (.t 8), none⟩,
 ⟨some 5, .mv (.t 10), none⟩])
 (.seq (.reg [⟨some 11, .mv (.t 1), none⟩,
 ⟨some 12, .mv (.t 0), none⟩,
 ⟨some 13, .mv (.t 5), none⟩,
 ⟨some 14, .iaddr 3 (.t 12) (.t 13), none⟩,
 ⟨some 15, .load 3 true (.t 14), none⟩,
 ⟨some 16, .calld (.t 11) [(false, .t 15)], none⟩])
 (.cond (.t 16) (.seq (.reg [⟨some 17, .mv (.t 5), none⟩,
 ⟨some 4, .mv (.t 17), none⟩])
 .ret)
 .skip))))
 (.reg [⟨some 18, .bin .add (.t 8) (.c (.int .i64 1)), none⟩,
 ⟨some 8, .mv (.t 18), none⟩])))))))
 (.seq (.reg [⟨some 4, .mv (.c (.int .i64 (-1))), none⟩])
 .ret)))
def if_slices_IndexFunc_impl_Commit_impl_Commit : IFn := ⟨19, [.inl 4], ib_slices_IndexFunc_impl_Commit_impl_Commit, lcF []⟩
def ks_slices_IndexFunc_impl_Commit_impl_Commit : List (List (Option Nat)) := [[none]]
def gl_slices_IndexFunc_impl_Commit_impl_Commit__impl_Repo_commit_1_1 (a1 : Commit) : List Commit → Nat → Option (Int ⊕ Unit)
  | [], k16 => some (.inr ())
  | x17 :: l18, k16 => (gf_impl_Repo_commit_1 x17 a1).bind fun x25 => if x25 = true then (some (.inl ((k16 : Int)))) else (gl_slices_IndexFunc_impl_Commit_impl_Commit__impl_Repo_commit_1_1 a1 l18 (k16 + 1) )
def gf_slices_IndexFunc_impl_Commit_impl_Commit__impl_Repo_commit_1 (a0 : (List Commit)) (a1 : Commit) : Option Int := if fits a0.length = true then ((gl_slices_IndexFunc_impl_Commit_impl_Commit__impl_Repo_commit_1_1 a1 a0 0 ).bind fun q => match q with | .inl r => some r | .inr q14 => some ((-1))) else none
def c_slices_IndexFunc_impl_Commit_impl_Commit__impl_Repo_commit_1 : Con := ⟨(List Commit) × Commit, Int, 84, fun a => [.ro (List.map (eCommit false) a.1), .fn 83 [.rptr [.sl false 1 (List.map eInt a.2.up), .sl false 4 (List.map (eFeat false) a.2.sheet), .v (.string a.2.note)]]], fun a => gf_slices_IndexFunc_impl_Commit_impl_Commit__impl_Repo_commit_1 a.1 a.2, fun a r => ⟨[(false, [.v (.int .i64 r)])], []⟩, fun a => []⟩
/-! (impl.Repo).commit -/
def ib_impl_Repo_commit : IC :=
 (.seq (.reg [⟨some 2, .box 210 [some 115, some 130] (.t 0), none⟩,
 ⟨some 3, .box 115 [some 17, some 100, none] (.t 1), none⟩,
 ⟨some 4, .mv (.c (.int .i64 0)), none⟩])
 (.seq (.reg [⟨some 5, .faddr 0 (.t 2), none⟩,
 ⟨some 6, .load 1 false (.t 5), none⟩,
 ⟨some 7, .mkf 83 [.t 3], none⟩,
 ⟨some 8, .call 84 [(false, .t 6), (false, .t 7)], none⟩,
 ⟨some 4, .mv (.t 8), none⟩])
 .ret))
def if_impl_Repo_commit : IFn := ⟨9, [.inl 4], ib_impl_Repo_commit, lcF []⟩
def ks_impl_Repo_commit : List (List (Option Nat)) := [[none]]
def gf_impl_Repo_commit (a0 : Repo) (a1 : Commit) : Option Int := (gf_slices_IndexFunc_impl_Commit_impl_Commit__impl_Repo_commit_1 a0.commits a1).bind fun x3 => some (x3)
def c_impl_Repo_commit : Con := ⟨Repo × Commit, Int, 87, fun a => [.agg [.ro (List.map (eCommit false) a.1.commits), .ro (List.map eHead a.1.heads)], .agg [.ro (List.map eInt a.2.up), .ro (List.map (eFeat false) a.2.sheet), .v (.string a.2.note)]], fun a => gf_impl_Repo_commit a.1 a.2, fun a r => ⟨[(false, [.v (.int .i64 r)])], []⟩, fun a => []⟩
/-! slices.Contains[[]int,int] -/
def ib_slices_Contains_int_int : IC :=
 (.seq (.reg [⟨some 4, .mv (.c (.bool false)), none⟩])
 (.seq (.reg [⟨some 5, .mv (.t 0), none⟩,
 ⟨some 6, .mv (.t 1), none⟩,
 ⟨some 7, .call 85 [(false, .t 5), (false, .t 6)], none⟩,
 ⟨some 8, .bin .geq (.t 7) (.c (.int .i64 0)), none⟩,
 ⟨some 4, .mv (.t 8), none⟩])
 .ret))
def if_slices_Contains_int_int : IFn := ⟨9, [.inl 4], ib_slices_Contains_int_int, lcF []⟩
def ks_slices_Contains_int_int : List (List (Option Nat)) := [[none]]
def gf_slices_Contains_int_int (a0 : (List Int)) (a1 : Int) : Option Bool := (gf_slices_Index_int_int a0 a1).bind fun x1 => some ((decide (x1 ≥ 0)))
def c_slices_Contains_int_int : Con := ⟨(List Int) × Int, Bool, 88, fun a => [.ro (List.map eInt a.1), .v (.int .i64 a.2)], fun a => gf_slices_Contains_int_int a.1 a.2, fun a r => ⟨[(false, [.v (.bool r)])], []⟩, fun a => []⟩
/-! (impl.Repo).head$1 -/
def ib_impl_Repo_head_1 : IC :=
 (.seq (.reg [⟨some 2, .box 130 [none, none] (.t 0), none⟩,
 ⟨some 3, .mv (.c (.bool false)), none⟩])
 (.seq (.reg [⟨some 4, .faddr 0 (.t 2), none⟩,
 ⟨some 5, .load 1 false (.t 4), none⟩,
 ⟨some 6, .load 1 false (.t 1), none⟩,
 ⟨some 7, .bin .eql (.t 5) (.t 6), none⟩,
 ⟨some 3, .mv (.t 7), none⟩])
 .ret))
def if_impl_Repo_head_1 : IFn := ⟨8, [.inl 3], ib_impl_Repo_head_1, lcF []⟩
def ks_impl_Repo_head_1 : List (List (Option Nat)) := [[none]]
def gf_impl_Repo_head_1 (a0 : Head) (a1 : Str) : Option Bool := some ((seq a0.name a1))
def c_impl_Repo_head_1 : Con := ⟨Head × Str, Bool, 77, fun a => [.agg [.v (.string a.1.name), .v (.int .i64 a.1.at_)], .rptr [.v (.string a.2)]], fun a => gf_impl_Repo_head_1 a.1 a.2, fun a r => ⟨[(false, [.v (.bool r)])], []⟩, fun a => []⟩
/-! slices.IndexFunc[[]impl.Head,impl.Head] -/
def ib_slices_IndexFunc_impl_Head_impl_Head : IC :=
 (.seq (.reg [⟨some 4, .mv (.c (.int .i64 0)), none⟩])
 (.seq (.seq (.reg [⟨some 6, .mv (.t 0), none⟩,
 ⟨some 7, .len false (.t 6), none⟩,
 ⟨some 8, .mv (.c (.int .i64 0)), none⟩])
 (blkC 0 (.loop (.seq (.reg [⟨some 9, .bin .lss (.t 8) (.t 7), none⟩])
 (.seq (.cond (.t 9) .skip
 (.exit 0))
 (.seq (.block 1 (.seq (.reg [⟨some 10, .mv (.t 8), none⟩,
 ⟨some 5, .mv (.t 10), none⟩])
 (.seq (.reg [⟨some 11, .mv (.t 1), none⟩,
 ⟨some 12, .mv (.t 0), none⟩,
 ⟨some 13, .mv (.t 5), none⟩,
 ⟨some 14, .iaddr 2 (.t 12) (.t 13), none⟩,
 ⟨some 15, .load 2 true (.t 14), none⟩,
 ⟨some 16, .calld (.t 11) [(false, .t 15)], none⟩])
 (.cond (.t 16) (.seq (.reg [⟨some 17, .mv (.t 5), none⟩,
 ⟨some 4, .mv (.t 17), none⟩])
 .ret)
 .skip))))
 (.reg [⟨some 18, .bin .add (.t 8) (.c (.int .i64 1)), none⟩,
 ⟨some 8, .mv (.t 18), none⟩])))))))
 (.seq (.reg [⟨some 4, .mv (.c (.int .i64 (-1))), none⟩])
 .ret)))
def if_slices_IndexFunc_impl_Head_impl_Head : IFn := ⟨19, [.inl 4], ib_slices_IndexFunc_impl_Head_impl_Head, lcF []⟩
def ks_slices_IndexFunc_impl_Head_impl_Head : List (List (Option Nat)) := [[none]]
def gl_slices_IndexFunc_impl_Head_impl_Head__impl_Repo_head_1_1 (a1 : Str) : List Head → Nat → Option (Int ⊕ Unit)
  | [], k16 => some (.inr ())
  | x17 :: l18, k16 => (gf_impl_Repo_head_1 x17 a1).bind fun x25 => if x25 = true then (some (.inl ((k16 : Int)))) else (gl_slices_IndexFunc_impl_Head_impl_Head__impl_Repo_head_1_1 a1 l18 (k16 + 1) )
def gf_slices_IndexFunc_impl_Head_impl_Head__impl_Repo_head_1 (a0 : (List Head)) (a1 : Str) : Option Int := if fits a0.length = true then ((gl_slices_IndexFunc_impl_Head_impl_Head__impl_Repo_head_1_1 a1 a0 0 ).bind fun q => match q with | .inl r => some r | .inr q14 => some ((-1))) else none
def c_slices_IndexFunc_impl_Head_impl_Head__impl_Repo_head_1 : Con := ⟨(List Head) × Str, Int, 78, fun a => [.ro (List.map eHead a.1), .fn 77 [.rptr [.v (.string a.2)]]], fun a => gf_slices_IndexFunc_impl_Head_impl_Head__impl_Repo_head_1 a.1 a.2, fun a r => ⟨[(false, [.v (.int .i64 r)])], []⟩, fun a => []⟩
/-! (impl.Repo).head -/
def ib_impl_Repo_head : IC :=
 (.seq (.reg [⟨some 2, .box 210 [some 115, some 130] (.t 0), none⟩,
 ⟨some 3, .box 49 [none] (.t 1), none⟩,
 ⟨some 4, .mv (.c (.int .i64 0)), none⟩])
 (.seq (.reg [⟨some 5, .faddr 1 (.t 2), none⟩,
 ⟨some 6, .load 1 false (.t 5), none⟩,
 ⟨some 7, .mkf 77 [.t 3], none⟩,
 ⟨some 8, .call 78 [(false, .t 6), (false, .t 7)], none⟩,
 ⟨some 4, .mv (.t 8), none⟩])
 .ret))
def if_impl_Repo_head : IFn := ⟨9, [.inl 4], ib_impl_Repo_head, lcF []⟩
def ks_impl_Repo_head : List (List (Option Nat)) := [[none]]
def gf_impl_Repo_head (a0 : Repo) (a1 : Str) : Option Int := (gf_slices_IndexFunc_impl_Head_impl_Head__impl_Repo_head_1 a0.heads a1).bind fun x3 => some (x3)
def c_impl_Repo_head : Con := ⟨Repo × Str, Int, 89, fun a => [.agg [.ro (List.map (eCommit false) a.1.commits), .ro (List.map eHead a.1.heads)], .v (.string a.2)], fun a => gf_impl_Repo_head a.1 a.2, fun a r => ⟨[(false, [.v (.int .i64 r)])], []⟩, fun a => []⟩
/-! (impl.Repo).version -/
def ib_impl_Repo_version : IC :=
 (.seq (.reg [⟨some 2, .box 210 [some 115, some 130] (.t 0), none⟩,
 ⟨some 4, .mv (.c (.bool false)), none⟩])
 (.seq (.reg [⟨some 5, .mv (.t 1), none⟩,
 ⟨some 6, .faddr 0 (.t 2), none⟩,
 ⟨some 7, .load 1 false (.t 6), none⟩,
 ⟨some 8, .len false (.t 7), none⟩,
 ⟨some 9, .bin .sub (.t 8) (.c (.int .i64 1)), none⟩,
 ⟨some 10, .call 76 [(false, .t 5), (false, .c (.int .i64 0)), (false, .t 9)], none⟩,
 ⟨some 4, .mv (.t 10), none⟩])
 .ret))
def if_impl_Repo_version : IFn := ⟨11, [.inl 4], ib_impl_Repo_version, lcF []⟩
def ks_impl_Repo_version : List (List (Option Nat)) := [[none]]
def gf_impl_Repo_version (a0 : Repo) (a1 : Int) : Option Bool := (gf_impl_within a1 0 (IntKind.i64.wrap ((a0.commits.length : Int) - 1))).bind fun x2 => some (x2)
def c_impl_Repo_version : Con := ⟨Repo × Int, Bool, 90, fun a => [.agg [.ro (List.map (eCommit false) a.1.commits), .ro (List.map eHead a.1.heads)], .v (.int .i64 a.2)], fun a => gf_impl_Repo_version a.1 a.2, fun a r => ⟨[(false, [.v (.bool r)])], []⟩, fun a => []⟩
/-! impl.RepoOk -/
def ib_impl_RepoOk : IC :=
 (.seq (.reg [⟨some 1, .box 210 [some 115, some 130] (.t 0), none⟩,
 ⟨some 2, .mv (.c (.bool false)), none⟩])
 (.seq (.seq (.reg [⟨some 9, .faddr 0 (.t 1), none⟩,
 ⟨some 10, .load 1 false (.t 9), none⟩,
 ⟨some 11, .len false (.t 10), none⟩,
 ⟨some 12, .call 76 [(false, .t 11), (false, .c (.int .i64 1)), (false, .c (.int .i64 14))], none⟩,
 ⟨some 13, .un .not (.t 12), none⟩,
 ⟨some 14, .mv (.t 13), none⟩,
 ⟨some 15, .faddr 1 (.t 1), some (14, false)⟩,
 ⟨some 16, .load 1 false (.t 15), some (14, false)⟩,
 ⟨some 17, .len false (.t 16), some (14, false)⟩,
 ⟨some 18, .call 76 [(false, .t 17), (false, .c (.int .i64 1)), (false, .c (.int .i64 4))], some (14, false)⟩,
 ⟨some 19, .un .not (.t 18), some (14, false)⟩,
 ⟨some 20, .pick (.t 14) (.c (.bool true)) (.t 19), none⟩])
 (.cond (.t 20) (.seq (.reg [⟨some 2, .mv (.c (.bool false)), none⟩])
 .ret)
 .skip))
 (.seq (.seq (.reg [⟨some 21, .faddr 0 (.t 1), none⟩,
 ⟨some 22, .load 1 false (.t 21), none⟩,
 ⟨some 23, .len false (.t 22), none⟩,
 ⟨some 24, .mv (.c (.int .i64 0)), none⟩])
 (blkC 0 (.loop (.seq (.reg [⟨some 25, .bin .lss (.t 24) (.t 23), none⟩])
 (.seq (.cond (.t 25) .skip
 (.exit 0))
 (.seq (.block 1 (.seq (.reg [⟨some 26, .mv (.t 24), none⟩,
 ⟨some 27, .iaddr 3 (.t 22) (.t 24), none⟩,
 ⟨some 28, .load 3 true (.t 27), none⟩,
 ⟨some 4, .alloc 115 [.sl true 17 [], .sl true 100 [], .v (.string ⟨#[]⟩)], none⟩,
 ⟨some 3, .mv (.t 26), none⟩,
 ⟨none, .store [some 17, some 100, none] (.t 4) (.t 28), none⟩])
 (.seq (.seq (.reg [⟨some 29, .faddr 1 (.t 4), none⟩,
 ⟨some 30, .load 1 false (.t 29), none⟩,
 ⟨some 31, .call 86 [(false, .t 30)], none⟩,
 ⟨some 32, .un .not (.t 31), none⟩,
 ⟨some 33, .mv (.t 32), none⟩,
 ⟨some 34, .faddr 2 (.t 4), some (33, false)⟩,
 ⟨some 35, .load 1 false (.t 34), some (33, false)⟩,
 ⟨some 36, .call 80 [(false, .t 35)], some (33, false)⟩,
 ⟨some 37, .un .not (.t 36), some (33, false)⟩,
 ⟨some 38, .pick (.t 33) (.c (.bool true)) (.t 37), none⟩,
 ⟨some 39, .mv (.t 38), none⟩,
 ⟨some 40, .load 2 true (.t 1), some (39, false)⟩,
 ⟨some 41, .load 3 true (.t 4), some (39, false)⟩,
 ⟨some 42, .call 87 [(false, .t 40), (false, .t 41)], some (39, false)⟩,
 ⟨some 43, .mv (.t 3), some (39, false)⟩,
 ⟨some 44, .bin .neq (.t 42) (.t 43), some (39, false)⟩,
 ⟨some 45, .pick (.t 39) (.c (.bool true)) (.t 44), none⟩,
 ⟨some 46, .mv (.t 45), none⟩,
 ⟨some 47, .mv (.t 3), some (46, false)⟩,
 ⟨some 48, .bin .eql (.t 47) (.c (.int .i64 0)), some (46, false)⟩,
 ⟨some 49, .faddr 0 (.t 4), some (46, false)⟩,
 ⟨some 50, .load 1 false (.t 49), some (46, false)⟩,
 ⟨some 51, .len false (.t 50), some (46, false)⟩,
 ⟨some 52, .bin .eql (.t 51) (.c (.int .i64 0)), some (46, false)⟩,
 ⟨some 53, .eqs true false [1] (.t 48) (.t 52), some (46, false)⟩,
 ⟨some 54, .pick (.t 46) (.c (.bool true)) (.t 53), none⟩,
 ⟨some 55, .mv (.t 54), none⟩,
 ⟨some 56, .faddr 0 (.t 4), some (55, false)⟩,
 ⟨some 57, .load 1 false (.t 56), some (55, false)⟩,
 ⟨some 58, .len false (.t 57), some (55, false)⟩,
 ⟨some 59, .bin .gtr (.t 58) (.c (.int .i64 2)), some (55, false)⟩,
 ⟨some 60, .pick (.t 55) (.c (.bool true)) (.t 59), none⟩])
 (.cond (.t 60) (.seq (.reg [⟨some 2, .mv (.c (.bool false)), none⟩])
 .ret)
 .skip))
 (.seq (.reg [⟨some 61, .faddr 0 (.t 4), none⟩,
 ⟨some 62, .load 1 false (.t 61), none⟩,
 ⟨some 63, .len false (.t 62), none⟩,
 ⟨some 64, .mv (.c (.int .i64 0)), none⟩])
 (blkC 2 (.loop (.seq (.reg [⟨some 65, .bin .lss (.t 64) (.t 63), none⟩])
 (.seq (.cond (.t 65) .skip
 (.exit 2))
 (.seq (.block 3 (.seq (.reg [⟨some 66, .mv (.t 64), none⟩,
 ⟨some 67, .iaddr 1 (.t 62) (.t 64), none⟩,
 ⟨some 68, .load 1 false (.t 67), none⟩,
 ⟨some 5, .mv (.t 66), none⟩,
 ⟨some 6, .mv (.t 68), none⟩])
 (.seq (.reg [⟨some 69, .mv (.t 6), none⟩,
 ⟨some 70, .mv (.t 3), none⟩,
 ⟨some 71, .bin .sub (.t 70) (.c (.int .i64 1)), none⟩,
 ⟨some 72, .call 76 [(false, .t 69), (false, .c (.int .i64 0)), (false, .t 71)], none⟩,
 ⟨some 73, .un .not (.t 72), none⟩,
 ⟨some 74, .mv (.t 73), none⟩,
 ⟨some 75, .faddr 0 (.t 4), some (74, false)⟩,
 ⟨some 76, .load 1 false (.t 75), some (74, false)⟩,
 ⟨some 77, .mv (.t 5), some (74, false)⟩,
 ⟨some 78, .sls 1 (.t 76) none (some (.t 77)), some (74, false)⟩,
 ⟨some 79, .mv (.t 6), some (74, false)⟩,
 ⟨some 80, .call 88 [(false, .t 78), (false, .t 79)], some (74, false)⟩,
 ⟨some 81, .pick (.t 74) (.c (.bool true)) (.t 80), none⟩])
 (.cond (.t 81) (.seq (.reg [⟨some 2, .mv (.c (.bool false)), none⟩])
 .ret)
 .skip))))
 (.reg [⟨some 82, .bin .add (.t 64) (.c (.int .i64 1)), none⟩,
 ⟨some 64, .mv (.t 82), none⟩]))))))))))
 (.reg [⟨some 83, .bin .add (.t 24) (.c (.int .i64 1)), none⟩,
 ⟨some 24, .mv (.t 83), none⟩])))))))
 (.seq (.seq (.reg [⟨some 84, .faddr 1 (.t 1), none⟩,
 ⟨some 85, .load 1 false (.t 84), none⟩,
 ⟨some 86, .len false (.t 85), none⟩,
 ⟨some 87, .mv (.c (.int .i64 0)), none⟩])
 (blkC 4 (.loop (.seq (.reg [⟨some 88, .bin .lss (.t 87) (.t 86), none⟩])
 (.seq (.cond (.t 88) .skip
 (.exit 4))
 (.seq (.block 5 (.seq (.reg [⟨some 89, .mv (.t 87), none⟩,
 ⟨some 90, .iaddr 2 (.t 85) (.t 87), none⟩,
 ⟨some 91, .load 2 true (.t 90), none⟩,
 ⟨some 8, .alloc 130 [.v (.string ⟨#[]⟩), .v (.int .i64 0)], none⟩,
 ⟨some 7, .mv (.t 89), none⟩,
 ⟨none, .store [none, none] (.t 8) (.t 91), none⟩])
 (.seq (.reg [⟨some 92, .faddr 0 (.t 8), none⟩,
 ⟨some 93, .load 1 false (.t 92), none⟩,
 ⟨some 94, .call 80 [(false, .t 93)], none⟩,
 ⟨some 95, .un .not (.t 94), none⟩,
 ⟨some 96, .mv (.t 95), none⟩,
 ⟨some 97, .load 2 true (.t 1), some (96, false)⟩,
 ⟨some 98, .faddr 0 (.t 8), some (96, false)⟩,
 ⟨some 99, .load 1 false (.t 98), some (96, false)⟩,
 ⟨some 100, .call 89 [(false, .t 97), (false, .t 99)], some (96, false)⟩,
 ⟨some 101, .mv (.t 7), some (96, false)⟩,
 ⟨some 102, .bin .neq (.t 100) (.t 101), some (96, false)⟩,
 ⟨some 103, .pick (.t 96) (.c (.bool true)) (.t 102), none⟩,
 ⟨some 104, .mv (.t 103), none⟩,
 ⟨some 105, .load 2 true (.t 1), some (104, false)⟩,
 ⟨some 106, .faddr 1 (.t 8), some (104, false)⟩,
 ⟨some 107, .load 1 false (.t 106), some (104, false)⟩,
 ⟨some 108, .call 90 [(false, .t 105), (false, .t 107)], some (104, false)⟩,
 ⟨some 109, .un .not (.t 108), some (104, false)⟩,
 ⟨some 110, .pick (.t 104) (.c (.bool true)) (.t 109), none⟩])
 (.cond (.t 110) (.seq (.reg [⟨some 2, .mv (.c (.bool false)), none⟩])
 .ret)
 .skip))))
 (.reg [⟨some 111, .bin .add (.t 87) (.c (.int .i64 1)), none⟩,
 ⟨some 87, .mv (.t 111), none⟩])))))))
 (.seq (.reg [⟨some 2, .mv (.c (.bool true)), none⟩])
 .ret)))))
def if_impl_RepoOk : IFn := ⟨112, [.inl 2], ib_impl_RepoOk, lcF []⟩
def ks_impl_RepoOk : List (List (Option Nat)) := [[none]]
def gl_impl_RepoOk_5 (k189 : Nat) (x190 : Commit) : List Int → Nat → Option (Bool ⊕ Unit)
  | [], k238 => some (.inr ())
  | x239 :: l240, k238 => (gf_impl_within x239 0 (IntKind.i64.wrap ((k189 : Int) - 1))).bind fun x247 => if (!x247) = true then (some (.inl (false))) else ((slc x190.up 0 (k238 : Int)).bind fun x249 => (gf_slices_Contains_int_int x249 x239).bind fun x251 => if x251 = true then (some (.inl (false))) else (gl_impl_RepoOk_5 k189 x190 l240 (k238 + 1) ))
def gl_impl_RepoOk_4 (a0 : Repo) : List Commit → Nat → Option (Bool ⊕ Unit)
  | [], k189 => some (.inr ())
  | x190 :: l191, k189 => (gf_impl_SheetOk x190.sheet).bind fun x199 => if (!x199) = true then (some (.inl (false))) else ((gf_impl_WordOk x190.note).bind fun x201 => if (!x201) = true then (some (.inl (false))) else ((gf_impl_Repo_commit a0 x190).bind fun x203 => if (x203 != (k189 : Int)) = true then (some (.inl (false))) else (if (!(((k189 : Int) == 0) == ((x190.up.length : Int) == 0))) = true then (some (.inl (false))) else (if (decide ((x190.up.length : Int) > 2)) = true then (some (.inl (false))) else (if fits x190.up.length = true then ((gl_impl_RepoOk_5 k189 x190 x190.up 0 ).bind fun q => match q with | .inl r => some (.inl r) | .inr q234 => gl_impl_RepoOk_4 a0 l191 (k189 + 1) ) else none)))))
def gl_impl_RepoOk_6 (a0 : Repo) : List Head → Nat → Option (Bool ⊕ Unit)
  | [], k289 => some (.inr ())
  | x290 :: l291, k289 => (gf_impl_WordOk x290.name).bind fun x299 => if (!x299) = true then (some (.inl (false))) else ((gf_impl_Repo_head a0 x290.name).bind fun x301 => if (x301 != (k289 : Int)) = true then (some (.inl (false))) else ((gf_impl_Repo_version a0 x290.at_).bind fun x303 => if (!x303) = true then (some (.inl (false))) else (gl_impl_RepoOk_6 a0 l291 (k289 + 1) )))
def gf_impl_RepoOk (a0 : Repo) : Option Bool := (gf_impl_within (a0.commits.length : Int) 1 14).bind fun x2 => if (!x2) = true then (some (false)) else ((gf_impl_within (a0.heads.length : Int) 1 4).bind fun x4 => if (!x4) = true then (some (false)) else (if fits a0.commits.length = true then ((gl_impl_RepoOk_4 a0 a0.commits 0 ).bind fun q => match q with | .inl r => some r | .inr q186 => if fits a0.heads.length = true then ((gl_impl_RepoOk_6 a0 a0.heads 0 ).bind fun q => match q with | .inl r => some r | .inr q286 => some (true)) else none) else none))
def c_impl_RepoOk : Con := ⟨Repo, Bool, 96, fun a => [.agg [.ro (List.map (eCommit false) a.commits), .ro (List.map eHead a.heads)]], fun a => gf_impl_RepoOk a, fun a r => ⟨[(false, [.v (.bool r)])], []⟩, fun a => []⟩
/-! (impl.Repo).past -/
def ib_impl_Repo_past : IC :=
 (.seq (.reg [⟨some 2, .box 210 [some 115, some 130] (.t 0), none⟩,
 ⟨some 4, .mv (.c (.slice none 0 0)), none⟩])
 (.seq (.reg [⟨some 9, .faddr 0 (.t 2), none⟩,
 ⟨some 10, .load 1 false (.t 9), none⟩,
 ⟨some 11, .len false (.t 10), none⟩,
 ⟨some 12, .mks 33 [.v (.bool false)] (.t 11) (.t 11), none⟩,
 ⟨some 5, .mv (.t 12), none⟩])
 (.seq (.reg [⟨some 13, .mv (.t 5), none⟩,
 ⟨some 14, .mv (.t 1), none⟩,
 ⟨some 15, .iaddr 1 (.t 13) (.t 14), none⟩,
 ⟨none, .store [none] (.t 15) (.c (.bool true)), none⟩])
 (.seq (.seq (.reg [⟨some 16, .mv (.t 1), none⟩,
 ⟨some 6, .mv (.t 16), none⟩])
 (blkC 0 (.loop (.seq (.seq (.reg [⟨some 17, .mv (.t 6), none⟩,
 ⟨some 18, .bin .geq (.t 17) (.c (.int .i64 0)), none⟩])
 (.cond (.t 18) .skip
 (.exit 0)))
 (.seq (.block 1 (.seq (.reg [⟨some 21, .mv (.t 5), none⟩,
 ⟨some 22, .mv (.t 6), none⟩,
 ⟨some 23, .iaddr 1 (.t 21) (.t 22), none⟩,
 ⟨some 24, .load 1 false (.t 23), none⟩])
 (.cond (.t 24) (.seq (.reg [⟨some 25, .faddr 0 (.t 2), none⟩,
 ⟨some 26, .load 1 false (.t 25), none⟩,
 ⟨some 27, .mv (.t 6), none⟩,
 ⟨some 28, .iaddr 3 (.t 26) (.t 27), none⟩,
 ⟨some 29, .faddr 0 (.t 28), none⟩,
 ⟨some 30, .load 1 false (.t 29), none⟩,
 ⟨some 31, .len false (.t 30), none⟩,
 ⟨some 32, .mv (.c (.int .i64 0)), none⟩])
 (blkC 2 (.loop (.seq (.reg [⟨some 33, .bin .lss (.t 32) (.t 31), none⟩])
 (.seq (.cond (.t 33) .skip
 (.exit 2))
 (.seq (.block 3 (.seq (.reg [⟨some 34, .iaddr 1 (.t 30) (.t 32), none⟩,
 ⟨some 35, .load 1 false (.t 34), none⟩,
 ⟨some 8, .mv (.t 35), none⟩])
 (.reg [⟨some 36, .mv (.t 5), none⟩,
 ⟨some 37, .mv (.t 8), none⟩,
 ⟨some 38, .iaddr 1 (.t 36) (.t 37), none⟩,
 ⟨none, .store [none] (.t 38) (.c (.bool true)), none⟩])))
 (.reg [⟨some 39, .bin .add (.t 32) (.c (.int .i64 1)), none⟩,
 ⟨some 32, .mv (.t 39), none⟩])))))))
 .skip)))
 (.reg [⟨some 19, .mv (.t 6), none⟩,
 ⟨some 20, .bin .sub (.t 19) (.c (.int .i64 1)), none⟩,
 ⟨some 6, .mv (.t 20), none⟩]))))))
 (.seq (.reg [⟨some 40, .mv (.t 5), none⟩,
 ⟨some 4, .mv (.t 40), none⟩])
 .ret)))))
def if_impl_Repo_past : IFn := ⟨41, [.inl 4], ib_impl_Repo_past, lcF []⟩
def ks_impl_Repo_past : List (List (Option Nat)) := [[some 33]]
def gl_impl_Repo_past_5 : List Int → Nat → (List Bool) → Option (List Bool)
  | [], k187, v184 => some v184
  | x188 :: l189, k187, v184 => (idx v184 x188).bind fun x196 => gl_impl_Repo_past_5 l189 (k187 + 1) (List.set v184 x188.toNat true)
def gl_impl_Repo_past_4 (a0 : Repo) : Nat → Int → (List Bool) → Option (List Bool)
  | 0, _, _ => none
  | n156 + 1, v151, v153 => if (decide (v151 ≥ 0)) = true then ((idx v153 v151).bind fun x157 => if x157 = true then ((idx a0.commits v151).bind fun x159 => if fits x159.up.length = true then ((gl_impl_Repo_past_5 x159.up 0 v153).bind fun q181 => gl_impl_Repo_past_4 a0 n156 (IntKind.i64.wrap (v151 - 1)) q181) else none) else (gl_impl_Repo_past_4 a0 n156 (IntKind.i64.wrap (v151 - 1)) v153)) else (some v153)
def gf_impl_Repo_past (a0 : Repo) (a1 : Int) : Option (List Bool) := if (decide (0 ≤ (a0.commits.length : Int)) && fits ((a0.commits.length : Int)).toNat) = true then (idx (List.replicate ((a0.commits.length : Int)).toNat false) a1).bind fun x5 => (gl_impl_Repo_past_4 a0 rounds a1 (List.set (List.replicate ((a0.commits.length : Int)).toNat false) a1.toNat true)).bind fun q150 => some (q150) else none
def c_impl_Repo_past : Con := ⟨Repo × Int, (List Bool), 97, fun a => [.agg [.ro (List.map (eCommit false) a.1.commits), .ro (List.map eHead a.1.heads)], .v (.int .i64 a.2)], fun a => gf_impl_Repo_past a.1 a.2, fun a r => ⟨[(false, [sl true 33 (List.map eBool r)])], []⟩, fun a => []⟩
/-! impl.RepoBases$1 -/
def ib_impl_RepoBases_1 : IC :=
 (.seq (.reg [⟨some 4, .mv (.c (.bool false)), none⟩])
 (.seq (.drw [⟨some 5, .load 2 true (.t 1), none⟩,
 ⟨some 6, .mv (.t 0), none⟩,
 ⟨some 7, .call 97 [(false, .t 5), (false, .t 6)], none⟩,
 ⟨some 8, .load 1 false (.t 2), none⟩,
 ⟨some 9, .iaddr 1 (.t 7) (.t 8), none⟩,
 ⟨some 10, .load 1 false (.t 9), none⟩,
 ⟨some 4, .mv (.t 10), none⟩] [(0, 3), (2, 3)])
 .ret))
def if_impl_RepoBases_1 : IFn := ⟨11, [.inl 4], ib_impl_RepoBases_1, lcF []⟩
def ks_impl_RepoBases_1 : List (List (Option Nat)) := [[none]]
def gf_impl_RepoBases_1 (a0 : Int) (a1 : Repo) (a2 : Int) : Option Bool := (gf_impl_Repo_past a1 a0).bind fun x1 => (idx x1 a2).bind fun x5 => some (x5)
def c_impl_RepoBases_1 : Con := ⟨Int × Repo × Int, Bool, 98, fun a => [.v (.int .i64 a.1), .rptr [.sl false 3 (List.map (eCommit false) a.2.1.commits), .sl false 2 (List.map eHead a.2.1.heads)], .rptr [.v (.int .i64 a.2.2)]], fun a => gf_impl_RepoBases_1 a.1 a.2.1 a.2.2, fun a r => ⟨[(false, [.v (.bool r)])], []⟩, fun a => []⟩
/-! slices.IndexFunc[[]int,int] -/
def ib_slices_IndexFunc_int_int : IC :=
 (.seq (.reg [⟨some 4, .mv (.c (.int .i64 0)), none⟩])
 (.seq (.seq (.reg [⟨some 6, .mv (.t 0), none⟩,
 ⟨some 7, .len false (.t 6), none⟩,
 ⟨some 8, .mv (.c (.int .i64 0)), none⟩])
 (blkC 0 (.loop (.seq (.reg [⟨some 9, .bin .lss (.t 8) (.t 7), none⟩])
 (.seq (.cond (.t 9) .skip
 (.exit 0))
 (.seq (.block 1 (.seq (.reg [⟨some 10, .mv (.t 8), none⟩,
 ⟨some 5, .mv (.t 10), none⟩])
 (.seq (.reg [⟨some 11, .mv (.t 1), none⟩,
 ⟨some 12, .mv (.t 0), none⟩,
 ⟨some 13, .mv (.t 5), none⟩,
 ⟨some 14, .iaddr 1 (.t 12) (.t 13), none⟩,
 ⟨some 15, .load 1 false (.t 14), none⟩,
 ⟨some 16, .calld (.t 11) [(false, .t 15)], none⟩])
 (.cond (.t 16) (.seq (.reg [⟨some 17, .mv (.t 5), none⟩,
 ⟨some 4, .mv (.t 17), none⟩])
 .ret)
 .skip))))
 (.reg [⟨some 18, .bin .add (.t 8) (.c (.int .i64 1)), none⟩,
 ⟨some 8, .mv (.t 18), none⟩])))))))
 (.seq (.reg [⟨some 4, .mv (.c (.int .i64 (-1))), none⟩])
 .ret)))
def if_slices_IndexFunc_int_int : IFn := ⟨19, [.inl 4], ib_slices_IndexFunc_int_int, lcF []⟩
def ks_slices_IndexFunc_int_int : List (List (Option Nat)) := [[none]]
def gl_slices_IndexFunc_int_int__impl_RepoBases_1_1 (a1 : Repo) (a2 : Int) : List Int → Nat → Option (Int ⊕ Unit)
  | [], k16 => some (.inr ())
  | x17 :: l18, k16 => (gf_impl_RepoBases_1 x17 a1 a2).bind fun x25 => if x25 = true then (some (.inl ((k16 : Int)))) else (gl_slices_IndexFunc_int_int__impl_RepoBases_1_1 a1 a2 l18 (k16 + 1) )
def gf_slices_IndexFunc_int_int__impl_RepoBases_1 (a0 : (List Int)) (a1 : Repo) (a2 : Int) : Option Int := if fits a0.length = true then ((gl_slices_IndexFunc_int_int__impl_RepoBases_1_1 a1 a2 a0 0 ).bind fun q => match q with | .inl r => some r | .inr q14 => some ((-1))) else none
def c_slices_IndexFunc_int_int__impl_RepoBases_1 : Con := ⟨(List Int) × Repo × Int, Int, 95, fun a => [.ro (List.map eInt a.1), .fn 98 [.rptr [.sl false 3 (List.map (eCommit false) a.2.1.commits), .sl false 2 (List.map eHead a.2.1.heads)], .rptr [.v (.int .i64 a.2.2)]]], fun a => gf_slices_IndexFunc_int_int__impl_RepoBases_1 a.1 a.2.1 a.2.2, fun a r => ⟨[(false, [.v (.int .i64 r)])], []⟩, fun a => []⟩
/-! slices.ContainsFunc[[]int,int] -/
def ib_slices_ContainsFunc_int_int : IC :=
 (.seq (.reg [⟨some 4, .mv (.c (.bool false)), none⟩])
 (.seq (.reg [⟨some 5, .mv (.t 0), none⟩,
 ⟨some 6, .mv (.t 1), none⟩,
 ⟨some 7, .call 95 [(false, .t 5), (false, .t 6)], none⟩,
 ⟨some 8, .bin .geq (.t 7) (.c (.int .i64 0)), none⟩,
 ⟨some 4, .mv (.t 8), none⟩])
 .ret))
def if_slices_ContainsFunc_int_int : IFn := ⟨9, [.inl 4], ib_slices_ContainsFunc_int_int, lcF []⟩
def ks_slices_ContainsFunc_int_int : List (List (Option Nat)) := [[none]]
def gf_slices_ContainsFunc_int_int__impl_RepoBases_1 (a0 : (List Int)) (a1 : Repo) (a2 : Int) : Option Bool := (gf_slices_IndexFunc_int_int__impl_RepoBases_1 a0 a1 a2).bind fun x1 => some ((decide (x1 ≥ 0)))
def c_slices_ContainsFunc_int_int__impl_RepoBases_1 : Con := ⟨(List Int) × Repo × Int, Bool, 99, fun a => [.ro (List.map eInt a.1), .fn 98 [.rptr [.sl false 3 (List.map (eCommit false) a.2.1.commits), .sl false 2 (List.map eHead a.2.1.heads)], .rptr [.v (.int .i64 a.2.2)]]], fun a => gf_slices_ContainsFunc_int_int__impl_RepoBases_1 a.1 a.2.1 a.2.2, fun a r => ⟨[(false, [.v (.bool r)])], []⟩, fun a => []⟩
/-! impl.RepoBases -/
def ib_impl_RepoBases : IC :=
 (.seq (.reg [⟨some 3, .box 210 [some 115, some 130] (.t 0), none⟩,
 ⟨some 6, .mv (.c (.slice none 0 0)), none⟩])
 (.seq (.seq (.reg [⟨some 11, .load 2 true (.t 3), none⟩,
 ⟨some 12, .call 96 [(false, .t 11)], none⟩,
 ⟨some 13, .un .not (.t 12), none⟩,
 ⟨some 14, .mv (.t 13), none⟩,
 ⟨some 15, .load 2 true (.t 3), some (14, false)⟩,
 ⟨some 16, .mv (.t 1), some (14, false)⟩,
 ⟨some 17, .call 90 [(false, .t 15), (false, .t 16)], some (14, false)⟩,
 ⟨some 18, .un .not (.t 17), some (14, false)⟩,
 ⟨some 19, .pick (.t 14) (.c (.bool true)) (.t 18), none⟩,
 ⟨some 20, .mv (.t 19), none⟩,
 ⟨some 21, .load 2 true (.t 3), some (20, false)⟩,
 ⟨some 22, .mv (.t 2), some (20, false)⟩,
 ⟨some 23, .call 90 [(false, .t 21), (false, .t 22)], some (20, false)⟩,
 ⟨some 24, .un .not (.t 23), some (20, false)⟩,
 ⟨some 25, .pick (.t 20) (.c (.bool true)) (.t 24), none⟩])
 (.cond (.t 25) (.seq (.reg [⟨some 26, .lit 17 [none] [.v (.int .i64 0)] 0 [], none⟩,
 ⟨some 6, .mv (.t 26), none⟩])
 .ret)
 .skip))
 (.seq (.drw [⟨some 27, .load 2 true (.t 3), none⟩,
 ⟨some 28, .mv (.t 1), none⟩,
 ⟨some 29, .call 97 [(false, .t 27), (false, .t 28)], none⟩,
 ⟨some 30, .load 2 true (.t 3), none⟩,
 ⟨some 31, .mv (.t 2), none⟩,
 ⟨some 32, .call 97 [(false, .t 30), (false, .t 31)], none⟩,
 ⟨some 7, .mv (.t 29), none⟩,
 ⟨some 8, .mv (.t 32), none⟩] [(0, 3), (2, 3)])
 (.seq (.reg [⟨some 33, .lit 17 [none] [.v (.int .i64 0)] 0 [], none⟩,
 ⟨some 9, .mv (.t 33), none⟩])
 (.seq (.seq (.reg [⟨some 34, .mv (.t 7), none⟩,
 ⟨some 35, .len false (.t 34), none⟩,
 ⟨some 36, .bin .sub (.t 35) (.c (.int .i64 1)), none⟩,
 ⟨some 10, .alloc 17 [.v (.int .i64 0)], none⟩,
 ⟨none, .store [none] (.t 10) (.t 36), none⟩])
 (blkC 0 (.loop (.seq (.seq (.reg [⟨some 37, .load 1 false (.t 10), none⟩,
 ⟨some 38, .bin .geq (.t 37) (.c (.int .i64 0)), none⟩])
 (.cond (.t 38) .skip
 (.exit 0)))
 (seqC (.block 1 (.seq (.seq (.reg [⟨some 41, .mv (.t 7), none⟩,
 ⟨some 42, .load 1 false (.t 10), none⟩,
 ⟨some 43, .iaddr 1 (.t 41) (.t 42), none⟩,
 ⟨some 44, .load 1 false (.t 43), none⟩,
 ⟨some 45, .un .not (.t 44), none⟩,
 ⟨some 46, .mv (.t 45), none⟩,
 ⟨some 47, .mv (.t 8), some (46, false)⟩,
 ⟨some 48, .load 1 false (.t 10), some (46, false)⟩,
 ⟨some 49, .iaddr 1 (.t 47) (.t 48), some (46, false)⟩,
 ⟨some 50, .load 1 false (.t 49), some (46, false)⟩,
 ⟨some 51, .un .not (.t 50), some (46, false)⟩,
 ⟨some 52, .pick (.t 46) (.c (.bool true)) (.t 51), none⟩])
 (.cond (.t 52) (.exit 1)
 .skip))
 (.seq (.reg [⟨some 53, .mv (.t 9), none⟩,
 ⟨some 54, .mkf 98 [.t 3, .t 10], none⟩,
 ⟨some 55, .call 99 [(false, .t 53), (false, .t 54)], none⟩,
 ⟨some 56, .un .not (.t 55), none⟩])
 (.cond (.t 56) (.reg [⟨some 57, .mv (.t 9), none⟩,
 ⟨some 58, .load 1 false (.t 10), none⟩,
 ⟨some 59, .lit 17 [none] [.v (.int .i64 0)] 1 [(0, .t 58)], none⟩,
 ⟨some 60, .app 17 true (.t 57) (.t 59), none⟩,
 ⟨some 9, .mv (.t 60), none⟩])
 .skip))))
 (.seq (.seq (.reg [⟨some 61, .load 1 false (.t 10), none⟩])
 (.reg [⟨some 10, .alloc 17 [.v (.int .i64 0)], none⟩,
 ⟨none, .store [none] (.t 10) (.t 61), none⟩]))
 (.reg [⟨some 39, .load 1 false (.t 10), none⟩,
 ⟨some 40, .bin .sub (.t 39) (.c (.int .i64 1)), none⟩,
 ⟨none, .store [none] (.t 10) (.t 40), none⟩])))))))
 (.seq (.reg [⟨some 62, .mv (.t 9), none⟩,
 ⟨some 6, .mv (.t 62), none⟩])
 .ret))))))
def if_impl_RepoBases : IFn := ⟨63, [.inl 6], ib_impl_RepoBases, lcF []⟩
def ks_impl_RepoBases : List (List (Option Nat)) := [[some 17]]
def gl_impl_RepoBases_1 (x11 : (List Bool)) (x15 : (List Bool)) (a0 : Repo) : Nat → (List Int) → Int → Option (List Int)
  | 0, _, _ => none
  | n112 + 1, v107, v110 => if (decide (v110 ≥ 0)) = true then ((((idx x11 v110).bind fun x124 => if (!x124) = true then (some v107) else ((idx x15 v110).bind fun x126 => if (!x126) = true then (some v107) else ((gf_slices_ContainsFunc_int_int__impl_RepoBases_1 v107 a0 v110).bind fun x128 => if (!x128) = true then (if fits (v107 ++ ([v110] : (List Int))).length = true then some (v107 ++ ([v110] : (List Int))) else none) else (some v107))) : Option (List Int))).bind fun q123 => gl_impl_RepoBases_1 x11 x15 a0 n112 q123 (IntKind.i64.wrap (v110 - 1))) else (some v107)
def gf_impl_RepoBases (a0 : Repo) (a1 : Int) (a2 : Int) : Option (List Int) := (gf_impl_RepoOk a0).bind fun x2 => if (!x2) = true then (some (([] : (List Int)))) else ((gf_impl_Repo_version a0 a1).bind fun x4 => if (!x4) = true then (some (([] : (List Int)))) else ((gf_impl_Repo_version a0 a2).bind fun x6 => if (!x6) = true then (some (([] : (List Int)))) else ((gf_impl_Repo_past a0 a1).bind fun x11 => (gf_impl_Repo_past a0 a2).bind fun x15 => (gl_impl_RepoBases_1 x11 x15 a0 rounds [] (IntKind.i64.wrap ((x11.length : Int) - 1))).bind fun q101 => some (q101))))
def c_impl_RepoBases : Con := ⟨Repo × Int × Int, (List Int), 100, fun a => [.agg [.ro (List.map (eCommit false) a.1.commits), .ro (List.map eHead a.1.heads)], .v (.int .i64 a.2.1), .v (.int .i64 a.2.2)], fun a => gf_impl_RepoBases a.1 a.2.1 a.2.2, fun a r => ⟨[(false, [sl true 17 (List.map eInt r)])], []⟩, fun a => []⟩
/-! impl.JoinBase -/
def ib_impl_JoinBase : IC :=
 (.seq (.reg [⟨some 3, .box 210 [some 115, some 130] (.t 0), none⟩,
 ⟨some 6, .mv (.c (.int .i64 0)), none⟩])
 (.seq (.reg [⟨some 8, .load 2 true (.t 3), none⟩,
 ⟨some 9, .mv (.t 1), none⟩,
 ⟨some 10, .mv (.t 2), none⟩,
 ⟨some 11, .call 100 [(false, .t 8), (false, .t 9), (false, .t 10)], none⟩,
 ⟨some 7, .mv (.t 11), none⟩])
 (.seq (.seq (.reg [⟨some 12, .mv (.t 7), none⟩,
 ⟨some 13, .len false (.t 12), none⟩,
 ⟨some 14, .bin .eql (.t 13) (.c (.int .i64 0)), none⟩])
 (.cond (.t 14) (.seq (.reg [⟨some 6, .mv (.c (.int .i64 (-1))), none⟩])
 .ret)
 .skip))
 (.seq (.reg [⟨some 15, .mv (.t 7), none⟩,
 ⟨some 16, .iaddr 1 (.t 15) (.c (.int .i64 0)), none⟩,
 ⟨some 17, .load 1 false (.t 16), none⟩,
 ⟨some 6, .mv (.t 17), none⟩])
 .ret))))
def if_impl_JoinBase : IFn := ⟨18, [.inl 6], ib_impl_JoinBase, lcF []⟩
def ks_impl_JoinBase : List (List (Option Nat)) := [[none]]
def gf_impl_JoinBase (a0 : Repo) (a1 : Int) (a2 : Int) : Option Int := (gf_impl_RepoBases a0 a1 a2).bind fun x2 => if ((x2.length : Int) == 0) = true then (some ((-1))) else ((idx x2 0).bind fun x6 => some (x6))
def c_impl_JoinBase : Con := ⟨Repo × Int × Int, Int, 148, fun a => [.agg [.ro (List.map (eCommit false) a.1.commits), .ro (List.map eHead a.1.heads)], .v (.int .i64 a.2.1), .v (.int .i64 a.2.2)], fun a => gf_impl_JoinBase a.1 a.2.1 a.2.2, fun a r => ⟨[(false, [.v (.int .i64 r)])], []⟩, fun a => []⟩
/-! spec.l12Open -/
def ib_spec_l12Open : IC :=
 (.seq (.reg [⟨some 2, .mv (.c (.pointer none)), none⟩])
 (.seq (.seq (.reg [⟨some 3, .mv (.t 0), none⟩,
 ⟨some 4, .len false (.t 3), none⟩,
 ⟨some 5, .bin .gtr (.t 4) (.c (.int .i64 2000)), none⟩])
 (.cond (.t 5) (.reg [⟨some 6, .mv (.t 0), none⟩,
 ⟨some 7, .sls 1 (.t 6) none (some (.c (.int .i64 2000))), none⟩,
 ⟨some 0, .mv (.t 7), none⟩])
 .skip))
 (.seq (.reg [⟨some 8, .mv (.t 0), none⟩,
 ⟨some 9, .build [.nil, .v (.int .i64 0)] [(0, 1, .t 8)], none⟩,
 ⟨some 10, .box 290 [some 257, none] (.t 9), none⟩,
 ⟨some 2, .mv (.t 10), none⟩])
 .ret)))
def if_spec_l12Open : IFn := ⟨11, [.inl 2], ib_spec_l12Open, lcF []⟩
def ks_spec_l12Open : List (List (Option Nat)) := [[none]]
def gf_spec_l12Open (a0 : (List UInt8)) : Option Rd := if (decide ((a0.length : Int) > 2000)) = true then ((slc a0 0 2000).bind fun x1 => some ((⟨x1, 0⟩ : Rd))) else (some ((⟨a0, 0⟩ : Rd)))
def c_spec_l12Open : Con := ⟨(List UInt8) × Option Addr × Nat, Rd, 316, fun a => [.raw a.2.1 a.2.2 (List.map eU8 a.1)], fun a => gf_spec_l12Open a.1, fun a r => ⟨[(false, [.bx 290 [.rw a.2.1 a.2.2 (List.map eU8 r.b), .v (.int .i64 r.p)]])], []⟩, fun a => []⟩
/-! (*spec.l12Rd).pick -/
def ib_spec_l12Rd_pick : IC :=
 (.seq (.reg [⟨some 4, .mv (.c (.int .i64 0)), none⟩])
 (.seq (.reg [⟨some 7, .mv (.t 0), none⟩,
 ⟨some 8, .mv (.t 0), none⟩,
 ⟨some 9, .nilck (.t 8), none⟩,
 ⟨some 10, .faddr 1 (.t 9), none⟩,
 ⟨some 11, .load 1 false (.t 10), none⟩,
 ⟨some 12, .bin .add (.t 11) (.c (.int .i64 1)), none⟩,
 ⟨some 13, .nilck (.t 7), none⟩,
 ⟨some 14, .faddr 1 (.t 13), none⟩,
 ⟨none, .store [none] (.t 14) (.t 12), none⟩])
 (.seq (.seq (.reg [⟨some 15, .mv (.t 1), none⟩,
 ⟨some 16, .bin .lss (.t 15) (.c (.int .i64 1)), none⟩,
 ⟨some 17, .mv (.t 16), none⟩,
 ⟨some 18, .mv (.t 0), some (17, false)⟩,
 ⟨some 19, .nilck (.t 18), some (17, false)⟩,
 ⟨some 20, .faddr 0 (.t 19), some (17, false)⟩,
 ⟨some 21, .load 1 false (.t 20), some (17, false)⟩,
 ⟨some 22, .len false (.t 21), some (17, false)⟩,
 ⟨some 23, .bin .eql (.t 22) (.c (.int .i64 0)), some (17, false)⟩,
 ⟨some 24, .pick (.t 17) (.c (.bool true)) (.t 23), none⟩])
 (.cond (.t 24) (.seq (.reg [⟨some 4, .mv (.c (.int .i64 0)), none⟩])
 .ret)
 .skip))
 (.seq (.reg [⟨some 25, .mv (.t 0), none⟩,
 ⟨some 26, .nilck (.t 25), none⟩,
 ⟨some 27, .faddr 1 (.t 26), none⟩,
 ⟨some 28, .load 1 false (.t 27), none⟩,
 ⟨some 29, .bin .sub (.t 28) (.c (.int .i64 1)), none⟩,
 ⟨some 5, .mv (.t 29), none⟩])
 (.seq (.seq (.reg [⟨some 30, .mv (.t 5), none⟩,
 ⟨some 31, .mv (.t 0), none⟩,
 ⟨some 32, .nilck (.t 31), none⟩,
 ⟨some 33, .faddr 0 (.t 32), none⟩,
 ⟨some 34, .load 1 false (.t 33), none⟩,
 ⟨some 35, .len false (.t 34), none⟩,
 ⟨some 36, .bin .lss (.t 30) (.t 35), none⟩])
 (.cond (.t 36) (.seq (.reg [⟨some 37, .mv (.t 0), none⟩,
 ⟨some 38, .nilck (.t 37), none⟩,
 ⟨some 39, .faddr 0 (.t 38), none⟩,
 ⟨some 40, .load 1 false (.t 39), none⟩,
 ⟨some 41, .mv (.t 5), none⟩,
 ⟨some 42, .iaddr 1 (.t 40) (.t 41), none⟩,
 ⟨some 43, .load 1 false (.t 42), none⟩,
 ⟨some 44, .conv .i64 (.t 43), none⟩,
 ⟨some 45, .mv (.t 1), none⟩,
 ⟨some 46, .bin .rem (.t 44) (.t 45), none⟩,
 ⟨some 4, .mv (.t 46), none⟩])
 .ret)
 .skip))
 (.seq (.drw [⟨some 47, .mv (.t 0), none⟩,
 ⟨some 48, .nilck (.t 47), none⟩,
 ⟨some 49, .faddr 0 (.t 48), none⟩,
 ⟨some 50, .load 1 false (.t 49), none⟩,
 ⟨some 51, .mv (.t 5), none⟩,
 ⟨some 52, .mv (.t 0), none⟩,
 ⟨some 53, .nilck (.t 52), none⟩,
 ⟨some 54, .faddr 0 (.t 53), none⟩,
 ⟨some 55, .load 1 false (.t 54), none⟩,
 ⟨some 56, .len false (.t 55), none⟩,
 ⟨some 57, .bin .rem (.t 51) (.t 56), none⟩,
 ⟨some 58, .iaddr 1 (.t 50) (.t 57), none⟩,
 ⟨some 59, .load 1 false (.t 58), none⟩,
 ⟨some 60, .conv .i64 (.t 59), none⟩,
 ⟨some 61, .bin .mul (.t 60) (.c (.int .i64 131)), none⟩,
 ⟨some 62, .mv (.t 0), none⟩,
 ⟨some 63, .nilck (.t 62), none⟩,
 ⟨some 64, .faddr 0 (.t 63), none⟩,
 ⟨some 65, .load 1 false (.t 64), none⟩,
 ⟨some 66, .mv (.t 5), none⟩,
 ⟨some 67, .bin .mul (.t 66) (.c (.int .i64 7)), none⟩,
 ⟨some 68, .bin .add (.t 67) (.c (.int .i64 3)), none⟩,
 ⟨some 69, .mv (.t 0), none⟩,
 ⟨some 70, .nilck (.t 69), none⟩,
 ⟨some 71, .faddr 0 (.t 70), none⟩,
 ⟨some 72, .load 1 false (.t 71), none⟩,
 ⟨some 73, .len false (.t 72), none⟩,
 ⟨some 74, .bin .rem (.t 68) (.t 73), none⟩,
 ⟨some 75, .iaddr 1 (.t 65) (.t 74), none⟩,
 ⟨some 76, .load 1 false (.t 75), none⟩,
 ⟨some 77, .conv .i64 (.t 76), none⟩,
 ⟨some 78, .bin .mul (.t 77) (.c (.int .i64 1117)), none⟩,
 ⟨some 79, .bin .add (.t 61) (.t 78), none⟩,
 ⟨some 80, .mv (.t 5), none⟩,
 ⟨some 81, .bin .mul (.t 80) (.c (.int .i64 29)), none⟩,
 ⟨some 82, .bin .add (.t 79) (.t 81), none⟩,
 ⟨some 83, .mv (.t 5), none⟩,
 ⟨some 84, .mv (.t 0), none⟩,
 ⟨some 85, .nilck (.t 84), none⟩,
 ⟨some 86, .faddr 0 (.t 85), none⟩,
 ⟨some 87, .load 1 false (.t 86), none⟩,
 ⟨some 88, .len false (.t 87), none⟩,
 ⟨some 89, .bin .quo (.t 83) (.t 88), none⟩,
 ⟨some 90, .bin .mul (.t 89) (.c (.int .i64 53)), none⟩,
 ⟨some 91, .bin .add (.t 82) (.t 90), none⟩,
 ⟨some 6, .mv (.t 91), none⟩] [(3, 8), (3, 18), (8, 18), (12, 18), (3, 25), (8, 25), (12, 25), (18, 25), (3, 29), (8, 29), (12, 29), (3, 40), (8, 40), (12, 40), (18, 40), (25, 40), (29, 40)])
 (.seq (.reg [⟨some 92, .mv (.t 6), none⟩,
 ⟨some 93, .mv (.t 6), none⟩,
 ⟨some 94, .bin .quo (.t 93) (.c (.int .i64 64)), none⟩,
 ⟨some 95, .bin .xor (.t 92) (.t 94), none⟩,
 ⟨some 6, .mv (.t 95), none⟩])
 (.seq (.reg [⟨some 96, .mv (.t 6), none⟩,
 ⟨some 97, .mv (.t 1), none⟩,
 ⟨some 98, .bin .rem (.t 96) (.t 97), none⟩,
 ⟨some 4, .mv (.t 98), none⟩])
 .ret))))))))
def if_spec_l12Rd_pick : IFn := ⟨99, [.inl 4], ib_spec_l12Rd_pick, lcF []⟩
def ks_spec_l12Rd_pick : List (List (Option Nat)) := [[none]]
def gf_spec_l12Rd_pick (a0 : Rd) (a1 : Int) : Option (Int × Int) := if (decide (a1 < 1)) = true then (some (0, (IntKind.i64.wrap (a0.p + 1)))) else (if ((a0.b.length : Int) == 0) = true then (some (0, (IntKind.i64.wrap (a0.p + 1)))) else (if (decide ((IntKind.i64.wrap ((IntKind.i64.wrap (a0.p + 1)) - 1)) < (a0.b.length : Int))) = true then ((idx a0.b (IntKind.i64.wrap ((IntKind.i64.wrap (a0.p + 1)) - 1))).bind fun x1 => (imod (IntKind.i64.wrap (x1.toNat : Int)) a1).bind fun x3 => some (x3, (IntKind.i64.wrap (a0.p + 1)))) else ((imod (IntKind.i64.wrap ((IntKind.i64.wrap (a0.p + 1)) - 1)) (a0.b.length : Int)).bind fun x5 => (idx a0.b x5).bind fun x7 => (imod (IntKind.i64.wrap ((IntKind.i64.wrap ((IntKind.i64.wrap ((IntKind.i64.wrap (a0.p + 1)) - 1)) * 7)) + 3)) (a0.b.length : Int)).bind fun x9 => (idx a0.b x9).bind fun x11 => (idiv (IntKind.i64.wrap ((IntKind.i64.wrap (a0.p + 1)) - 1)) (a0.b.length : Int)).bind fun x13 => (imod (ixor (IntKind.i64.wrap ((IntKind.i64.wrap ((IntKind.i64.wrap ((IntKind.i64.wrap ((IntKind.i64.wrap (x7.toNat : Int)) * 131)) + (IntKind.i64.wrap ((IntKind.i64.wrap (x11.toNat : Int)) * 1117)))) + (IntKind.i64.wrap ((IntKind.i64.wrap ((IntKind.i64.wrap (a0.p + 1)) - 1)) * 29)))) + (IntKind.i64.wrap (x13 * 53)))) (IntKind.i64.wrap (Int.tdiv (IntKind.i64.wrap ((IntKind.i64.wrap ((IntKind.i64.wrap ((IntKind.i64.wrap ((IntKind.i64.wrap (x7.toNat : Int)) * 131)) + (IntKind.i64.wrap ((IntKind.i64.wrap (x11.toNat : Int)) * 1117)))) + (IntKind.i64.wrap ((IntKind.i64.wrap ((IntKind.i64.wrap (a0.p + 1)) - 1)) * 29)))) + (IntKind.i64.wrap (x13 * 53)))) 64))) a1).bind fun x15 => some (x15, (IntKind.i64.wrap (a0.p + 1))))))
def c_spec_l12Rd_pick : Con := ⟨Rd × Int × Option Addr × Nat, (Int × Int), 321, fun a => [.pio 0 290, .v (.int .i64 a.2.1)], fun a => gf_spec_l12Rd_pick a.1 a.2.1, fun a r => ⟨[(false, [.v (.int .i64 r.1)])], [some [[.v (.slice a.2.2.1 (List.map eU8 a.1.b).length a.2.2.2), .v (.int .i64 r.2)]]]⟩, fun a => [(true, 290, [[.rw a.2.2.1 a.2.2.2 (List.map eU8 a.1.b), .v (.int .i64 a.1.p)]])]⟩
/-! (*spec.l12Rd).of -/
def ib_spec_l12Rd_of : IC :=
 (.seq (.reg [⟨some 4, .mv (.c (.string ⟨#[]⟩)), none⟩])
 (.seq (.reg [⟨some 5, .mv (.t 1), none⟩,
 ⟨some 6, .mv (.t 0), none⟩,
 ⟨some 7, .mv (.t 1), none⟩,
 ⟨some 8, .len false (.t 7), none⟩,
 ⟨some 9, .call 321 [(true, .t 6), (false, .t 8)], none⟩,
 ⟨some 10, .iaddr 1 (.t 5) (.t 9), none⟩,
 ⟨some 11, .load 1 false (.t 10), none⟩,
 ⟨some 4, .mv (.t 11), none⟩])
 .ret))
def if_spec_l12Rd_of : IFn := ⟨12, [.inl 4], ib_spec_l12Rd_of, lcF []⟩
def ks_spec_l12Rd_of : List (List (Option Nat)) := [[none]]
def gf_spec_l12Rd_of (a0 : Rd) (a1 : (List Str)) : Option (Str × Int) := (gf_spec_l12Rd_pick a0 (a1.length : Int)).bind fun x1 => (idx a1 x1.1).bind fun x3 => some (x3, x1.2)
def c_spec_l12Rd_of : Con := ⟨Rd × (List Str) × Option Addr × Nat, (Str × Int), 326, fun a => [.pio 0 290, .ro (List.map eStr a.2.1)], fun a => gf_spec_l12Rd_of a.1 a.2.1, fun a r => ⟨[(false, [.v (.string r.1)])], [some [[.v (.slice a.2.2.1 (List.map eU8 a.1.b).length a.2.2.2), .v (.int .i64 r.2)]]]⟩, fun a => [(true, 290, [[.rw a.2.2.1 a.2.2.2 (List.map eU8 a.1.b), .v (.int .i64 a.1.p)]])]⟩
/-! spec.l2Id -/
def ib_spec_l2Id : IC :=
 (.seq (.reg [⟨some 2, .mv (.c (.string ⟨#[]⟩)), none⟩])
 (.seq (.reg [⟨some 3, .mv (.t 0), none⟩,
 ⟨some 4, .lit 49 [none] [.v (.string ⟨#[]⟩)] 5 [(0, .c (.string ⟨#[97]⟩)), (1, .c (.string ⟨#[98]⟩)), (2, .c (.string ⟨#[99]⟩)), (3, .c (.string ⟨#[100]⟩)), (4, .c (.string ⟨#[101]⟩))], none⟩,
 ⟨some 5, .call 326 [(true, .t 3), (false, .t 4)], none⟩,
 ⟨some 2, .mv (.t 5), none⟩])
 .ret))
def if_spec_l2Id : IFn := ⟨6, [.inl 2], ib_spec_l2Id, lcF []⟩
def ks_spec_l2Id : List (List (Option Nat)) := [[none]]
def gf_spec_l2Id (a0 : Rd) : Option (Str × Int) := (gf_spec_l12Rd_of a0 ([(⟨#[97]⟩ : Str), (⟨#[98]⟩ : Str), (⟨#[99]⟩ : Str), (⟨#[100]⟩ : Str), (⟨#[101]⟩ : Str)] : (List Str))).bind fun x2 => some (x2.1, x2.2)
def c_spec_l2Id : Con := ⟨Rd × Option Addr × Nat, (Str × Int), 362, fun a => [.pio 0 290], fun a => gf_spec_l2Id a.1, fun a r => ⟨[(false, [.v (.string r.1)])], [some [[.v (.slice a.2.1 (List.map eU8 a.1.b).length a.2.2), .v (.int .i64 r.2)]]]⟩, fun a => [(true, 290, [[.rw a.2.1 a.2.2 (List.map eU8 a.1.b), .v (.int .i64 a.1.p)]])]⟩
/-! spec.l2Key -/
def ib_spec_l2Key : IC :=
 (.seq (.reg [⟨some 2, .mv (.c (.string ⟨#[]⟩)), none⟩])
 (.seq (.reg [⟨some 3, .mv (.t 0), none⟩,
 ⟨some 4, .lit 49 [none] [.v (.string ⟨#[]⟩)] 4 [(0, .c (.string ⟨#[110, 97, 109, 101]⟩)), (1, .c (.string ⟨#[107, 105, 110, 100]⟩)), (2, .c (.string ⟨#[117, 115, 101]⟩)), (3, .c (.string ⟨#[116, 111, 110, 101]⟩))], none⟩,
 ⟨some 5, .call 326 [(true, .t 3), (false, .t 4)], none⟩,
 ⟨some 2, .mv (.t 5), none⟩])
 .ret))
def if_spec_l2Key : IFn := ⟨6, [.inl 2], ib_spec_l2Key, lcF []⟩
def ks_spec_l2Key : List (List (Option Nat)) := [[none]]
def gf_spec_l2Key (a0 : Rd) : Option (Str × Int) := (gf_spec_l12Rd_of a0 ([(⟨#[110, 97, 109, 101]⟩ : Str), (⟨#[107, 105, 110, 100]⟩ : Str), (⟨#[117, 115, 101]⟩ : Str), (⟨#[116, 111, 110, 101]⟩ : Str)] : (List Str))).bind fun x2 => some (x2.1, x2.2)
def c_spec_l2Key : Con := ⟨Rd × Option Addr × Nat, (Str × Int), 365, fun a => [.pio 0 290], fun a => gf_spec_l2Key a.1, fun a r => ⟨[(false, [.v (.string r.1)])], [some [[.v (.slice a.2.1 (List.map eU8 a.1.b).length a.2.2), .v (.int .i64 r.2)]]]⟩, fun a => [(true, 290, [[.rw a.2.1 a.2.2 (List.map eU8 a.1.b), .v (.int .i64 a.1.p)]])]⟩
/-! spec.l2Val -/
def ib_spec_l2Val : IC :=
 (.seq (.reg [⟨some 2, .mv (.c (.string ⟨#[]⟩)), none⟩])
 (.seq (.reg [⟨some 3, .mv (.t 0), none⟩,
 ⟨some 4, .lit 49 [none] [.v (.string ⟨#[]⟩)] 5 [(0, .c (.string ⟨#[97]⟩)), (1, .c (.string ⟨#[98]⟩)), (2, .c (.string ⟨#[111, 97, 107]⟩)), (3, .c (.string ⟨#[97, 115, 104]⟩)), (4, .c (.string ⟨#[114, 111, 97, 100]⟩))], none⟩,
 ⟨some 5, .call 326 [(true, .t 3), (false, .t 4)], none⟩,
 ⟨some 2, .mv (.t 5), none⟩])
 .ret))
def if_spec_l2Val : IFn := ⟨6, [.inl 2], ib_spec_l2Val, lcF []⟩
def ks_spec_l2Val : List (List (Option Nat)) := [[none]]
def gf_spec_l2Val (a0 : Rd) : Option (Str × Int) := (gf_spec_l12Rd_of a0 ([(⟨#[97]⟩ : Str), (⟨#[98]⟩ : Str), (⟨#[111, 97, 107]⟩ : Str), (⟨#[97, 115, 104]⟩ : Str), (⟨#[114, 111, 97, 100]⟩ : Str)] : (List Str))).bind fun x2 => some (x2.1, x2.2)
def c_spec_l2Val : Con := ⟨Rd × Option Addr × Nat, (Str × Int), 366, fun a => [.pio 0 290], fun a => gf_spec_l2Val a.1, fun a r => ⟨[(false, [.v (.string r.1)])], [some [[.v (.slice a.2.1 (List.map eU8 a.1.b).length a.2.2), .v (.int .i64 r.2)]]]⟩, fun a => [(true, 290, [[.rw a.2.1 a.2.2 (List.map eU8 a.1.b), .v (.int .i64 a.1.p)]])]⟩
/-! (*spec.l12Rd).num -/
def ib_spec_l12Rd_num : IC :=
 (.seq (.reg [⟨some 4, .mv (.c (.int .i64 0)), none⟩])
 (.seq (.reg [⟨some 5, .mv (.t 1), none⟩,
 ⟨some 6, .mv (.t 0), none⟩,
 ⟨some 7, .mv (.t 1), none⟩,
 ⟨some 8, .len false (.t 7), none⟩,
 ⟨some 9, .call 321 [(true, .t 6), (false, .t 8)], none⟩,
 ⟨some 10, .iaddr 1 (.t 5) (.t 9), none⟩,
 ⟨some 11, .load 1 false (.t 10), none⟩,
 ⟨some 4, .mv (.t 11), none⟩])
 .ret))
def if_spec_l12Rd_num : IFn := ⟨12, [.inl 4], ib_spec_l12Rd_num, lcF []⟩
def ks_spec_l12Rd_num : List (List (Option Nat)) := [[none]]
def gf_spec_l12Rd_num (a0 : Rd) (a1 : (List Int)) : Option (Int × Int) := (gf_spec_l12Rd_pick a0 (a1.length : Int)).bind fun x1 => (idx a1 x1.1).bind fun x3 => some (x3, x1.2)
def c_spec_l12Rd_num : Con := ⟨Rd × (List Int) × Option Addr × Nat, (Int × Int), 356, fun a => [.pio 0 290, .ro (List.map eInt a.2.1)], fun a => gf_spec_l12Rd_num a.1 a.2.1, fun a r => ⟨[(false, [.v (.int .i64 r.1)])], [some [[.v (.slice a.2.2.1 (List.map eU8 a.1.b).length a.2.2.2), .v (.int .i64 r.2)]]]⟩, fun a => [(true, 290, [[.rw a.2.2.1 a.2.2.2 (List.map eU8 a.1.b), .v (.int .i64 a.1.p)]])]⟩
/-! spec.l1Pt -/
def ib_spec_l1Pt : IC :=
 (.seq (.reg [⟨some 2, .alloc 66 [.v (.int .i64 0), .v (.int .i64 0)], none⟩])
 (.seq (.reg [⟨some 3, .mv (.t 0), none⟩,
 ⟨some 4, .call 321 [(true, .t 3), (false, .c (.int .i64 4))], none⟩,
 ⟨some 5, .mv (.t 0), none⟩,
 ⟨some 6, .lit 17 [none] [.v (.int .i64 0)] 4 [(0, .c (.int .i64 0)), (1, .c (.int .i64 1)), (2, .c (.int .i64 2)), (3, .c (.int .i64 5))], none⟩,
 ⟨some 7, .call 356 [(true, .t 5), (false, .t 6)], none⟩,
 ⟨some 8, .build [.v (.int .i64 0), .v (.int .i64 0)] [(0, 1, .t 4), (1, 1, .t 7)], none⟩,
 ⟨none, .store [none, none] (.t 2) (.t 8), none⟩])
 .ret))
def if_spec_l1Pt : IFn := ⟨9, [.inr (2, 2)], ib_spec_l1Pt, lcF []⟩
def ks_spec_l1Pt : List (List (Option Nat)) := [[none, none]]
def gf_spec_l1Pt (a0 : Rd) : Option (Pt × Int) := (gf_spec_l12Rd_pick a0 4).bind fun x2 => (gf_spec_l12Rd_num (⟨a0.b, x2.2⟩ : Rd) ([0, 1, 2, 5] : (List Int))).bind fun x5 => some ((⟨x2.1, x5.1⟩ : Pt), x5.2)
def c_spec_l1Pt : Con := ⟨Rd × Option Addr × Nat, (Pt × Int), 387, fun a => [.pio 0 290], fun a => gf_spec_l1Pt a.1, fun a r => ⟨[(true, ePt r.1)], [some [[.v (.slice a.2.1 (List.map eU8 a.1.b).length a.2.2), .v (.int .i64 r.2)]]]⟩, fun a => [(true, 290, [[.rw a.2.1 a.2.2 (List.map eU8 a.1.b), .v (.int .i64 a.1.p)]])]⟩
/-! spec.l1Min -/
def ib_spec_l1Min : IC :=
 (.seq (.reg [⟨some 4, .mv (.c (.int .i64 0)), none⟩])
 (.seq (.seq (.reg [⟨some 5, .mv (.t 0), none⟩,
 ⟨some 6, .mv (.t 1), none⟩,
 ⟨some 7, .bin .lss (.t 5) (.t 6), none⟩])
 (.cond (.t 7) (.seq (.reg [⟨some 8, .mv (.t 0), none⟩,
 ⟨some 4, .mv (.t 8), none⟩])
 .ret)
 .skip))
 (.seq (.reg [⟨some 9, .mv (.t 1), none⟩,
 ⟨some 4, .mv (.t 9), none⟩])
 .ret)))
def if_spec_l1Min : IFn := ⟨10, [.inl 4], ib_spec_l1Min, lcF []⟩
def ks_spec_l1Min : List (List (Option Nat)) := [[none]]
def gf_spec_l1Min (a0 : Int) (a1 : Int) : Option Int := if (decide (a0 < a1)) = true then (some (a0)) else (some (a1))
def c_spec_l1Min : Con := ⟨Int × Int, Int, 397, fun a => [.v (.int .i64 a.1), .v (.int .i64 a.2)], fun a => gf_spec_l1Min a.1 a.2, fun a r => ⟨[(false, [.v (.int .i64 r)])], []⟩, fun a => []⟩
/-! spec.l1Shape -/
def ib_spec_l1Shape : IC :=
 (.seq (.reg [⟨some 2, .alloc 226 [.v (.int .i64 0), .sl true 66 []], none⟩])
 (.seq (.reg [⟨some 8, .mv (.t 0), none⟩,
 ⟨some 9, .lit 17 [none] [.v (.int .i64 0)] 5 [(0, .c (.int .i64 1)), (1, .c (.int .i64 2)), (2, .c (.int .i64 2)), (3, .c (.int .i64 3)), (4, .c (.int .i64 3))], none⟩,
 ⟨some 10, .call 356 [(true, .t 8), (false, .t 9)], none⟩,
 ⟨some 11, .build [.v (.int .i64 0), .nil] [(0, 1, .t 10)], none⟩,
 ⟨some 3, .alloc 226 [.v (.int .i64 0), .sl true 66 []], none⟩,
 ⟨none, .store [none, some 66] (.t 3) (.t 11), none⟩])
 (.seq (.drw [⟨some 12, .faddr 0 (.t 3), none⟩,
 ⟨some 13, .load 1 false (.t 12), none⟩,
 ⟨some 14, .mv (.t 0), none⟩,
 ⟨some 15, .call 321 [(true, .t 14), (false, .c (.int .i64 4))], none⟩,
 ⟨some 16, .bin .add (.t 13) (.t 15), none⟩,
 ⟨some 4, .mv (.t 16), none⟩] [(1, 3)])
 (seqC (.seq (.reg [⟨some 17, .faddr 0 (.t 3), none⟩,
 ⟨some 18, .load 1 false (.t 17), none⟩,
 ⟨some 19, .bin .eql (.t 18) (.c (.int .i64 1)), none⟩])
 (.cond (.t 19) (.reg [⟨some 4, .mv (.c (.int .i64 1)), none⟩])
 .skip))
 (.seq (.seq (.reg [⟨some 5, .mv (.c (.int .i64 0)), none⟩])
 (blkC 0 (.loop (.seq (.seq (.drw [⟨some 20, .mv (.t 5), none⟩,
 ⟨some 21, .bin .lss (.t 20) (.c (.int .i64 12)), none⟩,
 ⟨some 22, .mv (.t 21), none⟩,
 ⟨some 23, .faddr 1 (.t 3), some (22, true)⟩,
 ⟨some 24, .load 1 false (.t 23), some (22, true)⟩,
 ⟨some 25, .len false (.t 24), some (22, true)⟩,
 ⟨some 26, .mv (.t 4), some (22, true)⟩,
 ⟨some 27, .call 397 [(false, .t 26), (false, .c (.int .i64 6))], some (22, true)⟩,
 ⟨some 28, .bin .lss (.t 25) (.t 27), some (22, true)⟩,
 ⟨some 29, .pick (.t 22) (.t 28) (.c (.bool false)), none⟩] [(4, 7)])
 (.cond (.t 29) .skip
 (.exit 0)))
 (.seq (.block 1 (.seq (.reg [⟨some 32, .mv (.t 0), none⟩,
 ⟨some 33, .call 387 [(true, .t 32)], none⟩,
 ⟨some 6, .alloc 66 [.v (.int .i64 0), .v (.int .i64 0)], none⟩,
 ⟨none, .store [none, none] (.t 6) (.t 33), none⟩])
 (.seq (.reg [⟨some 34, .faddr 1 (.t 3), none⟩,
 ⟨some 35, .load 1 false (.t 34), none⟩,
 ⟨some 36, .len false (.t 35), none⟩,
 ⟨some 7, .mv (.t 36), none⟩])
 (seqC (.drw [⟨some 37, .mv (.t 7), none⟩,
 ⟨some 38, .bin .eql (.t 37) (.c (.int .i64 0)), none⟩,
 ⟨some 39, .mv (.t 38), none⟩,
 ⟨some 40, .faddr 1 (.t 3), some (39, false)⟩,
 ⟨some 41, .load 1 false (.t 40), some (39, false)⟩,
 ⟨some 42, .mv (.t 7), some (39, false)⟩,
 ⟨some 43, .bin .sub (.t 42) (.c (.int .i64 1)), some (39, false)⟩,
 ⟨some 44, .iaddr 2 (.t 41) (.t 43), some (39, false)⟩,
 ⟨some 45, .load 2 true (.t 44), some (39, false)⟩,
 ⟨some 46, .load 2 true (.t 6), some (39, false)⟩,
 ⟨some 47, .eqs true true [0, 0] (.t 45) (.t 46), some (39, false)⟩,
 ⟨some 48, .mv (.t 47), some (39, false)⟩,
 ⟨some 49, .faddr 0 (.t 3), some (48, true)⟩,
 ⟨some 50, .load 1 false (.t 49), some (48, true)⟩,
 ⟨some 51, .bin .neq (.t 50) (.c (.int .i64 3)), some (48, true)⟩,
 ⟨some 52, .mv (.t 51), some (48, true)⟩,
 ⟨some 53, .faddr 1 (.t 3), some (52, false)⟩,
 ⟨some 54, .load 1 false (.t 53), some (52, false)⟩,
 ⟨some 55, .iaddr 2 (.t 54) (.c (.int .i64 0)), some (52, false)⟩,
 ⟨some 56, .load 2 true (.t 55), some (52, false)⟩,
 ⟨some 57, .load 2 true (.t 6), some (52, false)⟩,
 ⟨some 58, .eqs true true [0, 0] (.t 56) (.t 57), some (52, false)⟩,
 ⟨some 59, .pick (.t 52) (.c (.bool true)) (.t 58), some (48, true)⟩,
 ⟨some 60, .pick (.t 48) (.t 59) (.c (.bool false)), some (39, false)⟩,
 ⟨some 61, .pick (.t 39) (.c (.bool true)) (.t 60), none⟩] [(4, 9), (8, 9), (17, 20), (19, 20)])
 (.cond (.t 61) (.reg [⟨some 62, .faddr 1 (.t 3), none⟩,
 ⟨some 63, .load 1 false (.t 62), none⟩,
 ⟨some 64, .load 2 true (.t 6), none⟩,
 ⟨some 65, .lit 66 [none, none] [.v (.int .i64 0), .v (.int .i64 0)] 1 [(0, .t 64)], none⟩,
 ⟨some 66, .app 66 true (.t 63) (.t 65), none⟩,
 ⟨some 67, .faddr 1 (.t 3), none⟩,
 ⟨none, .store [some 66] (.t 67) (.t 66), none⟩])
 .skip)))))
 (.reg [⟨some 30, .mv (.t 5), none⟩,
 ⟨some 31, .bin .add (.t 30) (.c (.int .i64 1)), none⟩,
 ⟨some 5, .mv (.t 31), none⟩]))))))
 (.seq (.seq (.reg [⟨some 68, .load 2 true (.t 3), none⟩,
 ⟨some 69, .call 15 [(false, .t 68)], none⟩,
 ⟨some 70, .un .not (.t 69), none⟩])
 (.cond (.t 70) (.seq (.reg [⟨some 71, .mv (.t 0), none⟩,
 ⟨some 72, .call 387 [(true, .t 71)], none⟩,
 ⟨some 73, .lit 66 [none, none] [.v (.int .i64 0), .v (.int .i64 0)] 1 [(0, .t 72)], none⟩,
 ⟨some 74, .build [.v (.int .i64 0), .nil] [(0, 1, .c (.int .i64 1)), (1, 1, .t 73)], none⟩,
 ⟨none, .store [none, some 66] (.t 2) (.t 74), none⟩])
 .ret)
 .skip))
 (.seq (.reg [⟨some 75, .load 2 true (.t 3), none⟩,
 ⟨none, .store [none, some 66] (.t 2) (.t 75), none⟩])
 .ret)))))))
def if_spec_l1Shape : IFn := ⟨76, [.inr (2, 2)], ib_spec_l1Shape, lcF []⟩
def ks_spec_l1Shape : List (List (Option Nat)) := [[none, some 66]]
def gl_spec_l1Shape_1 (q8 : Int) (a0 : Rd) (x3 : (Int × Int)) : Nat → Int → Int → (List Pt) → Option (Int × (List Pt))
  | 0, _, _, _ => none
  | n119 + 1, v110, v111, v115 => if (decide (v110 < 12)) = true then ((gf_spec_l1Min q8 6).bind fun x120 => if (decide ((v115.length : Int) < x120)) = true then ((gf_spec_l1Pt (⟨a0.b, v111⟩ : Rd)).bind fun x122 => ((if ((v115.length : Int) == 0) = true then (some true) else ((idx v115 (IntKind.i64.wrap ((v115.length : Int) - 1))).bind fun x130 => if (!((x130.x == x122.1.x) && ((x130.y == x122.1.y) && true))) = true then (if (x3.1 != 3) = true then (some true) else ((idx v115 0).bind fun x132 => some (!((x132.x == x122.1.x) && ((x132.y == x122.1.y) && true))))) else (some false)) : Option Bool)).bind fun q129 => if q129 = true then (if fits (v115 ++ ([x122.1] : (List Pt))).length = true then gl_spec_l1Shape_1 q8 a0 x3 n119 (IntKind.i64.wrap (v110 + 1)) x122.2 (v115 ++ ([x122.1] : (List Pt))) else none) else (gl_spec_l1Shape_1 q8 a0 x3 n119 (IntKind.i64.wrap (v110 + 1)) x122.2 v115)) else (some (v111, v115))) else (some (v111, v115))
def gf_spec_l1Shape (a0 : Rd) : Option (Shape × Int) := (gf_spec_l12Rd_num a0 ([1, 2, 2, 3, 3] : (List Int))).bind fun x3 => (gf_spec_l12Rd_pick (⟨a0.b, x3.2⟩ : Rd) 4).bind fun x6 => ((if (x3.1 == 1) = true then (some 1) else (some (IntKind.i64.wrap (x3.1 + x6.1))) : Option Int)).bind fun q8 => (gl_spec_l1Shape_1 q8 a0 x3 rounds 0 x6.2 []).bind fun q109 => (gf_spec_ShapeOk (⟨x3.1, q109.2⟩ : Shape)).bind fun x154 => if (!x154) = true then ((gf_spec_l1Pt (⟨a0.b, q109.1⟩ : Rd)).bind fun x156 => some ((⟨1, [x156.1]⟩ : Shape), x156.2)) else (some ((⟨x3.1, q109.2⟩ : Shape), q109.1))
def c_spec_l1Shape : Con := ⟨Rd × Option Addr × Nat, (Shape × Int), 386, fun a => [.pio 0 290], fun a => gf_spec_l1Shape a.1, fun a r => ⟨[(true, eShape true r.1)], [some [[.v (.slice a.2.1 (List.map eU8 a.1.b).length a.2.2), .v (.int .i64 r.2)]]]⟩, fun a => [(true, 290, [[.rw a.2.1 a.2.2 (List.map eU8 a.1.b), .v (.int .i64 a.1.p)]])]⟩
/-! spec.l2Feat -/
def ib_spec_l2Feat : IC :=
 (.seq (.reg [⟨some 4, .alloc 100 [.v (.string ⟨#[]⟩), .v (.int .i64 0), .sl true 66 [], .sl true 82 []], none⟩])
 (.seq (.reg [⟨some 7, .mv (.t 1), none⟩,
 ⟨some 8, .mv (.t 0), none⟩,
 ⟨some 9, .call 386 [(true, .t 8)], none⟩,
 ⟨some 10, .build [.v (.string ⟨#[]⟩), .v (.int .i64 0), .nil, .nil] [(0, 1, .t 7), (1, 2, .t 9)], none⟩,
 ⟨some 5, .alloc 100 [.v (.string ⟨#[]⟩), .v (.int .i64 0), .sl true 66 [], .sl true 82 []], none⟩,
 ⟨none, .store [none, none, some 66, some 82] (.t 5) (.t 10), none⟩])
 (.seq (.seq (.reg [⟨some 11, .mv (.t 0), none⟩,
 ⟨some 12, .call 321 [(true, .t 11), (false, .c (.int .i64 4))], none⟩,
 ⟨some 6, .mv (.t 12), none⟩])
 (blkC 0 (.loop (.seq (.seq (.reg [⟨some 13, .mv (.t 6), none⟩,
 ⟨some 14, .bin .gtr (.t 13) (.c (.int .i64 0)), none⟩])
 (.cond (.t 14) .skip
 (.exit 0)))
 (.seq (.block 1 (.drw [⟨some 17, .faddr 3 (.t 5), none⟩,
 ⟨some 18, .load 1 false (.t 17), none⟩,
 ⟨some 19, .mv (.t 0), none⟩,
 ⟨some 20, .call 365 [(true, .t 19)], none⟩,
 ⟨some 21, .mv (.t 0), none⟩,
 ⟨some 22, .call 366 [(true, .t 21)], none⟩,
 ⟨some 23, .call 47 [(false, .t 18), (false, .t 20), (false, .t 22)], none⟩,
 ⟨some 24, .faddr 3 (.t 5), none⟩,
 ⟨none, .store [some 82] (.t 24) (.t 23), none⟩] [(1, 3), (1, 5)]))
 (.reg [⟨some 15, .mv (.t 6), none⟩,
 ⟨some 16, .bin .sub (.t 15) (.c (.int .i64 1)), none⟩,
 ⟨some 6, .mv (.t 16), none⟩]))))))
 (.seq (.reg [⟨some 25, .load 4 true (.t 5), none⟩,
 ⟨none, .store [none, none, some 66, some 82] (.t 4) (.t 25), none⟩])
 .ret))))
def if_spec_l2Feat : IFn := ⟨26, [.inr (4, 4)], ib_spec_l2Feat, lcF []⟩
def ks_spec_l2Feat : List (List (Option Nat)) := [[none, none, some 66, some 82]]
def gl_spec_l2Feat_1 (a0 : Rd) : Nat → Int → Int → (List Tag) → Option ((List Tag) × Int)
  | 0, _, _, _ => none
  | n70 + 1, v57, v58, v66 => if (decide (v57 > 0)) = true then ((gf_spec_l2Key (⟨a0.b, v58⟩ : Rd)).bind fun x71 => (gf_spec_l2Val (⟨a0.b, x71.2⟩ : Rd)).bind fun x73 => (gf_spec_l2Put v66 x71.1 x73.1).bind fun x75 => gl_spec_l2Feat_1 a0 n70 (IntKind.i64.wrap (v57 - 1)) x73.2 x75) else (some (v66, v58))
def gf_spec_l2Feat (a0 : Rd) (a1 : Str) : Option (Feat × Int) := (gf_spec_l1Shape a0).bind fun x2 => (gf_spec_l12Rd_pick (⟨a0.b, x2.2⟩ : Rd) 4).bind fun x7 => (gl_spec_l2Feat_1 a0 rounds x7.1 x7.2 []).bind fun q56 => some ((⟨a1, x2.1, q56.1⟩ : Feat), q56.2)
def c_spec_l2Feat : Con := ⟨Rd × Str × Option Addr × Nat, (Feat × Int), 363, fun a => [.pio 0 290, .v (.string a.2.1)], fun a => gf_spec_l2Feat a.1 a.2.1, fun a r => ⟨[(true, eFeat true r.1)], [some [[.v (.slice a.2.2.1 (List.map eU8 a.1.b).length a.2.2.2), .v (.int .i64 r.2)]]]⟩, fun a => [(true, 290, [[.rw a.2.2.1 a.2.2.2 (List.map eU8 a.1.b), .v (.int .i64 a.1.p)]])]⟩
/-! spec.l1Bent -/
def ib_spec_l1Bent : IC :=
 (.seq (.reg [⟨some 2, .alloc 226 [.v (.int .i64 0), .sl true 66 []], none⟩])
 (.seq (.reg [⟨some 5, .mv (.t 0), none⟩,
 ⟨some 6, .call 386 [(true, .t 5)], none⟩,
 ⟨some 3, .alloc 226 [.v (.int .i64 0), .sl true 66 []], none⟩,
 ⟨none, .store [none, some 66] (.t 3) (.t 6), none⟩])
 (.seq (.reg [⟨some 7, .mv (.t 0), none⟩,
 ⟨some 8, .faddr 1 (.t 3), none⟩,
 ⟨some 9, .load 1 false (.t 8), none⟩,
 ⟨some 10, .len false (.t 9), none⟩,
 ⟨some 11, .call 321 [(true, .t 7), (false, .t 10)], none⟩,
 ⟨some 4, .mv (.t 11), none⟩])
 (.seq (.seq (.reg [⟨some 12, .mv (.t 0), none⟩,
 ⟨some 13, .call 321 [(true, .t 12), (false, .c (.int .i64 40))], none⟩])
 (.block 0 (seqC (.reg [⟨some 15, .bin .eql (.t 13) (.c (.int .i64 0)), none⟩,
 ⟨some 14, .mv (.t 15), none⟩])
 (.cond (.t 14) (.reg [⟨some 16, .mv (.t 0), none⟩,
 ⟨some 17, .lit 17 [none] [.v (.int .i64 0)] 5 [(0, .c (.int .i64 0)), (1, .c (.int .i64 4)), (2, .c (.int .i64 1)), (3, .c (.int .i64 2)), (4, .c (.int .i64 3))], none⟩,
 ⟨some 18, .call 356 [(true, .t 16), (false, .t 17)], none⟩,
 ⟨some 19, .faddr 0 (.t 3), none⟩,
 ⟨none, .store [none] (.t 19) (.t 18), none⟩])
 (.seq (.reg [⟨some 21, .bin .eql (.t 13) (.c (.int .i64 1)), none⟩,
 ⟨some 20, .mv (.t 21), none⟩])
 (.cond (.t 20) (.drw [⟨some 22, .faddr 1 (.t 3), none⟩,
 ⟨some 23, .load 1 false (.t 22), none⟩,
 ⟨some 24, .mv (.t 4), none⟩,
 ⟨some 25, .mv (.t 0), none⟩,
 ⟨some 26, .lit 17 [none] [.v (.int .i64 0)] 3 [(0, .c (.int .i64 1000)), (1, .c (.int .i64 1001)), (2, .c (.int .i64 (-1001)))], none⟩,
 ⟨some 27, .call 356 [(true, .t 25), (false, .t 26)], none⟩,
 ⟨some 28, .iaddr 2 (.t 23) (.t 24), none⟩,
 ⟨some 29, .faddr 0 (.t 28), none⟩,
 ⟨none, .store [none] (.t 29) (.t 27), none⟩] [(1, 4), (1, 5)])
 (.seq (.reg [⟨some 31, .bin .eql (.t 13) (.c (.int .i64 2)), none⟩,
 ⟨some 30, .mv (.t 31), none⟩])
 (.cond (.t 30) (.drw [⟨some 32, .faddr 1 (.t 3), none⟩,
 ⟨some 33, .load 1 false (.t 32), none⟩,
 ⟨some 34, .faddr 1 (.t 3), none⟩,
 ⟨some 35, .load 1 false (.t 34), none⟩,
 ⟨some 36, .faddr 1 (.t 3), none⟩,
 ⟨some 37, .load 1 false (.t 36), none⟩,
 ⟨some 38, .len false (.t 37), none⟩,
 ⟨some 39, .bin .sub (.t 38) (.c (.int .i64 1)), none⟩,
 ⟨some 40, .iaddr 2 (.t 35) (.t 39), none⟩,
 ⟨some 41, .load 2 true (.t 40), none⟩,
 ⟨some 42, .lit 66 [none, none] [.v (.int .i64 0), .v (.int .i64 0)] 1 [(0, .t 41)], none⟩,
 ⟨some 43, .app 66 true (.t 33) (.t 42), none⟩,
 ⟨some 44, .faddr 1 (.t 3), none⟩,
 ⟨none, .store [some 66] (.t 44) (.t 43), none⟩] [(1, 3), (1, 5), (3, 5), (1, 9), (1, 10)])
 (.seq (.reg [⟨some 46, .bin .eql (.t 13) (.c (.int .i64 3)), none⟩,
 ⟨some 45, .mv (.t 46), none⟩])
 (.cond (.t 45) (.reg [⟨some 47, .faddr 1 (.t 3), none⟩,
 ⟨some 48, .load 1 false (.t 47), none⟩,
 ⟨some 49, .mv (.t 4), none⟩,
 ⟨some 50, .trn (.sls 2 (.t 48) none (some (.t 49))), none⟩,
 ⟨some 51, .faddr 1 (.t 3), none⟩,
 ⟨none, .store [some 66] (.t 51) (.t 50), none⟩])
 .skip))))))))))
 (.seq (.reg [⟨some 52, .load 2 true (.t 3), none⟩,
 ⟨none, .store [none, some 66] (.t 2) (.t 52), none⟩])
 .ret)))))
def if_spec_l1Bent : IFn := ⟨53, [.inr (2, 2)], ib_spec_l1Bent, lcF []⟩
def ks_spec_l1Bent : List (List (Option Nat)) := [[none, some 66]]
def gf_spec_l1Bent (a0 : Rd) : Option (Shape × Int) := (gf_spec_l1Shape a0).bind fun x2 => (gf_spec_l12Rd_pick (⟨a0.b, x2.2⟩ : Rd) (x2.1.pts.length : Int)).bind fun x7 => (gf_spec_l12Rd_pick (⟨a0.b, x7.2⟩ : Rd) 40).bind fun x9 => ((some () : Option Unit)).bind fun q11 => if (x9.1 == 0) = true then ((gf_spec_l12Rd_num (⟨a0.b, x9.2⟩ : Rd) ([0, 4, 1, 2, 3] : (List Int))).bind fun x19 => some ((⟨x19.1, x2.1.pts⟩ : Shape), x19.2)) else (if (x9.1 == 1) = true then ((gf_spec_l12Rd_num (⟨a0.b, x9.2⟩ : Rd) ([1000, 1001, (-1001)] : (List Int))).bind fun x22 => (idx x2.1.pts x7.1).bind fun x24 => some ((⟨x2.1.kind, (List.set x2.1.pts x7.1.toNat (⟨x22.1, x24.y⟩ : Pt))⟩ : Shape), x22.2)) else (if (x9.1 == 2) = true then ((idx x2.1.pts (IntKind.i64.wrap ((x2.1.pts.length : Int) - 1))).bind fun x26 => if fits (x2.1.pts ++ ([x26] : (List Pt))).length = true then some ((⟨x2.1.kind, (x2.1.pts ++ ([x26] : (List Pt)))⟩ : Shape), x9.2) else none) else (if (x9.1 == 3) = true then ((slc x2.1.pts 0 x7.1).bind fun x32 => some ((⟨x2.1.kind, x32⟩ : Shape), x9.2)) else (some (x2.1, x9.2)))))
def c_spec_l1Bent : Con := ⟨Rd × Option Addr × Nat, (Shape × Int), 372, fun a => [.pio 0 290], fun a => gf_spec_l1Bent a.1, fun a r => ⟨[(true, eShape true r.1)], [some [[.v (.slice a.2.1 (List.map eU8 a.1.b).length a.2.2), .v (.int .i64 r.2)]]]⟩, fun a => [(true, 290, [[.rw a.2.1 a.2.2 (List.map eU8 a.1.b), .v (.int .i64 a.1.p)]])]⟩
/-! spec.l2Bent -/
def ib_spec_l2Bent : IC :=
 (.seq (.reg [⟨some 2, .alloc 100 [.v (.string ⟨#[]⟩), .v (.int .i64 0), .sl true 66 [], .sl true 82 []], none⟩])
 (seqC (.reg [⟨some 4, .mv (.t 0), none⟩,
 ⟨some 5, .mv (.t 0), none⟩,
 ⟨some 6, .call 362 [(true, .t 5)], none⟩,
 ⟨some 7, .call 363 [(true, .t 4), (false, .t 6)], none⟩,
 ⟨some 3, .alloc 100 [.v (.string ⟨#[]⟩), .v (.int .i64 0), .sl true 66 [], .sl true 82 []], none⟩,
 ⟨none, .store [none, none, some 66, some 82] (.t 3) (.t 7), none⟩])
 (.seq (.seq (.reg [⟨some 8, .mv (.t 0), none⟩,
 ⟨some 9, .call 321 [(true, .t 8), (false, .c (.int .i64 40))], none⟩])
 (.block 0 (.seq (.reg [⟨some 11, .bin .eql (.t 9) (.c (.int .i64 0)), none⟩,
 ⟨some 10, .mv (.t 11), none⟩])
 (.cond (.t 10) (.reg [⟨some 12, .mv (.t 0), none⟩,
 ⟨some 13, .lit 49 [none] [.v (.string ⟨#[]⟩)] 3 [(0, .c (.string ⟨#[]⟩)), (1, .c (.string ⟨#[65]⟩)), (2, .c (.string ⟨#[97, 98, 99, 100, 101, 102, 103]⟩))], none⟩,
 ⟨some 14, .call 326 [(true, .t 12), (false, .t 13)], none⟩,
 ⟨some 15, .faddr 0 (.t 3), none⟩,
 ⟨none, .store [none] (.t 15) (.t 14), none⟩])
 (.seq (.reg [⟨some 17, .bin .eql (.t 9) (.c (.int .i64 1)), none⟩,
 ⟨some 16, .mv (.t 17), none⟩])
 (.cond (.t 16) (.reg [⟨some 18, .mv (.t 0), none⟩,
 ⟨some 19, .call 372 [(true, .t 18)], none⟩,
 ⟨some 20, .faddr 1 (.t 3), none⟩,
 ⟨none, .store [none, some 66] (.t 20) (.t 19), none⟩])
 (.seq (.reg [⟨some 22, .bin .eql (.t 9) (.c (.int .i64 2)), none⟩,
 ⟨some 21, .mv (.t 22), none⟩])
 (.cond (.t 21) (.reg [⟨some 23, .faddr 3 (.t 3), none⟩,
 ⟨some 24, .load 1 false (.t 23), none⟩,
 ⟨some 25, .build [.v (.string ⟨#[]⟩), .v (.string ⟨#[]⟩)] [(0, 1, .c (.string ⟨#[97]⟩)), (1, 1, .c (.string ⟨#[98]⟩))], none⟩,
 ⟨some 26, .lit 82 [none, none] [.v (.string ⟨#[]⟩), .v (.string ⟨#[]⟩)] 1 [(0, .t 25)], none⟩,
 ⟨some 27, .app 82 true (.t 24) (.t 26), none⟩,
 ⟨some 28, .faddr 3 (.t 3), none⟩,
 ⟨none, .store [some 82] (.t 28) (.t 27), none⟩])
 (.seq (.reg [⟨some 30, .bin .eql (.t 9) (.c (.int .i64 3)), none⟩,
 ⟨some 29, .mv (.t 30), none⟩])
 (.cond (.t 29) (.drw [⟨some 31, .faddr 3 (.t 3), none⟩,
 ⟨some 32, .load 1 false (.t 31), none⟩,
 ⟨some 33, .mv (.t 0), none⟩,
 ⟨some 34, .lit 49 [none] [.v (.string ⟨#[]⟩)] 2 [(0, .c (.string ⟨#[]⟩)), (1, .c (.string ⟨#[66]⟩))], none⟩,
 ⟨some 35, .call 326 [(true, .t 33), (false, .t 34)], none⟩,
 ⟨some 36, .build [.v (.string ⟨#[]⟩), .v (.string ⟨#[]⟩)] [(0, 1, .c (.string ⟨#[122, 122]⟩)), (1, 1, .t 35)], none⟩,
 ⟨some 37, .lit 82 [none, none] [.v (.string ⟨#[]⟩), .v (.string ⟨#[]⟩)] 1 [(0, .t 36)], none⟩,
 ⟨some 38, .app 82 true (.t 32) (.t 37), none⟩,
 ⟨some 39, .faddr 3 (.t 3), none⟩,
 ⟨none, .store [some 82] (.t 39) (.t 38), none⟩] [(1, 3), (1, 4), (1, 6)])
 .skip))))))))))
 (.seq (.reg [⟨some 40, .load 4 true (.t 3), none⟩,
 ⟨none, .store [none, none, some 66, some 82] (.t 2) (.t 40), none⟩])
 .ret))))
def if_spec_l2Bent : IFn := ⟨41, [.inr (2, 4)], ib_spec_l2Bent, lcF []⟩
def ks_spec_l2Bent : List (List (Option Nat)) := [[none, none, some 66, some 82]]
def gf_spec_l2Bent (a0 : Rd) : Option (Feat × Int) := (((gf_spec_l2Id a0).bind fun x3 => (gf_spec_l2Feat (⟨a0.b, x3.2⟩ : Rd) x3.1).bind fun x5 => some (x5.2, x5.1.shape.pts, x5.1.tags, x5.1.id, x5.1.shape.kind) : Option (Int × (List Pt) × (List Tag) × Str × Int))).bind fun q2 => (gf_spec_l12Rd_pick (⟨a0.b, q2.1⟩ : Rd) 40).bind fun x27 => if (x27.1 == 0) = true then ((gf_spec_l12Rd_of (⟨a0.b, x27.2⟩ : Rd) ([(⟨#[]⟩ : Str), (⟨#[65]⟩ : Str), (⟨#[97, 98, 99, 100, 101, 102, 103]⟩ : Str)] : (List Str))).bind fun x30 => some ((⟨x30.1, ⟨q2.2.2.2.2, q2.2.1⟩, q2.2.2.1⟩ : Feat), x30.2)) else (if (x27.1 == 1) = true then ((gf_spec_l1Bent (⟨a0.b, x27.2⟩ : Rd)).bind fun x32 => some ((⟨q2.2.2.2.1, x32.1, q2.2.2.1⟩ : Feat), x32.2)) else (if (x27.1 == 2) = true then (if fits (q2.2.2.1 ++ ([(⟨(⟨#[97]⟩ : Str), (⟨#[98]⟩ : Str)⟩ : Tag)] : (List Tag))).length = true then some ((⟨q2.2.2.2.1, ⟨q2.2.2.2.2, q2.2.1⟩, (q2.2.2.1 ++ ([(⟨(⟨#[97]⟩ : Str), (⟨#[98]⟩ : Str)⟩ : Tag)] : (List Tag)))⟩ : Feat), x27.2) else none) else (if (x27.1 == 3) = true then ((gf_spec_l12Rd_of (⟨a0.b, x27.2⟩ : Rd) ([(⟨#[]⟩ : Str), (⟨#[66]⟩ : Str)] : (List Str))).bind fun x41 => if fits (q2.2.2.1 ++ ([(⟨(⟨#[122, 122]⟩ : Str), x41.1⟩ : Tag)] : (List Tag))).length = true then some ((⟨q2.2.2.2.1, ⟨q2.2.2.2.2, q2.2.1⟩, (q2.2.2.1 ++ ([(⟨(⟨#[122, 122]⟩ : Str), x41.1⟩ : Tag)] : (List Tag)))⟩ : Feat), x41.2) else none) else (some ((⟨q2.2.2.2.1, ⟨q2.2.2.2.2, q2.2.1⟩, q2.2.2.1⟩ : Feat), x27.2)))))
def c_spec_l2Bent : Con := ⟨Rd × Option Addr × Nat, (Feat × Int), 341, fun a => [.pio 0 290], fun a => gf_spec_l2Bent a.1, fun a r => ⟨[(true, eFeat true r.1)], [some [[.v (.slice a.2.1 (List.map eU8 a.1.b).length a.2.2), .v (.int .i64 r.2)]]]⟩, fun a => [(true, 290, [[.rw a.2.1 a.2.2 (List.map eU8 a.1.b), .v (.int .i64 a.1.p)]])]⟩
/-! spec.l3Put -/
def ib_spec_l3Put_xl : IC :=
 (.seq (.reg [⟨some 3, .box 100 [none, none, some 66, some 82] (.t 1), none⟩,
 ⟨some 4, .mv (.c (.slice none 0 0)), none⟩])
 (.seq (.reg [⟨some 8, .lit 100 [none, none, some 66, some 82] [.v (.string ⟨#[]⟩), .v (.int .i64 0), .sl true 66 [], .sl true 82 []] 0 [], none⟩,
 ⟨some 5, .mv (.t 8), none⟩])
 (.seq (.reg [⟨some 6, .mv (.c (.bool false)), none⟩])
 (.seq (.seq (.reg [⟨some 7, .mv (.c (.int .i64 0)), none⟩])
 (blkC 0 (.loop (.seq (.seq (.reg [⟨some 9, .mv (.t 7), none⟩,
 ⟨some 10, .mv (.t 0), none⟩,
 ⟨some 11, .len false (.t 10), none⟩,
 ⟨some 12, .bin .lss (.t 9) (.t 11), none⟩])
 (.cond (.t 12) .skip
 (.exit 0)))
 (.seq (.block 1 (seqC (.seq (.drw [⟨some 15, .mv (.t 6), none⟩,
 ⟨some 16, .un .not (.t 15), none⟩,
 ⟨some 17, .mv (.t 16), none⟩,
 ⟨some 18, .mv (.t 0), some (17, true)⟩,
 ⟨some 19, .mv (.t 7), some (17, true)⟩,
 ⟨some 20, .iaddr 4 (.t 18) (.t 19), some (17, true)⟩,
 ⟨some 21, .faddr 0 (.t 20), some (17, true)⟩,
 ⟨some 22, .load 1 false (.t 21), some (17, true)⟩,
 ⟨some 23, .faddr 0 (.t 3), some (17, true)⟩,
 ⟨some 24, .load 1 false (.t 23), some (17, true)⟩,
 ⟨some 25, .bin .geq (.t 22) (.t 24), some (17, true)⟩,
 ⟨some 26, .pick (.t 17) (.t 25) (.c (.bool false)), none⟩] [(7, 9)])
 (.cond (.t 26) (.seq (.reg [⟨some 27, .mv (.t 5), none⟩,
 ⟨some 28, .load 4 true (.t 3), none⟩,
 ⟨some 29, .lit 100 [none, none, some 66, some 82] [.v (.string ⟨#[]⟩), .v (.int .i64 0), .sl true 66 [], .sl true 82 []] 1 [(0, .t 28)], none⟩,
 ⟨some 30, .app 100 true (.t 27) (.t 29), none⟩,
 ⟨some 5, .mv (.t 30), none⟩])
 (.reg [⟨some 6, .mv (.c (.bool true)), none⟩]))
 .skip))
 (.seq (.drw [⟨some 31, .mv (.t 0), none⟩,
 ⟨some 32, .mv (.t 7), none⟩,
 ⟨some 33, .iaddr 4 (.t 31) (.t 32), none⟩,
 ⟨some 34, .faddr 0 (.t 33), none⟩,
 ⟨some 35, .load 1 false (.t 34), none⟩,
 ⟨some 36, .faddr 0 (.t 3), none⟩,
 ⟨some 37, .load 1 false (.t 36), none⟩,
 ⟨some 38, .bin .neq (.t 35) (.t 37), none⟩] [(4, 6)])
 (.cond (.t 38) (.reg [⟨some 39, .mv (.t 5), none⟩,
 ⟨some 40, .mv (.t 0), none⟩,
 ⟨some 41, .mv (.t 7), none⟩,
 ⟨some 42, .iaddr 4 (.t 40) (.t 41), none⟩,
 ⟨some 43, .load 4 true (.t 42), none⟩,
 ⟨some 44, .lit 100 [none, none, some 66, some 82] [.v (.string ⟨#[]⟩), .v (.int .i64 0), .sl true 66 [], .sl true 82 []] 1 [(0, .t 43)], none⟩,
 ⟨some 45, .app 100 true (.t 39) (.t 44), none⟩,
 ⟨some 5, .mv (.t 45), none⟩])
 .skip))))
 (.reg [⟨some 13, .mv (.t 7), none⟩,
 ⟨some 14, .bin .add (.t 13) (.c (.int .i64 1)), none⟩,
 ⟨some 7, .mv (.t 14), none⟩]))))))
 (.seq (.seq (.reg [⟨some 46, .mv (.t 6), none⟩,
 ⟨some 47, .un .not (.t 46), none⟩])
 (.cond (.t 47) (.reg [⟨some 48, .mv (.t 5), none⟩,
 ⟨some 49, .load 4 true (.t 3), none⟩,
 ⟨some 50, .lit 100 [none, none, some 66, some 82] [.v (.string ⟨#[]⟩), .v (.int .i64 0), .sl true 66 [], .sl true 82 []] 1 [(0, .t 49)], none⟩,
 ⟨some 51, .app 100 true (.t 48) (.t 50), none⟩,
 ⟨some 5, .mv (.t 51), none⟩])
 .skip))
 (.seq (.reg [⟨some 52, .mv (.t 5), none⟩,
 ⟨some 4, .mv (.t 52), none⟩])
 .ret))))))
def if_spec_l3Put_xl : IFn := ⟨53, [.inl 4], ib_spec_l3Put_xl, lcF []⟩
def ks_spec_l3Put_xl : List (List (Option Nat)) := [[some 100]]
def gl_spec_l3Put_xl_1 (a1 : Feat) : List Feat → Nat → Bool → (List Feat) → Option (Bool × (List Feat))
  | [], k92, v86, v89 => some (v86, v89)
  | x93 :: l94, k92, v86, v89 => ((if (!v86) = true then (if (!slt x93.id a1.id) = true then (if fits (v89 ++ ([a1] : (List Feat))).length = true then some (true, (v89 ++ ([a1] : (List Feat)))) else none) else (some (v86, v89))) else (some (v86, v89)) : Option (Bool × (List Feat)))).bind fun q105 => if (!seq x93.id a1.id) = true then (if fits (q105.2 ++ ([x93] : (List Feat))).length = true then gl_spec_l3Put_xl_1 a1 l94 (k92 + 1) q105.1 (q105.2 ++ ([x93] : (List Feat))) else none) else (gl_spec_l3Put_xl_1 a1 l94 (k92 + 1) q105.1 q105.2)
def gf_spec_l3Put_xl (a0 : (List Feat)) (a1 : Feat) : Option (List Feat) := if fits a0.length = true then ((gl_spec_l3Put_xl_1 a1 a0 0 false []).bind fun q85 => if (!q85.1) = true then (if fits (q85.2 ++ ([a1] : (List Feat))).length = true then some ((q85.2 ++ ([a1] : (List Feat)))) else none) else (some (q85.2))) else none
def c_spec_l3Put_xl : Con := ⟨(List Feat) × Feat, (List Feat), 37, fun a => [.io 0 a.1.length 100, .agg [.v (.string a.2.id), .v (.int .i64 a.2.shape.kind), .ro (List.map ePt a.2.shape.pts), .ro (List.map eTag a.2.tags)]], fun a => gf_spec_l3Put_xl a.1 a.2, fun a r => ⟨[(false, [sl true 100 (List.map (eFeat false) r)])], [none]⟩, fun a => [(false, 100, List.map (eFeat false) a.1)]⟩
/-! spec.l3Sheet -/
def ib_spec_l3Sheet : IC :=
 (.seq (.reg [⟨some 2, .mv (.c (.slice none 0 0)), none⟩])
 (.seq (.reg [⟨some 5, .lit 100 [none, none, some 66, some 82] [.v (.string ⟨#[]⟩), .v (.int .i64 0), .sl true 66 [], .sl true 82 []] 0 [], none⟩,
 ⟨some 3, .ren 2000003 100 (.mv (.t 5)), none⟩])
 (.seq (.seq (.reg [⟨some 6, .mv (.t 0), none⟩,
 ⟨some 7, .call 321 [(true, .t 6), (false, .c (.int .i64 5))], none⟩,
 ⟨some 4, .mv (.t 7), none⟩])
 (blkC 0 (.loop (.seq (.seq (.reg [⟨some 8, .mv (.t 4), none⟩,
 ⟨some 9, .bin .gtr (.t 8) (.c (.int .i64 0)), none⟩])
 (.cond (.t 9) .skip
 (.exit 0)))
 (.seq (.block 1 (.reg [⟨some 12, .mv (.t 3), none⟩,
 ⟨some 13, .mv (.t 0), none⟩,
 ⟨some 14, .mv (.t 0), none⟩,
 ⟨some 15, .call 362 [(true, .t 14)], none⟩,
 ⟨some 16, .frz (.call 363 [(true, .t 13), (false, .t 15)]), none⟩,
 ⟨some 17, .call 37 [(true, .t 12), (false, .t 16)], none⟩,
 ⟨some 3, .ren 2000003 100 (.mv (.t 17)), none⟩]))
 (.reg [⟨some 10, .mv (.t 4), none⟩,
 ⟨some 11, .bin .sub (.t 10) (.c (.int .i64 1)), none⟩,
 ⟨some 4, .mv (.t 11), none⟩]))))))
 (.seq (.reg [⟨some 18, .mv (.t 3), none⟩,
 ⟨some 2, .mv (.t 18), none⟩])
 .ret))))
def if_spec_l3Sheet : IFn := ⟨19, [.inl 2], ib_spec_l3Sheet, lcF []⟩
def ks_spec_l3Sheet : List (List (Option Nat)) := [[some 100]]
def gl_spec_l3Sheet_1 (a0 : Rd) : Nat → Int → Int → (List Feat) → Option ((List Feat) × Int)
  | 0, _, _, _ => none
  | n53 + 1, v48, v49, v50 => if (decide (v48 > 0)) = true then ((gf_spec_l2Id (⟨a0.b, v49⟩ : Rd)).bind fun x54 => (gf_spec_l2Feat (⟨a0.b, x54.2⟩ : Rd) x54.1).bind fun x56 => (gf_spec_l3Put_xl v50 x56.1).bind fun x62 => gl_spec_l3Sheet_1 a0 n53 (IntKind.i64.wrap (v48 - 1)) x56.2 x62) else (some (v50, v49))
def gf_spec_l3Sheet (a0 : Rd) : Option ((List Feat) × Int) := (gf_spec_l12Rd_pick a0 5).bind fun x2 => (gl_spec_l3Sheet_1 a0 rounds x2.1 x2.2 []).bind fun q47 => some (q47.1, q47.2)
def c_spec_l3Sheet : Con := ⟨Rd × Option Addr × Nat, ((List Feat) × Int), 361, fun a => [.pio 0 290], fun a => gf_spec_l3Sheet a.1, fun a r => ⟨[(false, [sl true 100 (List.map (eFeat false) r.1)])], [some [[.v (.slice a.2.1 (List.map eU8 a.1.b).length a.2.2), .v (.int .i64 r.2)]]]⟩, fun a => [(true, 290, [[.rw a.2.1 a.2.2 (List.map eU8 a.1.b), .v (.int .i64 a.1.p)]])]⟩
/-! spec.l3Bent -/
def ib_spec_l3Bent : IC :=
 (.seq (.reg [⟨some 2, .mv (.c (.slice none 0 0)), none⟩])
 (.seq (.reg [⟨some 5, .mv (.t 0), none⟩,
 ⟨some 6, .call 361 [(true, .t 5)], none⟩,
 ⟨some 3, .ren 2000003 100 (.mv (.t 6)), none⟩])
 (.seq (.seq (.reg [⟨some 7, .mv (.t 0), none⟩,
 ⟨some 8, .call 321 [(true, .t 7), (false, .c (.int .i64 40))], none⟩])
 (.block 0 (.seq (.reg [⟨some 10, .bin .eql (.t 8) (.c (.int .i64 0)), none⟩,
 ⟨some 9, .mv (.t 10), none⟩])
 (.cond (.t 9) (.reg [⟨some 11, .mv (.t 3), none⟩,
 ⟨some 12, .mv (.t 0), none⟩,
 ⟨some 13, .frz (.call 341 [(true, .t 12)]), none⟩,
 ⟨some 14, .lit 100 [none, none, some 66, some 82] [.v (.string ⟨#[]⟩), .v (.int .i64 0), .sl true 66 [], .sl true 82 []] 1 [(0, .t 13)], none⟩,
 ⟨some 15, .app 100 true (.t 11) (.t 14), none⟩,
 ⟨some 3, .ren 2000003 100 (.mv (.t 15)), none⟩])
 (.seq (.reg [⟨some 17, .bin .eql (.t 8) (.c (.int .i64 1)), none⟩,
 ⟨some 16, .mv (.t 17), none⟩])
 (.cond (.t 16) (.seq (.reg [⟨some 18, .mv (.t 3), none⟩,
 ⟨some 19, .mv (.t 3), none⟩,
 ⟨some 20, .app 100 false (.t 18) (.t 19), none⟩,
 ⟨some 2, .mv (.t 20), none⟩])
 .ret)
 (.seq (.reg [⟨some 22, .bin .eql (.t 8) (.c (.int .i64 2)), none⟩,
 ⟨some 21, .mv (.t 22), none⟩])
 (.cond (.t 21) (.seq (.reg [⟨some 4, .mv (.c (.int .i64 0)), none⟩])
 (blkC 1 (.loop (.seq (.seq (.reg [⟨some 23, .mv (.t 4), none⟩,
 ⟨some 24, .bin .leq (.t 23) (.c (.int .i64 8)), none⟩])
 (.cond (.t 24) .skip
 (.exit 1)))
 (.seq (.block 2 (.reg [⟨some 27, .mv (.t 3), none⟩,
 ⟨some 28, .mv (.t 4), none⟩,
 ⟨some 29, .mv (.t 4), none⟩,
 ⟨some 30, .bin .add (.t 29) (.c (.int .i64 1)), none⟩,
 ⟨some 31, .ssl (.c (.string ⟨#[113, 114, 115, 116, 117, 118, 119, 120, 121, 122]⟩)) (some (.t 28)) (some (.t 30)), none⟩,
 ⟨some 32, .build [.v (.int .i64 0), .v (.int .i64 0)] [], none⟩,
 ⟨some 33, .lit 66 [none, none] [.v (.int .i64 0), .v (.int .i64 0)] 1 [(0, .t 32)], none⟩,
 ⟨some 34, .build [.v (.int .i64 0), .nil] [(0, 1, .c (.int .i64 1)), (1, 1, .t 33)], none⟩,
 ⟨some 35, .frz (.build [.v (.string ⟨#[]⟩), .v (.int .i64 0), .nil, .nil] [(0, 1, .t 31), (1, 2, .t 34)]), none⟩,
 ⟨some 36, .call 37 [(true, .t 27), (false, .t 35)], none⟩,
 ⟨some 3, .ren 2000003 100 (.mv (.t 36)), none⟩]))
 (.reg [⟨some 25, .mv (.t 4), none⟩,
 ⟨some 26, .bin .add (.t 25) (.c (.int .i64 1)), none⟩,
 ⟨some 4, .mv (.t 26), none⟩]))))))
 .skip))))))))
 (.seq (.reg [⟨some 37, .mv (.t 3), none⟩,
 ⟨some 2, .mv (.t 37), none⟩])
 .ret))))
def if_spec_l3Bent : IFn := ⟨38, [.inl 2], ib_spec_l3Bent, lcF []⟩
def ks_spec_l3Bent : List (List (Option Nat)) := [[some 100]]
def gl_spec_l3Bent_1 : Nat → Int → (List Feat) → Option (List Feat)
  | 0, _, _ => none
  | n52 + 1, v48, v49 => if (decide (v48 ≤ 8)) = true then ((sslc (⟨#[113, 114, 115, 116, 117, 118, 119, 120, 121, 122]⟩ : Str) v48 (IntKind.i64.wrap (v48 + 1))).bind fun x53 => (gf_spec_l3Put_xl v49 (⟨x53, ⟨1, [(⟨0, 0⟩ : Pt)]⟩, []⟩ : Feat)).bind fun x56 => gl_spec_l3Bent_1 n52 (IntKind.i64.wrap (v48 + 1)) x56) else (some v49)
def gf_spec_l3Bent (a0 : Rd) : Option ((List Feat) × Int) := (gf_spec_l3Sheet a0).bind fun x1 => (gf_spec_l12Rd_pick (⟨a0.b, x1.2⟩ : Rd) 40).bind fun x5 => if (x5.1 == 0) = true then ((gf_spec_l2Bent (⟨a0.b, x5.2⟩ : Rd)).bind fun x7 => if fits (x1.1 ++ ([x7.1] : (List Feat))).length = true then some ((x1.1 ++ ([x7.1] : (List Feat))), x7.2) else none) else (if (x5.1 == 1) = true then (if fits (x1.1 ++ x1.1).length = true then some ((x1.1 ++ x1.1), x5.2) else none) else (if (x5.1 == 2) = true then ((gl_spec_l3Bent_1 rounds 0 x1.1).bind fun q47 => some (q47, x5.2)) else (some (x1.1, x5.2))))
def c_spec_l3Bent : Con := ⟨Rd × Option Addr × Nat, ((List Feat) × Int), 335, fun a => [.pio 0 290], fun a => gf_spec_l3Bent a.1, fun a r => ⟨[(false, [sl true 100 (List.map (eFeat false) r.1)])], [some [[.v (.slice a.2.1 (List.map eU8 a.1.b).length a.2.2), .v (.int .i64 r.2)]]]⟩, fun a => [(true, 290, [[.rw a.2.1 a.2.2 (List.map eU8 a.1.b), .v (.int .i64 a.1.p)]])]⟩
/-! spec.RepoNew -/
def ib_spec_RepoNew : IC :=
 (.seq (.reg [⟨some 2, .alloc 210 [.sl true 115 [], .sl true 130 []], none⟩,
 ⟨some 3, .mv (.c (.bool false)), none⟩])
 (.seq (.seq (.reg [⟨some 4, .mv (.t 0), none⟩,
 ⟨some 5, .call 14 [(false, .t 4)], none⟩,
 ⟨some 6, .un .not (.t 5), none⟩])
 (.cond (.t 6) (.seq (.reg [⟨some 7, .build [.nil, .nil] [], none⟩,
 ⟨none, .store [some 115, some 130] (.t 2) (.t 7), none⟩,
 ⟨some 3, .mv (.c (.bool false)), none⟩])
 .ret)
 .skip))
 (.seq (.reg [⟨some 8, .build [.nil, .nil, .v (.string ⟨#[]⟩)] [(2, 1, .c (.string ⟨#[98, 101, 103, 105, 110]⟩))], none⟩,
 ⟨some 9, .lit 115 [some 17, some 100, none] [.sl true 17 [], .sl true 100 [], .v (.string ⟨#[]⟩)] 1 [(0, .t 8)], none⟩,
 ⟨some 10, .mv (.t 0), none⟩,
 ⟨some 11, .build [.v (.string ⟨#[]⟩), .v (.int .i64 0)] [(0, 1, .t 10)], none⟩,
 ⟨some 12, .lit 130 [none, none] [.v (.string ⟨#[]⟩), .v (.int .i64 0)] 1 [(0, .t 11)], none⟩,
 ⟨some 13, .build [.nil, .nil] [(0, 1, .t 9), (1, 1, .t 12)], none⟩,
 ⟨none, .store [some 115, some 130] (.t 2) (.t 13), none⟩,
 ⟨some 3, .mv (.c (.bool true)), none⟩])
 .ret)))
def if_spec_RepoNew : IFn := ⟨14, [.inr (2, 2), .inl 3], ib_spec_RepoNew, lcF []⟩
def ks_spec_RepoNew : List (List (Option Nat)) := [[some 115, some 130], [none]]
def gf_spec_RepoNew (a0 : Str) : Option (Repo × Bool) := (gf_spec_WordOk a0).bind fun x2 => if (!x2) = true then (some ((⟨[], []⟩ : Repo), false)) else (some ((⟨[(⟨[], [], (⟨#[98, 101, 103, 105, 110]⟩ : Str)⟩ : Commit)], [(⟨a0, 0⟩ : Head)]⟩ : Repo), true))
def c_spec_RepoNew : Con := ⟨Str, (Repo × Bool), 227, fun a => [.v (.string a)], fun a => gf_spec_RepoNew a, fun a r => ⟨[(true, eRepo true r.1), (false, [.v (.bool r.2)])], []⟩, fun a => []⟩
/-! spec.RepoBranch -/
def ib_spec_RepoBranch : IC :=
 (.seq (.reg [⟨some 3, .box 210 [some 115, some 130] (.t 0), none⟩,
 ⟨some 6, .alloc 210 [.sl true 115 [], .sl true 130 []], none⟩,
 ⟨some 7, .mv (.c (.int .i64 0)), none⟩])
 (.seq (.seq (.reg [⟨some 10, .load 2 true (.t 3), none⟩,
 ⟨some 11, .call 33 [(false, .t 10)], none⟩,
 ⟨some 12, .un .not (.t 11), none⟩,
 ⟨some 13, .mv (.t 12), none⟩,
 ⟨some 14, .mv (.t 1), some (13, false)⟩,
 ⟨some 15, .call 14 [(false, .t 14)], some (13, false)⟩,
 ⟨some 16, .un .not (.t 15), some (13, false)⟩,
 ⟨some 17, .pick (.t 13) (.c (.bool true)) (.t 16), none⟩])
 (.cond (.t 17) (.seq (.reg [⟨some 18, .build [.nil, .nil] [], none⟩,
 ⟨none, .store [some 115, some 130] (.t 6) (.t 18), none⟩,
 ⟨some 7, .mv (.c (.int .i64 4)), none⟩])
 .ret)
 .skip))
 (seqC (.reg [⟨some 19, .load 2 true (.t 3), none⟩,
 ⟨some 20, .call 61 [(false, .t 19)], none⟩,
 ⟨some 8, .alloc 210 [.sl true 115 [], .sl true 130 []], none⟩,
 ⟨none, .store [some 115, some 130] (.t 8) (.t 20), none⟩])
 (.seq (.reg [⟨some 21, .load 2 true (.t 3), none⟩,
 ⟨some 22, .mv (.t 2), none⟩,
 ⟨some 23, .call 28 [(false, .t 21), (false, .t 22)], none⟩,
 ⟨some 9, .mv (.t 23), none⟩])
 (.seq (.block 0 (.seq (.reg [⟨some 25, .mv (.t 9), none⟩,
 ⟨some 26, .bin .lss (.t 25) (.c (.int .i64 0)), none⟩,
 ⟨some 24, .mv (.t 26), none⟩])
 (.cond (.t 24) (.seq (.reg [⟨some 27, .load 2 true (.t 8), none⟩,
 ⟨none, .store [some 115, some 130] (.t 6) (.t 27), none⟩,
 ⟨some 7, .mv (.c (.int .i64 1)), none⟩])
 .ret)
 (.seq (.reg [⟨some 29, .load 2 true (.t 3), none⟩,
 ⟨some 30, .mv (.t 1), none⟩,
 ⟨some 31, .call 28 [(false, .t 29), (false, .t 30)], none⟩,
 ⟨some 32, .bin .geq (.t 31) (.c (.int .i64 0)), none⟩,
 ⟨some 33, .mv (.t 32), none⟩,
 ⟨some 34, .faddr 1 (.t 3), some (33, false)⟩,
 ⟨some 35, .load 1 false (.t 34), some (33, false)⟩,
 ⟨some 36, .len false (.t 35), some (33, false)⟩,
 ⟨some 37, .bin .geq (.t 36) (.c (.int .i64 4)), some (33, false)⟩,
 ⟨some 38, .pick (.t 33) (.c (.bool true)) (.t 37), none⟩,
 ⟨some 28, .mv (.t 38), none⟩])
 (.cond (.t 28) (.seq (.reg [⟨some 39, .load 2 true (.t 8), none⟩,
 ⟨none, .store [some 115, some 130] (.t 6) (.t 39), none⟩,
 ⟨some 7, .mv (.c (.int .i64 2)), none⟩])
 .ret)
 .skip)))))
 (.seq (.drw [⟨some 40, .faddr 1 (.t 8), none⟩,
 ⟨some 41, .load 1 false (.t 40), none⟩,
 ⟨some 42, .mv (.t 1), none⟩,
 ⟨some 43, .faddr 1 (.t 3), none⟩,
 ⟨some 44, .load 1 false (.t 43), none⟩,
 ⟨some 45, .mv (.t 9), none⟩,
 ⟨some 46, .iaddr 2 (.t 44) (.t 45), none⟩,
 ⟨some 47, .faddr 1 (.t 46), none⟩,
 ⟨some 48, .load 1 false (.t 47), none⟩,
 ⟨some 49, .build [.v (.string ⟨#[]⟩), .v (.int .i64 0)] [(0, 1, .t 42), (1, 1, .t 48)], none⟩,
 ⟨some 50, .lit 130 [none, none] [.v (.string ⟨#[]⟩), .v (.int .i64 0)] 1 [(0, .t 49)], none⟩,
 ⟨some 51, .app 130 true (.t 41) (.t 50), none⟩,
 ⟨some 52, .faddr 1 (.t 8), none⟩,
 ⟨none, .store [some 130] (.t 52) (.t 51), none⟩] [(1, 4), (1, 8), (1, 10)])
 (.seq (.reg [⟨some 53, .load 2 true (.t 8), none⟩,
 ⟨none, .store [some 115, some 130] (.t 6) (.t 53), none⟩,
 ⟨some 7, .mv (.c (.int .i64 0)), none⟩])
 .ret)))))))
def if_spec_RepoBranch : IFn := ⟨54, [.inr (6, 2), .inl 7], ib_spec_RepoBranch, lcF []⟩
def ks_spec_RepoBranch : List (List (Option Nat)) := [[some 115, some 130], [none]]
def gf_spec_RepoBranch (a0 : Repo) (a1 : Str) (a2 : Str) : Option (Repo × Int) := (gf_spec_RepoOk a0).bind fun x3 => if (!x3) = true then (some ((⟨[], []⟩ : Repo), 4)) else ((gf_spec_WordOk a1).bind fun x5 => if (!x5) = true then (some ((⟨[], []⟩ : Repo), 4)) else ((((gf_spec_l7Copy a0).bind fun x8 => some (x8.commits, x8.heads) : Option ((List Commit) × (List Head)))).bind fun q7 => (gf_spec_l7Head a0 a2).bind fun x28 => if (decide (x28 < 0)) = true then (some ((⟨q7.1, q7.2⟩ : Repo), 1)) else ((gf_spec_l7Head a0 a1).bind fun x30 => if (decide (x30 ≥ 0)) = true then (some ((⟨q7.1, q7.2⟩ : Repo), 2)) else (if (decide ((a0.heads.length : Int) ≥ 4)) = true then (some ((⟨q7.1, q7.2⟩ : Repo), 2)) else ((idx a0.heads x28).bind fun x32 => if fits (q7.2 ++ ([(⟨a1, x32.at_⟩ : Head)] : (List Head))).length = true then some ((⟨q7.1, (q7.2 ++ ([(⟨a1, x32.at_⟩ : Head)] : (List Head)))⟩ : Repo), 0) else none)))))
def c_spec_RepoBranch : Con := ⟨Repo × Str × Str, (Repo × Int), 224, fun a => [.agg [.ro (List.map (eCommit false) a.1.commits), .ro (List.map eHead a.1.heads)], .v (.string a.2.1), .v (.string a.2.2)], fun a => gf_spec_RepoBranch a.1 a.2.1 a.2.2, fun a r => ⟨[(true, eRepo true r.1), (false, [.v (.int .i64 r.2)])], []⟩, fun a => []⟩
/-! spec.l7Name -/
def ib_spec_l7Name : IC :=
 (.seq (.reg [⟨some 2, .mv (.c (.string ⟨#[]⟩)), none⟩])
 (.seq (.reg [⟨some 3, .mv (.t 0), none⟩,
 ⟨some 4, .lit 49 [none] [.v (.string ⟨#[]⟩)] 3 [(0, .c (.string ⟨#[109, 97, 105, 110]⟩)), (1, .c (.string ⟨#[97, 110, 110]⟩)), (2, .c (.string ⟨#[98, 111, 98]⟩))], none⟩,
 ⟨some 5, .call 326 [(true, .t 3), (false, .t 4)], none⟩,
 ⟨some 2, .mv (.t 5), none⟩])
 .ret))
def if_spec_l7Name : IFn := ⟨6, [.inl 2], ib_spec_l7Name, lcF []⟩
def ks_spec_l7Name : List (List (Option Nat)) := [[none]]
def gf_spec_l7Name (a0 : Rd) : Option (Str × Int) := (gf_spec_l12Rd_of a0 ([(⟨#[109, 97, 105, 110]⟩ : Str), (⟨#[97, 110, 110]⟩ : Str), (⟨#[98, 111, 98]⟩ : Str)] : (List Str))).bind fun x2 => some (x2.1, x2.2)
def c_spec_l7Name : Con := ⟨Rd × Option Addr × Nat, (Str × Int), 327, fun a => [.pio 0 290], fun a => gf_spec_l7Name a.1, fun a r => ⟨[(false, [.v (.string r.1)])], [some [[.v (.slice a.2.1 (List.map eU8 a.1.b).length a.2.2), .v (.int .i64 r.2)]]]⟩, fun a => [(true, 290, [[.rw a.2.1 a.2.2 (List.map eU8 a.1.b), .v (.int .i64 a.1.p)]])]⟩
/-! spec.l3Cut -/
def ib_spec_l3Cut : IC :=
 (.seq (.reg [⟨some 4, .mv (.c (.slice none 0 0)), none⟩])
 (.seq (.reg [⟨some 7, .lit 100 [none, none, some 66, some 82] [.v (.string ⟨#[]⟩), .v (.int .i64 0), .sl true 66 [], .sl true 82 []] 0 [], none⟩,
 ⟨some 5, .mv (.t 7), none⟩])
 (.seq (.seq (.reg [⟨some 6, .mv (.c (.int .i64 0)), none⟩])
 (blkC 0 (.loop (.seq (.seq (.reg [⟨some 8, .mv (.t 6), none⟩,
 ⟨some 9, .mv (.t 0), none⟩,
 ⟨some 10, .len false (.t 9), none⟩,
 ⟨some 11, .bin .lss (.t 8) (.t 10), none⟩])
 (.cond (.t 11) .skip
 (.exit 0)))
 (.seq (.block 1 (.seq (.reg [⟨some 14, .mv (.t 0), none⟩,
 ⟨some 15, .mv (.t 6), none⟩,
 ⟨some 16, .iaddr 4 (.t 14) (.t 15), none⟩,
 ⟨some 17, .faddr 0 (.t 16), none⟩,
 ⟨some 18, .load 1 false (.t 17), none⟩,
 ⟨some 19, .mv (.t 1), none⟩,
 ⟨some 20, .bin .neq (.t 18) (.t 19), none⟩])
 (.cond (.t 20) (.reg [⟨some 21, .mv (.t 5), none⟩,
 ⟨some 22, .mv (.t 0), none⟩,
 ⟨some 23, .mv (.t 6), none⟩,
 ⟨some 24, .iaddr 4 (.t 22) (.t 23), none⟩,
 ⟨some 25, .load 4 true (.t 24), none⟩,
 ⟨some 26, .lit 100 [none, none, some 66, some 82] [.v (.string ⟨#[]⟩), .v (.int .i64 0), .sl true 66 [], .sl true 82 []] 1 [(0, .t 25)], none⟩,
 ⟨some 27, .app 100 true (.t 21) (.t 26), none⟩,
 ⟨some 5, .mv (.t 27), none⟩])
 .skip)))
 (.reg [⟨some 12, .mv (.t 6), none⟩,
 ⟨some 13, .bin .add (.t 12) (.c (.int .i64 1)), none⟩,
 ⟨some 6, .mv (.t 13), none⟩]))))))
 (.seq (.reg [⟨some 28, .mv (.t 5), none⟩,
 ⟨some 4, .mv (.t 28), none⟩])
 .ret))))
def if_spec_l3Cut : IFn := ⟨29, [.inl 4], ib_spec_l3Cut, lcF []⟩
def ks_spec_l3Cut : List (List (Option Nat)) := [[some 100]]
def gl_spec_l3Cut_1 (a1 : Str) : List Feat → Nat → (List Feat) → Option (List Feat)
  | [], k31, v28 => some v28
  | x32 :: l33, k31, v28 => if (!seq x32.id a1) = true then (if fits (v28 ++ ([x32] : (List Feat))).length = true then gl_spec_l3Cut_1 a1 l33 (k31 + 1) (v28 ++ ([x32] : (List Feat))) else none) else (gl_spec_l3Cut_1 a1 l33 (k31 + 1) v28)
def gf_spec_l3Cut (a0 : (List Feat)) (a1 : Str) : Option (List Feat) := if fits a0.length = true then ((gl_spec_l3Cut_1 a1 a0 0 []).bind fun q26 => some (q26)) else none
def c_spec_l3Cut : Con := ⟨(List Feat) × Str, (List Feat), 364, fun a => [.ro (List.map (eFeat false) a.1), .v (.string a.2)], fun a => gf_spec_l3Cut a.1 a.2, fun a r => ⟨[(false, [sl true 100 (List.map (eFeat false) r)])], []⟩, fun a => []⟩
/-! spec.l4Bend -/
def ib_spec_l4Bend : IC :=
 (.seq (.reg [⟨some 3, .box 226 [none, some 66] (.t 1), none⟩,
 ⟨some 4, .alloc 226 [.v (.int .i64 0), .sl true 66 []], none⟩])
 (.seq (.seq (.reg [⟨some 8, .faddr 1 (.t 3), none⟩,
 ⟨some 9, .load 1 false (.t 8), none⟩,
 ⟨some 10, .len false (.t 9), none⟩,
 ⟨some 11, .bin .eql (.t 10) (.c (.int .i64 0)), none⟩])
 (.cond (.t 11) (.seq (.reg [⟨some 12, .load 2 true (.t 3), none⟩,
 ⟨none, .store [none, some 66] (.t 4) (.t 12), none⟩])
 .ret)
 .skip))
 (.seq (.reg [⟨some 13, .mv (.t 0), none⟩,
 ⟨some 14, .faddr 1 (.t 3), none⟩,
 ⟨some 15, .load 1 false (.t 14), none⟩,
 ⟨some 16, .len false (.t 15), none⟩,
 ⟨some 17, .call 321 [(true, .t 13), (false, .t 16)], none⟩,
 ⟨some 5, .mv (.t 17), none⟩])
 (.seq (.reg [⟨some 18, .lit 66 [none, none] [.v (.int .i64 0), .v (.int .i64 0)] 0 [], none⟩,
 ⟨some 19, .faddr 1 (.t 3), none⟩,
 ⟨some 20, .load 1 false (.t 19), none⟩,
 ⟨some 21, .mv (.t 5), none⟩,
 ⟨some 22, .sls 2 (.t 20) none (some (.t 21)), none⟩,
 ⟨some 23, .app 66 false (.t 18) (.t 22), none⟩,
 ⟨some 6, .mv (.t 23), none⟩])
 (seqC (.seq (.reg [⟨some 24, .mv (.t 0), none⟩,
 ⟨some 25, .call 321 [(true, .t 24), (false, .c (.int .i64 3))], none⟩])
 (.block 0 (.seq (.reg [⟨some 38, .bin .eql (.t 25) (.c (.int .i64 0)), none⟩,
 ⟨some 37, .mv (.t 38), none⟩])
 (.cond (.t 37) (.drw [⟨some 39, .mv (.t 6), none⟩,
 ⟨some 40, .mv (.t 0), none⟩,
 ⟨some 41, .call 387 [(true, .t 40)], none⟩,
 ⟨some 42, .lit 66 [none, none] [.v (.int .i64 0), .v (.int .i64 0)] 1 [(0, .t 41)], none⟩,
 ⟨some 43, .app 66 true (.t 39) (.t 42), none⟩,
 ⟨some 44, .faddr 1 (.t 3), none⟩,
 ⟨some 45, .load 1 false (.t 44), none⟩,
 ⟨some 46, .mv (.t 5), none⟩,
 ⟨some 47, .sls 2 (.t 45) (some (.t 46)) none, none⟩,
 ⟨some 48, .app 66 false (.t 43) (.t 47), none⟩,
 ⟨some 6, .mv (.t 48), none⟩] [(2, 6), (3, 6), (4, 6)])
 (.seq (.reg [⟨some 50, .bin .eql (.t 25) (.c (.int .i64 1)), none⟩,
 ⟨some 49, .mv (.t 50), none⟩])
 (.cond (.t 49) (.reg [⟨some 51, .mv (.t 6), none⟩,
 ⟨some 52, .faddr 1 (.t 3), none⟩,
 ⟨some 53, .load 1 false (.t 52), none⟩,
 ⟨some 54, .mv (.t 5), none⟩,
 ⟨some 55, .bin .add (.t 54) (.c (.int .i64 1)), none⟩,
 ⟨some 56, .sls 2 (.t 53) (some (.t 55)) none, none⟩,
 ⟨some 57, .app 66 false (.t 51) (.t 56), none⟩,
 ⟨some 6, .mv (.t 57), none⟩])
 (.drw [⟨some 26, .mv (.t 6), none⟩,
 ⟨some 27, .mv (.t 0), none⟩,
 ⟨some 28, .call 387 [(true, .t 27)], none⟩,
 ⟨some 29, .lit 66 [none, none] [.v (.int .i64 0), .v (.int .i64 0)] 1 [(0, .t 28)], none⟩,
 ⟨some 30, .app 66 true (.t 26) (.t 29), none⟩,
 ⟨some 31, .faddr 1 (.t 3), none⟩,
 ⟨some 32, .load 1 false (.t 31), none⟩,
 ⟨some 33, .mv (.t 5), none⟩,
 ⟨some 34, .bin .add (.t 33) (.c (.int .i64 1)), none⟩,
 ⟨some 35, .sls 2 (.t 32) (some (.t 34)) none, none⟩,
 ⟨some 36, .app 66 false (.t 30) (.t 35), none⟩,
 ⟨some 6, .mv (.t 36), none⟩] [(2, 6), (3, 6), (4, 6)])))))))
 (.seq (.reg [⟨some 58, .faddr 0 (.t 3), none⟩,
 ⟨some 59, .load 1 false (.t 58), none⟩,
 ⟨some 60, .mv (.t 6), none⟩,
 ⟨some 61, .build [.v (.int .i64 0), .nil] [(0, 1, .t 59), (1, 1, .t 60)], none⟩,
 ⟨some 7, .alloc 226 [.v (.int .i64 0), .sl true 66 []], none⟩,
 ⟨none, .store [none, some 66] (.t 7) (.t 61), none⟩])
 (.seq (.seq (.reg [⟨some 62, .load 2 true (.t 7), none⟩,
 ⟨some 63, .call 15 [(false, .t 62)], none⟩,
 ⟨some 64, .un .not (.t 63), none⟩])
 (.cond (.t 64) (.seq (.reg [⟨some 65, .load 2 true (.t 3), none⟩,
 ⟨none, .store [none, some 66] (.t 4) (.t 65), none⟩])
 .ret)
 .skip))
 (.seq (.reg [⟨some 66, .frz (.load 2 true (.t 7)), none⟩,
 ⟨none, .store [none, some 66] (.t 4) (.t 66), none⟩])
 .ret))))))))
def if_spec_l4Bend : IFn := ⟨67, [.inr (4, 2)], ib_spec_l4Bend, lcF []⟩
def ks_spec_l4Bend : List (List (Option Nat)) := [[none, some 66]]
def gf_spec_l4Bend (a0 : Rd) (a1 : Shape) : Option (Shape × Int) := if ((a1.pts.length : Int) == 0) = true then (some (a1, a0.p)) else ((gf_spec_l12Rd_pick a0 (a1.pts.length : Int)).bind fun x3 => (slc a1.pts 0 x3.1).bind fun x6 => if fits ([] ++ x6).length = true then (((gf_spec_l12Rd_pick (⟨a0.b, x3.2⟩ : Rd) 3).bind fun x41 => if (x41.1 == 0) = true then ((gf_spec_l1Pt (⟨a0.b, x41.2⟩ : Rd)).bind fun x43 => if fits (([] ++ x6) ++ ([x43.1] : (List Pt))).length = true then (slc a1.pts x3.1 (a1.pts.length : Int)).bind fun x49 => if fits ((([] ++ x6) ++ ([x43.1] : (List Pt))) ++ x49).length = true then some (((([] ++ x6) ++ ([x43.1] : (List Pt))) ++ x49), x43.2) else none else none) else (if (x41.1 == 1) = true then ((slc a1.pts (IntKind.i64.wrap (x3.1 + 1)) (a1.pts.length : Int)).bind fun x54 => if fits (([] ++ x6) ++ x54).length = true then some ((([] ++ x6) ++ x54), x41.2) else none) else ((gf_spec_l1Pt (⟨a0.b, x41.2⟩ : Rd)).bind fun x59 => if fits (([] ++ x6) ++ ([x59.1] : (List Pt))).length = true then (slc a1.pts (IntKind.i64.wrap (x3.1 + 1)) (a1.pts.length : Int)).bind fun x65 => if fits ((([] ++ x6) ++ ([x59.1] : (List Pt))) ++ x65).length = true then some (((([] ++ x6) ++ ([x59.1] : (List Pt))) ++ x65), x59.2) else none else none)) : Option ((List Pt) × Int))).bind fun q40 => (gf_spec_ShapeOk (⟨a1.kind, q40.1⟩ : Shape)).bind fun x79 => if (!x79) = true then (some (a1, q40.2)) else (some ((⟨a1.kind, q40.1⟩ : Shape), q40.2)) else none)
def c_spec_l4Bend : Con := ⟨Rd × Shape × Option Addr × Nat, (Shape × Int), 367, fun a => [.pio 0 290, .agg [.v (.int .i64 a.2.1.kind), .ro (List.map ePt a.2.1.pts)]], fun a => gf_spec_l4Bend a.1 a.2.1, fun a r => ⟨[(true, eShape false r.1)], [some [[.v (.slice a.2.2.1 (List.map eU8 a.1.b).length a.2.2.2), .v (.int .i64 r.2)]]]⟩, fun a => [(true, 290, [[.rw a.2.2.1 a.2.2.2 (List.map eU8 a.1.b), .v (.int .i64 a.1.p)]])]⟩
/-! spec.l4Near -/
def ib_spec_l4Near : IC :=
 (.seq (.reg [⟨some 4, .mv (.c (.slice none 0 0)), none⟩])
 (.seq (.reg [⟨some 11, .mv (.t 1), none⟩,
 ⟨some 5, .mv (.t 11), none⟩])
 (.seq (.seq (.reg [⟨some 12, .mv (.t 0), none⟩,
 ⟨some 13, .call 321 [(true, .t 12), (false, .c (.int .i64 3))], none⟩,
 ⟨some 14, .bin .add (.c (.int .i64 1)) (.t 13), none⟩,
 ⟨some 6, .mv (.t 14), none⟩])
 (blkC 0 (.loop (.seq (.seq (.reg [⟨some 15, .mv (.t 6), none⟩,
 ⟨some 16, .bin .gtr (.t 15) (.c (.int .i64 0)), none⟩])
 (.cond (.t 16) .skip
 (.exit 0)))
 (.seq (.block 1 (.seq (.reg [⟨some 19, .mv (.t 0), none⟩,
 ⟨some 20, .call 362 [(true, .t 19)], none⟩,
 ⟨some 7, .mv (.t 20), none⟩])
 (.seq (.reg [⟨some 21, .mv (.t 5), none⟩,
 ⟨some 22, .mv (.t 7), none⟩,
 ⟨some 23, .call 39 [(false, .t 21), (false, .t 22)], none⟩,
 ⟨some 8, .mv (.t 23), none⟩])
 (.block 2 (.seq (.reg [⟨some 38, .mv (.t 8), none⟩,
 ⟨some 39, .bin .lss (.t 38) (.c (.int .i64 0)), none⟩,
 ⟨some 37, .mv (.t 39), none⟩])
 (.cond (.t 37) (.reg [⟨some 40, .mv (.t 5), none⟩,
 ⟨some 41, .mv (.t 0), none⟩,
 ⟨some 42, .mv (.t 7), none⟩,
 ⟨some 43, .frz (.call 363 [(true, .t 41), (false, .t 42)]), none⟩,
 ⟨some 44, .frz (.call 37 [(false, .t 40), (false, .t 43)]), none⟩,
 ⟨some 5, .mv (.t 44), none⟩])
 (.seq (.reg [⟨some 46, .mv (.t 0), none⟩,
 ⟨some 47, .call 321 [(true, .t 46), (false, .c (.int .i64 4))], none⟩,
 ⟨some 48, .bin .eql (.t 47) (.c (.int .i64 0)), none⟩,
 ⟨some 45, .mv (.t 48), none⟩])
 (.cond (.t 45) (.reg [⟨some 49, .mv (.t 5), none⟩,
 ⟨some 50, .mv (.t 7), none⟩,
 ⟨some 51, .frz (.call 364 [(false, .t 49), (false, .t 50)]), none⟩,
 ⟨some 5, .mv (.t 51), none⟩])
 (.seq (.reg [⟨some 53, .mv (.t 0), none⟩,
 ⟨some 54, .call 321 [(true, .t 53), (false, .c (.int .i64 2))], none⟩,
 ⟨some 55, .bin .eql (.t 54) (.c (.int .i64 0)), none⟩,
 ⟨some 52, .mv (.t 55), none⟩])
 (.cond (.t 52) (.seq (.reg [⟨some 56, .mv (.t 5), none⟩,
 ⟨some 57, .mv (.t 8), none⟩,
 ⟨some 58, .iaddr 4 (.t 56) (.t 57), none⟩,
 ⟨some 59, .load 4 true (.t 58), none⟩,
 ⟨some 60, .call 30 [(false, .t 59)], none⟩,
 ⟨some 9, .alloc 100 [.v (.string ⟨#[]⟩), .v (.int .i64 0), .sl true 66 [], .sl true 82 []], none⟩,
 ⟨none, .store [none, none, some 66, some 82] (.t 9) (.t 60), none⟩])
 (.seq (.drw [⟨some 61, .faddr 3 (.t 9), none⟩,
 ⟨some 62, .load 1 false (.t 61), none⟩,
 ⟨some 63, .mv (.t 0), none⟩,
 ⟨some 64, .call 365 [(true, .t 63)], none⟩,
 ⟨some 65, .mv (.t 0), none⟩,
 ⟨some 66, .call 366 [(true, .t 65)], none⟩,
 ⟨some 67, .call 47 [(false, .t 62), (false, .t 64), (false, .t 66)], none⟩,
 ⟨some 68, .faddr 3 (.t 9), none⟩,
 ⟨none, .store [some 82] (.t 68) (.t 67), none⟩] [(1, 3), (1, 5)])
 (.reg [⟨some 69, .mv (.t 5), none⟩,
 ⟨some 70, .frz (.load 4 true (.t 9)), none⟩,
 ⟨some 71, .frz (.call 37 [(false, .t 69), (false, .t 70)]), none⟩,
 ⟨some 5, .mv (.t 71), none⟩])))
 (seqC (.reg [⟨some 24, .mv (.t 5), none⟩,
 ⟨some 25, .mv (.t 8), none⟩,
 ⟨some 26, .iaddr 4 (.t 24) (.t 25), none⟩,
 ⟨some 27, .load 4 true (.t 26), none⟩,
 ⟨some 28, .call 30 [(false, .t 27)], none⟩,
 ⟨some 10, .alloc 100 [.v (.string ⟨#[]⟩), .v (.int .i64 0), .sl true 66 [], .sl true 82 []], none⟩,
 ⟨none, .store [none, none, some 66, some 82] (.t 10) (.t 28), none⟩])
 (.seq (.reg [⟨some 29, .mv (.t 0), none⟩,
 ⟨some 30, .faddr 1 (.t 10), none⟩,
 ⟨some 31, .frz (.load 2 true (.t 30)), none⟩,
 ⟨some 32, .call 367 [(true, .t 29), (false, .t 31)], none⟩,
 ⟨some 33, .faddr 1 (.t 10), none⟩,
 ⟨none, .store [none, some 66] (.t 33) (.t 32), none⟩])
 (.reg [⟨some 34, .mv (.t 5), none⟩,
 ⟨some 35, .frz (.load 4 true (.t 10)), none⟩,
 ⟨some 36, .frz (.call 37 [(false, .t 34), (false, .t 35)]), none⟩,
 ⟨some 5, .mv (.t 36), none⟩])))))))))))))
 (.reg [⟨some 17, .mv (.t 6), none⟩,
 ⟨some 18, .bin .sub (.t 17) (.c (.int .i64 1)), none⟩,
 ⟨some 6, .mv (.t 18), none⟩]))))))
 (.seq (.seq (.reg [⟨some 72, .mv (.t 5), none⟩,
 ⟨some 73, .call 26 [(false, .t 72)], none⟩,
 ⟨some 74, .un .not (.t 73), none⟩])
 (.cond (.t 74) (.seq (.reg [⟨some 75, .mv (.t 1), none⟩,
 ⟨some 4, .mv (.t 75), none⟩])
 .ret)
 .skip))
 (.seq (.reg [⟨some 76, .mv (.t 5), none⟩,
 ⟨some 4, .mv (.t 76), none⟩])
 .ret)))))
def if_spec_l4Near : IFn := ⟨77, [.inl 4], ib_spec_l4Near, lcF []⟩
def ks_spec_l4Near : List (List (Option Nat)) := [[some 100]]
def gl_spec_l4Near_1 (a0 : Rd) : Nat → (List Feat) → Int → Int → Option ((List Feat) × Int)
  | 0, _, _, _ => none
  | n214 + 1, v211, v212, v213 => if (decide (v212 > 0)) = true then ((gf_spec_l2Id (⟨a0.b, v213⟩ : Rd)).bind fun x215 => (gf_spec_l3Find v211 x215.1).bind fun x217 => if (decide (x217 < 0)) = true then ((gf_spec_l2Feat (⟨a0.b, x215.2⟩ : Rd) x215.1).bind fun x219 => (gf_spec_l3Put v211 x219.1).bind fun x225 => gl_spec_l4Near_1 a0 n214 x225 (IntKind.i64.wrap (v212 - 1)) x219.2) else ((gf_spec_l12Rd_pick (⟨a0.b, x215.2⟩ : Rd) 4).bind fun x229 => if (x229.1 == 0) = true then ((gf_spec_l3Cut v211 x215.1).bind fun x231 => gl_spec_l4Near_1 a0 n214 x231 (IntKind.i64.wrap (v212 - 1)) x229.2) else ((gf_spec_l12Rd_pick (⟨a0.b, x229.2⟩ : Rd) 2).bind fun x235 => if (x235.1 == 0) = true then ((idx v211 x217).bind fun x237 => (gf_spec_l2Copy x237).bind fun x239 => (gf_spec_l2Key (⟨a0.b, x235.2⟩ : Rd)).bind fun x246 => (gf_spec_l2Val (⟨a0.b, x246.2⟩ : Rd)).bind fun x248 => (gf_spec_l2Put x239.tags x246.1 x248.1).bind fun x250 => (gf_spec_l3Put v211 (⟨x239.id, x239.shape, x250⟩ : Feat)).bind fun x254 => gl_spec_l4Near_1 a0 n214 x254 (IntKind.i64.wrap (v212 - 1)) x248.2) else ((((idx v211 x217).bind fun x259 => (gf_spec_l2Copy x259).bind fun x261 => some (x261.shape.pts, x261.tags, x261.id, x261.shape.kind) : Option ((List Pt) × (List Tag) × Str × Int))).bind fun q258 => (gf_spec_l4Bend (⟨a0.b, x235.2⟩ : Rd) (⟨q258.2.2.2, q258.1⟩ : Shape)).bind fun x277 => (gf_spec_l3Put v211 (⟨q258.2.2.1, x277.1, q258.2.1⟩ : Feat)).bind fun x279 => gl_spec_l4Near_1 a0 n214 x279 (IntKind.i64.wrap (v212 - 1)) x277.2)))) else (some (v211, v213))
def gf_spec_l4Near (a0 : Rd) (a1 : (List Feat)) : Option ((List Feat) × Int) := (gf_spec_l12Rd_pick a0 3).bind fun x1 => (gl_spec_l4Near_1 a0 rounds a1 (IntKind.i64.wrap (1 + x1.1)) x1.2).bind fun q210 => (gf_spec_SheetOk q210.1).bind fun x285 => if (!x285) = true then (some (a1, q210.2)) else (some (q210.1, q210.2))
def c_spec_l4Near : Con := ⟨Rd × (List Feat) × Option Addr × Nat, ((List Feat) × Int), 336, fun a => [.pio 0 290, .ro (List.map (eFeat false) a.2.1)], fun a => gf_spec_l4Near a.1 a.2.1, fun a r => ⟨[(false, [sl false 100 (List.map (eFeat false) r.1)])], [some [[.v (.slice a.2.2.1 (List.map eU8 a.1.b).length a.2.2.2), .v (.int .i64 r.2)]]]⟩, fun a => [(true, 290, [[.rw a.2.2.1 a.2.2.2 (List.map eU8 a.1.b), .v (.int .i64 a.1.p)]])]⟩
/-! spec.l7Note -/
def ib_spec_l7Note : IC :=
 (.seq (.reg [⟨some 2, .mv (.c (.string ⟨#[]⟩)), none⟩])
 (.seq (.reg [⟨some 3, .mv (.t 0), none⟩,
 ⟨some 4, .lit 49 [none] [.v (.string ⟨#[]⟩)] 3 [(0, .c (.string ⟨#[97, 110, 110]⟩)), (1, .c (.string ⟨#[98, 111, 98]⟩)), (2, .c (.string ⟨#[102, 105, 120]⟩))], none⟩,
 ⟨some 5, .call 326 [(true, .t 3), (false, .t 4)], none⟩,
 ⟨some 2, .mv (.t 5), none⟩])
 .ret))
def if_spec_l7Note : IFn := ⟨6, [.inl 2], ib_spec_l7Note, lcF []⟩
def ks_spec_l7Note : List (List (Option Nat)) := [[none]]
def gf_spec_l7Note (a0 : Rd) : Option (Str × Int) := (gf_spec_l12Rd_of a0 ([(⟨#[97, 110, 110]⟩ : Str), (⟨#[98, 111, 98]⟩ : Str), (⟨#[102, 105, 120]⟩ : Str)] : (List Str))).bind fun x2 => some (x2.1, x2.2)
def c_spec_l7Note : Con := ⟨Rd × Option Addr × Nat, (Str × Int), 377, fun a => [.pio 0 290], fun a => gf_spec_l7Note a.1, fun a r => ⟨[(false, [.v (.string r.1)])], [some [[.v (.slice a.2.1 (List.map eU8 a.1.b).length a.2.2), .v (.int .i64 r.2)]]]⟩, fun a => [(true, 290, [[.rw a.2.1 a.2.2 (List.map eU8 a.1.b), .v (.int .i64 a.1.p)]])]⟩
/-! spec.l7Grow -/
def ib_spec_l7Grow : IC :=
 (.seq (.reg [⟨some 3, .box 210 [some 115, some 130] (.t 1), none⟩,
 ⟨some 4, .alloc 210 [.sl true 115 [], .sl true 130 []], none⟩])
 (.seq (.reg [⟨some 12, .mv (.t 0), none⟩,
 ⟨some 13, .call 327 [(true, .t 12)], none⟩,
 ⟨some 5, .mv (.t 13), none⟩])
 (.seq (.reg [⟨some 14, .load 2 true (.t 3), none⟩,
 ⟨some 15, .mv (.t 5), none⟩,
 ⟨some 16, .call 28 [(false, .t 14), (false, .t 15)], none⟩,
 ⟨some 6, .mv (.t 16), none⟩])
 (.seq (.seq (.reg [⟨some 17, .mv (.t 6), none⟩,
 ⟨some 18, .bin .lss (.t 17) (.c (.int .i64 0)), none⟩])
 (.cond (.t 18) (.seq (.drw [⟨some 20, .load 2 true (.t 3), none⟩,
 ⟨some 21, .mv (.t 5), none⟩,
 ⟨some 22, .faddr 1 (.t 3), none⟩,
 ⟨some 23, .load 1 false (.t 22), none⟩,
 ⟨some 24, .mv (.t 0), none⟩,
 ⟨some 25, .faddr 1 (.t 3), none⟩,
 ⟨some 26, .load 1 false (.t 25), none⟩,
 ⟨some 27, .len false (.t 26), none⟩,
 ⟨some 28, .call 321 [(true, .t 24), (false, .t 27)], none⟩,
 ⟨some 29, .iaddr 2 (.t 23) (.t 28), none⟩,
 ⟨some 30, .faddr 0 (.t 29), none⟩,
 ⟨some 31, .load 1 false (.t 30), none⟩,
 ⟨some 32, .call 224 [(false, .t 20), (false, .t 21), (false, .t 31)], none⟩,
 ⟨some 19, .mv (.t 32), none⟩,
 ⟨some 33, .ext (.t 19) 0, none⟩,
 ⟨some 34, .ext (.t 19) 1, none⟩,
 ⟨some 7, .alloc 210 [.sl true 115 [], .sl true 130 []], none⟩,
 ⟨none, .store [some 115, some 130] (.t 7) (.t 33), none⟩,
 ⟨some 8, .mv (.t 34), none⟩] [(0, 3), (0, 6), (3, 6), (0, 8), (3, 8), (0, 11), (0, 16), (3, 16), (6, 16), (8, 16), (11, 16), (12, 16)])
 (.seq (.seq (.reg [⟨some 35, .faddr 1 (.t 7), none⟩,
 ⟨some 36, .load 1 false (.t 35), none⟩,
 ⟨some 37, .len false (.t 36), none⟩,
 ⟨some 38, .bin .gtr (.t 37) (.c (.int .i64 0)), none⟩])
 (.cond (.t 38) (.seq (.reg [⟨some 39, .load 2 true (.t 7), none⟩,
 ⟨none, .store [some 115, some 130] (.t 4) (.t 39), none⟩])
 .ret)
 .skip))
 (.seq (.reg [⟨some 40, .ldr 2 (.t 3), none⟩,
 ⟨none, .store [none, none] (.t 4) (.t 40), none⟩])
 .ret)))
 .skip))
 (.seq (.reg [⟨some 41, .faddr 1 (.t 3), none⟩,
 ⟨some 42, .load 1 false (.t 41), none⟩,
 ⟨some 43, .mv (.t 6), none⟩,
 ⟨some 44, .iaddr 2 (.t 42) (.t 43), none⟩,
 ⟨some 45, .faddr 1 (.t 44), none⟩,
 ⟨some 46, .load 1 false (.t 45), none⟩,
 ⟨some 9, .mv (.t 46), none⟩])
 (seqC (.reg [⟨some 47, .mv (.t 9), none⟩,
 ⟨some 48, .lit 17 [none] [.v (.int .i64 0)] 1 [(0, .t 47)], none⟩,
 ⟨some 49, .mv (.t 0), none⟩,
 ⟨some 50, .faddr 0 (.t 3), none⟩,
 ⟨some 51, .load 1 false (.t 50), none⟩,
 ⟨some 52, .mv (.t 9), none⟩,
 ⟨some 53, .iaddr 3 (.t 51) (.t 52), none⟩,
 ⟨some 54, .faddr 1 (.t 53), none⟩,
 ⟨some 55, .load 1 false (.t 54), none⟩,
 ⟨some 56, .call 336 [(true, .t 49), (false, .t 55)], none⟩,
 ⟨some 57, .mv (.t 0), none⟩,
 ⟨some 58, .call 377 [(true, .t 57)], none⟩,
 ⟨some 59, .build [.nil, .nil, .v (.string ⟨#[]⟩)] [(0, 1, .t 48), (1, 1, .t 56), (2, 1, .t 58)], none⟩,
 ⟨some 10, .alloc 115 [.sl true 17 [], .sl true 100 [], .v (.string ⟨#[]⟩)], none⟩,
 ⟨none, .store [some 17, some 100, none] (.t 10) (.t 59), none⟩])
 (.seq (.drw [⟨some 60, .faddr 1 (.t 3), none⟩,
 ⟨some 61, .load 1 false (.t 60), none⟩,
 ⟨some 62, .mv (.t 0), none⟩,
 ⟨some 63, .faddr 1 (.t 3), none⟩,
 ⟨some 64, .load 1 false (.t 63), none⟩,
 ⟨some 65, .len false (.t 64), none⟩,
 ⟨some 66, .call 321 [(true, .t 62), (false, .t 65)], none⟩,
 ⟨some 67, .iaddr 2 (.t 61) (.t 66), none⟩,
 ⟨some 68, .faddr 1 (.t 67), none⟩,
 ⟨some 69, .load 1 false (.t 68), none⟩,
 ⟨some 11, .mv (.t 69), none⟩] [(1, 4), (1, 6)])
 (seqC (.seq (.reg [⟨some 70, .mv (.t 11), none⟩,
 ⟨some 71, .mv (.t 9), none⟩,
 ⟨some 72, .bin .neq (.t 70) (.t 71), none⟩,
 ⟨some 73, .mv (.t 72), none⟩,
 ⟨some 74, .mv (.t 0), some (73, true)⟩,
 ⟨some 75, .call 321 [(true, .t 74), (false, .c (.int .i64 4))], some (73, true)⟩,
 ⟨some 76, .bin .eql (.t 75) (.c (.int .i64 0)), some (73, true)⟩,
 ⟨some 77, .pick (.t 73) (.t 76) (.c (.bool false)), none⟩])
 (.cond (.t 77) (.reg [⟨some 78, .mv (.t 9), none⟩,
 ⟨some 79, .mv (.t 11), none⟩,
 ⟨some 80, .lit 17 [none] [.v (.int .i64 0)] 2 [(0, .t 78), (1, .t 79)], none⟩,
 ⟨some 81, .faddr 0 (.t 10), none⟩,
 ⟨none, .store [some 17] (.t 81) (.t 80), none⟩])
 .skip))
 (.seq (.seq (.reg [⟨some 82, .faddr 0 (.t 3), none⟩,
 ⟨some 83, .load 1 false (.t 82), none⟩,
 ⟨some 84, .len false (.t 83), none⟩,
 ⟨some 85, .bin .geq (.t 84) (.c (.int .i64 12)), none⟩])
 (.cond (.t 85) (.seq (.reg [⟨some 86, .ldr 2 (.t 3), none⟩,
 ⟨none, .store [none, none] (.t 4) (.t 86), none⟩])
 .ret)
 .skip))
 (.seq (.drw [⟨some 87, .load 2 true (.t 3), none⟩,
 ⟨some 88, .call 61 [(false, .t 87)], none⟩,
 ⟨some 89, .mv (.t 6), none⟩,
 ⟨some 90, .load 3 true (.t 10), none⟩,
 ⟨some 91, .call 60 [(true, .t 88), (false, .t 89), (false, .t 90)], none⟩,
 ⟨none, .store [some 115, some 130] (.t 4) (.t 91), none⟩] [(0, 3), (1, 3)])
 .ret))))))))))
def if_spec_l7Grow : IFn := ⟨92, [.inr (4, 2)], ib_spec_l7Grow, lcF []⟩
def ks_spec_l7Grow : List (List (Option Nat)) := [[some 115, some 130]]
def gf_spec_l7Grow (a0 : Rd) (a1 : Repo) : Option ((Option Repo) × Int) := (gf_spec_l7Name a0).bind fun x3 => (gf_spec_l7Head a1 x3.1).bind fun x5 => if (decide (x5 < 0)) = true then ((gf_spec_l12Rd_pick (⟨a0.b, x3.2⟩ : Rd) (a1.heads.length : Int)).bind fun x7 => (idx a1.heads x7.1).bind fun x9 => (gf_spec_RepoBranch a1 x3.1 x9.name).bind fun x11 => if (decide ((x11.1.heads.length : Int) > 0)) = true then (some ((some x11.1), x7.2)) else (some ((none : Option Repo), x7.2))) else ((idx a1.heads x5).bind fun x18 => (((idx a1.commits x18.at_).bind fun x22 => (gf_spec_l4Near (⟨a0.b, x3.2⟩ : Rd) x22.sheet).bind fun x24 => (gf_spec_l7Note (⟨a0.b, x24.2⟩ : Rd)).bind fun x26 => some (x26.2, x24.1, x26.1) : Option (Int × (List Feat) × Str))).bind fun q20 => (gf_spec_l12Rd_pick (⟨a0.b, q20.1⟩ : Rd) (a1.heads.length : Int)).bind fun x41 => (idx a1.heads x41.1).bind fun x43 => ((if (x43.at_ != x18.at_) = true then ((gf_spec_l12Rd_pick (⟨a0.b, x41.2⟩ : Rd) 4).bind fun x49 => if (x49.1 == 0) = true then (some ([x18.at_, x43.at_], x49.2)) else (some ([x18.at_], x49.2))) else (some ([x18.at_], x41.2)) : Option ((List Int) × Int))).bind fun q48 => if (decide ((a1.commits.length : Int) ≥ 12)) = true then (some ((none : Option Repo), q48.2)) else ((gf_spec_l7Copy a1).bind fun x63 => (gf_spec_l7Add x63 x5 (⟨q48.1, q20.2.1, q20.2.2⟩ : Commit)).bind fun x69 => some ((some x69), q48.2)))
def c_spec_l7Grow : Con := ⟨Rd × Repo × Option Addr × Nat × Option Addr × Nat × Option Addr × Nat, ((Option Repo) × Int), 357, fun a => [.pio 0 290, .agg [.raw a.2.2.2.2.1 a.2.2.2.2.2.1 (List.map (eCommit false) a.2.1.commits), .raw a.2.2.2.2.2.2.1 a.2.2.2.2.2.2.2 (List.map eHead a.2.1.heads)]], fun a => gf_spec_l7Grow a.1 a.2.1, fun a r => ⟨[(true, match r.1 with | some q => eRepo true q | none => [.v (.slice a.2.2.2.2.1 (List.map (eCommit false) a.2.1.commits).length a.2.2.2.2.2.1), .v (.slice a.2.2.2.2.2.2.1 (List.map eHead a.2.1.heads).length a.2.2.2.2.2.2.2)])], [some [[.v (.slice a.2.2.1 (List.map eU8 a.1.b).length a.2.2.2.1), .v (.int .i64 r.2)]]]⟩, fun a => [(true, 290, [[.rw a.2.2.1 a.2.2.2.1 (List.map eU8 a.1.b), .v (.int .i64 a.1.p)]])]⟩
/-! spec.l7Repo -/
def ib_spec_l7Repo : IC :=
 (.seq (.reg [⟨some 2, .alloc 210 [.sl true 115 [], .sl true 130 []], none⟩])
 (.seq (.reg [⟨some 7, .call 227 [(false, .c (.string ⟨#[109, 97, 105, 110]⟩))], none⟩,
 ⟨some 6, .mv (.t 7), none⟩,
 ⟨some 8, .pfz 1 (.ext (.t 6) 0), none⟩,
 ⟨some 9, .ext (.t 6) 1, none⟩,
 ⟨some 3, .alloc 210 [.sl true 115 [], .sl true 130 []], none⟩,
 ⟨none, .store [some 115, some 130] (.t 3) (.t 8), none⟩,
 ⟨some 4, .mv (.t 9), none⟩])
 (.seq (.drw [⟨some 10, .faddr 0 (.t 3), none⟩,
 ⟨some 11, .load 1 false (.t 10), none⟩,
 ⟨some 12, .mv (.t 0), none⟩,
 ⟨some 13, .frz (.call 361 [(true, .t 12)]), none⟩,
 ⟨some 14, .iaddr 3 (.t 11) (.c (.int .i64 0)), none⟩,
 ⟨some 15, .faddr 1 (.t 14), none⟩,
 ⟨none, .store [some 100] (.t 15) (.t 13), none⟩] [(1, 3)])
 (.seq (.seq (.reg [⟨some 16, .mv (.t 0), none⟩,
 ⟨some 17, .call 321 [(true, .t 16), (false, .c (.int .i64 7))], none⟩,
 ⟨some 18, .bin .add (.c (.int .i64 2)) (.t 17), none⟩,
 ⟨some 5, .mv (.t 18), none⟩])
 (blkC 0 (.loop (.seq (.seq (.reg [⟨some 19, .mv (.t 5), none⟩,
 ⟨some 20, .bin .gtr (.t 19) (.c (.int .i64 0)), none⟩])
 (.cond (.t 20) .skip
 (.exit 0)))
 (.seq (.block 1 (.reg [⟨some 23, .mv (.t 0), none⟩,
 ⟨some 24, .rawl (.load 2 true (.t 3)), none⟩,
 ⟨some 25, .pfz 1 (.unr [1000384, 1000385] (.call 357 [(true, .t 23), (false, .t 24)])), none⟩,
 ⟨none, .store [some 115, some 130] (.t 3) (.t 25), none⟩]))
 (.reg [⟨some 21, .mv (.t 5), none⟩,
 ⟨some 22, .bin .sub (.t 21) (.c (.int .i64 1)), none⟩,
 ⟨some 5, .mv (.t 22), none⟩]))))))
 (.seq (.seq (.reg [⟨some 26, .mv (.t 0), none⟩,
 ⟨some 27, .call 321 [(true, .t 26), (false, .c (.int .i64 4))], none⟩,
 ⟨some 28, .bin .eql (.t 27) (.c (.int .i64 0)), none⟩,
 ⟨some 29, .mv (.t 28), none⟩,
 ⟨some 30, .faddr 1 (.t 3), some (29, true)⟩,
 ⟨some 31, .load 1 false (.t 30), some (29, true)⟩,
 ⟨some 32, .len false (.t 31), some (29, true)⟩,
 ⟨some 33, .bin .gtr (.t 32) (.c (.int .i64 1)), some (29, true)⟩,
 ⟨some 34, .pick (.t 29) (.t 33) (.c (.bool false)), none⟩])
 (.cond (.t 34) (.reg [⟨some 35, .faddr 1 (.t 3), none⟩,
 ⟨some 36, .load 1 false (.t 35), none⟩,
 ⟨some 37, .faddr 1 (.t 3), none⟩,
 ⟨some 38, .load 1 false (.t 37), none⟩,
 ⟨some 39, .len false (.t 38), none⟩,
 ⟨some 40, .bin .sub (.t 39) (.c (.int .i64 1)), none⟩,
 ⟨some 41, .trn (.sls 2 (.t 36) none (some (.t 40))), none⟩,
 ⟨some 42, .faddr 1 (.t 3), none⟩,
 ⟨none, .store [some 130] (.t 42) (.t 41), none⟩])
 .skip))
 (.seq (.reg [⟨some 43, .load 2 true (.t 3), none⟩,
 ⟨none, .store [some 115, some 130] (.t 2) (.t 43), none⟩])
 .ret))))))
def if_spec_l7Repo : IFn := ⟨44, [.inr (2, 2)], ib_spec_l7Repo, lcF []⟩
def ks_spec_l7Repo : List (List (Option Nat)) := [[some 115, some 130]]
def gl_spec_l7Repo_1 (a0 : Rd) : Nat → Int → Int → (List Commit) → (List Head) → Option (Int × (List Commit) × (List Head))
  | 0, _, _, _, _ => none
  | n80 + 1, v66, v67, v73, v76 => if (decide (v66 > 0)) = true then ((gf_spec_l7Grow (⟨a0.b, v67⟩ : Rd) (⟨v73, v76⟩ : Repo)).bind fun x81 => match x81 with | (none, p84) => (gl_spec_l7Repo_1 a0 n80 (IntKind.i64.wrap (v66 - 1)) p84 v73 v76) | (some y83, p84) => (gl_spec_l7Repo_1 a0 n80 (IntKind.i64.wrap (v66 - 1)) p84 y83.commits y83.heads)) else (some (v67, v73, v76))
def gf_spec_l7Repo (a0 : Rd) : Option (Repo × Int) := (gf_spec_RepoNew (⟨#[109, 97, 105, 110]⟩ : Str)).bind fun x2 => (gf_spec_l3Sheet a0).bind fun x9 => (idx x2.1.commits 0).bind fun x13 => (gf_spec_l12Rd_pick (⟨a0.b, x9.2⟩ : Rd) 7).bind fun x15 => (gl_spec_l7Repo_1 a0 rounds (IntKind.i64.wrap (2 + x15.1)) x15.2 (List.set x2.1.commits (0 : Int).toNat (⟨x13.up, x9.1, x13.note⟩ : Commit)) x2.1.heads).bind fun q65 => (gf_spec_l12Rd_pick (⟨a0.b, q65.1⟩ : Rd) 4).bind fun x102 => if (x102.1 == 0) = true then (if (decide ((q65.2.2.length : Int) > 1)) = true then ((slc q65.2.2 0 (IntKind.i64.wrap ((q65.2.2.length : Int) - 1))).bind fun x104 => some ((⟨q65.2.1, x104⟩ : Repo), x102.2)) else (some ((⟨q65.2.1, q65.2.2⟩ : Repo), x102.2))) else (some ((⟨q65.2.1, q65.2.2⟩ : Repo), x102.2))
def c_spec_l7Repo : Con := ⟨Rd × Option Addr × Nat, (Repo × Int), 355, fun a => [.pio 0 290], fun a => gf_spec_l7Repo a.1, fun a r => ⟨[(true, eRepoX r.1)], [some [[.v (.slice a.2.1 (List.map eU8 a.1.b).length a.2.2), .v (.int .i64 r.2)]]]⟩, fun a => [(true, 290, [[.rw a.2.1 a.2.2 (List.map eU8 a.1.b), .v (.int .i64 a.1.p)]])]⟩
/-! spec.l7Bent -/
def ib_spec_l7Bent : IC :=
 (.seq (.reg [⟨some 2, .alloc 210 [.sl true 115 [], .sl true 130 []], none⟩])
 (.seq (.reg [⟨some 5, .mv (.t 0), none⟩,
 ⟨some 6, .call 355 [(true, .t 5)], none⟩,
 ⟨some 3, .alloc 210 [.sl true 115 [], .sl true 130 []], none⟩,
 ⟨none, .store [some 115, some 130] (.t 3) (.t 6), none⟩])
 (.seq (.reg [⟨some 7, .mv (.t 0), none⟩,
 ⟨some 8, .faddr 0 (.t 3), none⟩,
 ⟨some 9, .load 1 false (.t 8), none⟩,
 ⟨some 10, .len false (.t 9), none⟩,
 ⟨some 11, .call 321 [(true, .t 7), (false, .t 10)], none⟩,
 ⟨some 4, .mv (.t 11), none⟩])
 (.seq (.seq (.reg [⟨some 12, .mv (.t 0), none⟩,
 ⟨some 13, .call 321 [(true, .t 12), (false, .c (.int .i64 48))], none⟩])
 (.block 0 (seqC (.reg [⟨some 15, .bin .eql (.t 13) (.c (.int .i64 0)), none⟩,
 ⟨some 14, .mv (.t 15), none⟩])
 (.cond (.t 14) (.drw [⟨some 16, .faddr 1 (.t 3), none⟩,
 ⟨some 17, .load 1 false (.t 16), none⟩,
 ⟨some 18, .mv (.t 0), none⟩,
 ⟨some 19, .faddr 0 (.t 3), none⟩,
 ⟨some 20, .load 1 false (.t 19), none⟩,
 ⟨some 21, .len false (.t 20), none⟩,
 ⟨some 22, .lit 17 [none] [.v (.int .i64 0)] 2 [(0, .c (.int .i64 (-1))), (1, .t 21)], none⟩,
 ⟨some 23, .call 356 [(true, .t 18), (false, .t 22)], none⟩,
 ⟨some 24, .iaddr 2 (.t 17) (.c (.int .i64 0)), none⟩,
 ⟨some 25, .faddr 1 (.t 24), none⟩,
 ⟨none, .store [none] (.t 25) (.t 23), none⟩] [(1, 4), (1, 6), (1, 7)])
 (.seq (.reg [⟨some 27, .bin .eql (.t 13) (.c (.int .i64 1)), none⟩,
 ⟨some 26, .mv (.t 27), none⟩])
 (.cond (.t 26) (.drw [⟨some 28, .faddr 0 (.t 3), none⟩,
 ⟨some 29, .load 1 false (.t 28), none⟩,
 ⟨some 30, .mv (.t 4), none⟩,
 ⟨some 31, .faddr 0 (.t 3), none⟩,
 ⟨some 32, .load 1 false (.t 31), none⟩,
 ⟨some 33, .mv (.t 4), none⟩,
 ⟨some 34, .iaddr 3 (.t 32) (.t 33), none⟩,
 ⟨some 35, .faddr 0 (.t 34), none⟩,
 ⟨some 36, .load 1 false (.t 35), none⟩,
 ⟨some 37, .mv (.t 4), none⟩,
 ⟨some 38, .lit 17 [none] [.v (.int .i64 0)] 1 [(0, .t 37)], none⟩,
 ⟨some 39, .app 17 true (.t 36) (.t 38), none⟩,
 ⟨some 40, .iaddr 3 (.t 29) (.t 30), none⟩,
 ⟨some 41, .faddr 0 (.t 40), none⟩,
 ⟨none, .store [some 17] (.t 41) (.t 39), none⟩] [(1, 4), (1, 8), (1, 10), (4, 10), (8, 10), (1, 11)])
 (.seq (.reg [⟨some 43, .bin .eql (.t 13) (.c (.int .i64 2)), none⟩,
 ⟨some 42, .mv (.t 43), none⟩])
 (.cond (.t 42) (.drw [⟨some 44, .faddr 0 (.t 3), none⟩,
 ⟨some 45, .load 1 false (.t 44), none⟩,
 ⟨some 46, .mv (.t 4), none⟩,
 ⟨some 47, .mv (.t 0), none⟩,
 ⟨some 48, .frz (.call 335 [(true, .t 47)]), none⟩,
 ⟨some 49, .iaddr 3 (.t 45) (.t 46), none⟩,
 ⟨some 50, .faddr 1 (.t 49), none⟩,
 ⟨none, .store [some 100] (.t 50) (.t 48), none⟩] [(1, 4)])
 (.seq (.reg [⟨some 52, .bin .eql (.t 13) (.c (.int .i64 3)), none⟩,
 ⟨some 51, .mv (.t 52), none⟩])
 (.cond (.t 51) (.reg [⟨some 53, .faddr 0 (.t 3), none⟩,
 ⟨some 54, .load 1 false (.t 53), none⟩,
 ⟨some 55, .mv (.t 4), none⟩,
 ⟨some 56, .iaddr 3 (.t 54) (.t 55), none⟩,
 ⟨some 57, .faddr 2 (.t 56), none⟩,
 ⟨none, .store [none] (.t 57) (.c (.string ⟨#[]⟩)), none⟩])
 (.seq (.reg [⟨some 59, .bin .eql (.t 13) (.c (.int .i64 4)), none⟩,
 ⟨some 58, .mv (.t 59), none⟩])
 (.cond (.t 58) (.drw [⟨some 60, .faddr 1 (.t 3), none⟩,
 ⟨some 61, .load 1 false (.t 60), none⟩,
 ⟨some 62, .faddr 1 (.t 3), none⟩,
 ⟨some 63, .load 1 false (.t 62), none⟩,
 ⟨some 64, .iaddr 2 (.t 63) (.c (.int .i64 0)), none⟩,
 ⟨some 65, .load 2 true (.t 64), none⟩,
 ⟨some 66, .lit 130 [none, none] [.v (.string ⟨#[]⟩), .v (.int .i64 0)] 1 [(0, .t 65)], none⟩,
 ⟨some 67, .app 130 true (.t 61) (.t 66), none⟩,
 ⟨some 68, .faddr 1 (.t 3), none⟩,
 ⟨none, .store [some 130] (.t 68) (.t 67), none⟩] [(1, 3), (1, 5), (1, 6)])
 (.seq (.reg [⟨some 70, .bin .eql (.t 13) (.c (.int .i64 5)), none⟩,
 ⟨some 69, .mv (.t 70), none⟩])
 (.cond (.t 69) (.reg [⟨some 71, .faddr 0 (.t 3), none⟩,
 ⟨some 72, .load 1 false (.t 71), none⟩,
 ⟨some 73, .mv (.t 4), none⟩,
 ⟨some 74, .iaddr 3 (.t 72) (.t 73), none⟩,
 ⟨some 75, .faddr 0 (.t 74), none⟩,
 ⟨none, .store [some 17] (.t 75) (.c (.slice none 0 0)), none⟩])
 .skip))))))))))))))
 (.seq (.reg [⟨some 76, .load 2 true (.t 3), none⟩,
 ⟨none, .store [some 115, some 130] (.t 2) (.t 76), none⟩])
 .ret)))))
def if_spec_l7Bent : IFn := ⟨77, [.inr (2, 2)], ib_spec_l7Bent, lcF []⟩
def ks_spec_l7Bent : List (List (Option Nat)) := [[some 115, some 130]]
def gf_spec_l7Bent (a0 : Rd) : Option (Repo × Int) := (gf_spec_l7Repo a0).bind fun x2 => (gf_spec_l12Rd_pick (⟨a0.b, x2.2⟩ : Rd) (x2.1.commits.length : Int)).bind fun x9 => (gf_spec_l12Rd_pick (⟨a0.b, x9.2⟩ : Rd) 48).bind fun x11 => ((some () : Option Unit)).bind fun q13 => if (x11.1 == 0) = true then ((gf_spec_l12Rd_num (⟨a0.b, x11.2⟩ : Rd) ([(-1), (x2.1.commits.length : Int)] : (List Int))).bind fun x25 => (idx x2.1.heads 0).bind fun x27 => some ((⟨x2.1.commits, (List.set x2.1.heads (0 : Int).toNat (⟨x27.name, x25.1⟩ : Head))⟩ : Repo), x25.2)) else (if (x11.1 == 1) = true then ((idx x2.1.commits x9.1).bind fun x29 => if fits (x29.up ++ ([x9.1] : (List Int))).length = true then some ((⟨(List.set x2.1.commits x9.1.toNat (⟨(x29.up ++ ([x9.1] : (List Int))), x29.sheet, x29.note⟩ : Commit)), x2.1.heads⟩ : Repo), x11.2) else none) else (if (x11.1 == 2) = true then ((gf_spec_l3Bent (⟨a0.b, x11.2⟩ : Rd)).bind fun x37 => (idx x2.1.commits x9.1).bind fun x41 => some ((⟨(List.set x2.1.commits x9.1.toNat (⟨x41.up, x37.1, x41.note⟩ : Commit)), x2.1.heads⟩ : Repo), x37.2)) else (if (x11.1 == 3) = true then ((idx x2.1.commits x9.1).bind fun x43 => some ((⟨(List.set x2.1.commits x9.1.toNat (⟨x43.up, x43.sheet, (⟨#[]⟩ : Str)⟩ : Commit)), x2.1.heads⟩ : Repo), x11.2)) else (if (x11.1 == 4) = true then ((idx x2.1.heads 0).bind fun x45 => if fits (x2.1.heads ++ ([x45] : (List Head))).length = true then some ((⟨x2.1.commits, (x2.1.heads ++ ([x45] : (List Head)))⟩ : Repo), x11.2) else none) else (if (x11.1 == 5) = true then ((idx x2.1.commits x9.1).bind fun x51 => some ((⟨(List.set x2.1.commits x9.1.toNat (⟨[], x51.sheet, x51.note⟩ : Commit)), x2.1.heads⟩ : Repo), x11.2)) else (some (x2.1, x11.2)))))))
def c_spec_l7Bent : Con := ⟨Rd × Option Addr × Nat, (Repo × Int), 317, fun a => [.pio 0 290], fun a => gf_spec_l7Bent a.1, fun a r => ⟨[(true, eRepoX r.1)], [some [[.v (.slice a.2.1 (List.map eU8 a.1.b).length a.2.2), .v (.int .i64 r.2)]]]⟩, fun a => [(true, 290, [[.rw a.2.1 a.2.2 (List.map eU8 a.1.b), .v (.int .i64 a.1.p)]])]⟩
/-! spec.l7Places -/
def ib_spec_l7Places : IC :=
 (.seq (.reg [⟨some 2, .alloc 210 [.sl true 115 [], .sl true 130 []], none⟩,
 ⟨some 3, .mv (.c (.int .i64 0)), none⟩,
 ⟨some 4, .mv (.c (.int .i64 0)), none⟩])
 (.seq (.reg [⟨some 8, .mv (.t 0), none⟩,
 ⟨some 9, .call 316 [(false, .t 8)], none⟩,
 ⟨some 5, .mv (.t 9), none⟩])
 (.seq (.reg [⟨some 10, .mv (.t 5), none⟩,
 ⟨some 11, .call 317 [(true, .t 10)], none⟩,
 ⟨some 6, .alloc 210 [.sl true 115 [], .sl true 130 []], none⟩,
 ⟨none, .store [some 115, some 130] (.t 6) (.t 11), none⟩])
 (.seq (.reg [⟨some 12, .faddr 0 (.t 6), none⟩,
 ⟨some 13, .load 1 false (.t 12), none⟩,
 ⟨some 14, .len false (.t 13), none⟩,
 ⟨some 15, .bin .add (.t 14) (.c (.int .i64 1)), none⟩,
 ⟨some 7, .mv (.t 15), none⟩])
 (.seq (.drw [⟨some 16, .load 2 true (.t 6), none⟩,
 ⟨some 17, .mv (.t 5), none⟩,
 ⟨some 18, .mv (.t 7), none⟩,
 ⟨some 19, .call 321 [(true, .t 17), (false, .w 18)], none⟩,
 ⟨some 20, .mv (.t 5), none⟩,
 ⟨some 21, .call 321 [(true, .t 20), (false, .c (.int .i64 9))], none⟩,
 ⟨some 22, .bin .quo (.t 21) (.c (.int .i64 8)), none⟩,
 ⟨some 23, .bin .sub (.t 19) (.t 22), none⟩,
 ⟨some 24, .mv (.t 5), none⟩,
 ⟨some 25, .mv (.t 7), none⟩,
 ⟨some 26, .call 321 [(true, .t 24), (false, .w 25)], none⟩,
 ⟨some 27, .mv (.t 5), none⟩,
 ⟨some 28, .call 321 [(true, .t 27), (false, .c (.int .i64 9))], none⟩,
 ⟨some 29, .bin .quo (.t 28) (.c (.int .i64 8)), none⟩,
 ⟨some 30, .bin .sub (.t 26) (.t 29), none⟩,
 ⟨none, .store [some 115, some 130] (.t 2) (.t 16), none⟩,
 ⟨some 3, .mv (.t 23), none⟩,
 ⟨some 4, .mv (.t 30), none⟩] [(0, 3), (0, 5), (0, 10), (0, 12)])
 .ret)))))
def if_spec_l7Places : IFn := ⟨31, [.inr (2, 2), .inl 3, .inl 4], ib_spec_l7Places, lcF []⟩
def ks_spec_l7Places : List (List (Option Nat)) := [[some 115, some 130], [none], [none]]
def gf_spec_l7Places (a0 : (List UInt8)) : Option (Repo × Int × Int) := (gf_spec_l12Open a0).bind fun x2 => (gf_spec_l7Bent x2).bind fun x5 => (gf_spec_l12Rd_pick (⟨x2.b, x5.2⟩ : Rd) (IntKind.i64.wrap ((x5.1.commits.length : Int) + 1))).bind fun x12 => (gf_spec_l12Rd_pick (⟨x2.b, x12.2⟩ : Rd) 9).bind fun x14 => (gf_spec_l12Rd_pick (⟨x2.b, x14.2⟩ : Rd) (IntKind.i64.wrap ((x5.1.commits.length : Int) + 1))).bind fun x16 => (gf_spec_l12Rd_pick (⟨x2.b, x16.2⟩ : Rd) 9).bind fun x18 => some (x5.1, (IntKind.i64.wrap (x12.1 - (IntKind.i64.wrap (Int.tdiv x14.1 8)))), (IntKind.i64.wrap (x16.1 - (IntKind.i64.wrap (Int.tdiv x18.1 8)))))
def c_spec_l7Places : Con := ⟨(List UInt8) × Option Addr × Nat, (Repo × Int × Int), 334, fun a => [.raw a.2.1 a.2.2 (List.map eU8 a.1)], fun a => gf_spec_l7Places a.1, fun a r => ⟨[(true, eRepoX r.1), (false, [.v (.int .i64 r.2.1)]), (false, [.v (.int .i64 r.2.2)])], []⟩, fun a => []⟩
/-! spec.DrawJoinBase -/
def ib_spec_DrawJoinBase : IC :=
 (.seq (.reg [⟨some 2, .alloc 210 [.sl true 115 [], .sl true 130 []], none⟩,
 ⟨some 3, .mv (.c (.int .i64 0)), none⟩,
 ⟨some 4, .mv (.c (.int .i64 0)), none⟩])
 (.seq (.reg [⟨some 5, .mv (.t 0), none⟩,
 ⟨some 6, .call 334 [(false, .t 5)], none⟩,
 ⟨some 7, .ext (.t 6) 0, none⟩,
 ⟨some 8, .ext (.t 6) 1, none⟩,
 ⟨some 9, .ext (.t 6) 2, none⟩,
 ⟨none, .store [some 115, some 130] (.t 2) (.t 7), none⟩,
 ⟨some 3, .mv (.t 8), none⟩,
 ⟨some 4, .mv (.t 9), none⟩])
 .ret))
def if_spec_DrawJoinBase : IFn := ⟨10, [.inr (2, 2), .inl 3, .inl 4], ib_spec_DrawJoinBase, lcF []⟩
def ks_spec_DrawJoinBase : List (List (Option Nat)) := [[some 115, some 130], [none], [none]]
def gf_spec_DrawJoinBase (a0 : (List UInt8)) : Option (Repo × Int × Int) := (gf_spec_l7Places a0).bind fun x2 => some (x2.1, x2.2.1, x2.2.2)
def c_spec_DrawJoinBase : Con := ⟨(List UInt8) × Option Addr × Nat, (Repo × Int × Int), 237, fun a => [.raw a.2.1 a.2.2 (List.map eU8 a.1)], fun a => gf_spec_DrawJoinBase a.1, fun a r => ⟨[(true, eRepoX r.1), (false, [.v (.int .i64 r.2.1)]), (false, [.v (.int .i64 r.2.2)])], []⟩, fun a => []⟩
/-! impl.RepoAhead -/
def ib_impl_RepoAhead : IC :=
 (.seq (.reg [⟨some 3, .box 210 [some 115, some 130] (.t 0), none⟩,
 ⟨some 6, .mv (.c (.bool false)), none⟩])
 (.seq (.reg [⟨some 7, .load 2 true (.t 3), none⟩,
 ⟨some 8, .call 96 [(false, .t 7)], none⟩,
 ⟨some 9, .mv (.t 8), none⟩,
 ⟨some 10, .load 2 true (.t 3), some (9, true)⟩,
 ⟨some 11, .mv (.t 1), some (9, true)⟩,
 ⟨some 12, .call 90 [(false, .t 10), (false, .t 11)], some (9, true)⟩,
 ⟨some 13, .pick (.t 9) (.t 12) (.c (.bool false)), none⟩,
 ⟨some 14, .mv (.t 13), none⟩,
 ⟨some 15, .load 2 true (.t 3), some (14, true)⟩,
 ⟨some 16, .mv (.t 2), some (14, true)⟩,
 ⟨some 17, .call 90 [(false, .t 15), (false, .t 16)], some (14, true)⟩,
 ⟨some 18, .pick (.t 14) (.t 17) (.c (.bool false)), none⟩,
 ⟨some 19, .mv (.t 18), none⟩,
 ⟨some 20, .load 2 true (.t 3), some (19, true)⟩,
 ⟨some 21, .mv (.t 2), some (19, true)⟩,
 ⟨some 22, .call 97 [(false, .t 20), (false, .t 21)], some (19, true)⟩,
 ⟨some 23, .mv (.t 1), some (19, true)⟩,
 ⟨some 24, .iaddr 1 (.t 22) (.t 23), some (19, true)⟩,
 ⟨some 25, .load 1 false (.t 24), some (19, true)⟩,
 ⟨some 26, .pick (.t 19) (.t 25) (.c (.bool false)), none⟩,
 ⟨some 6, .mv (.t 26), none⟩])
 .ret))
def if_impl_RepoAhead : IFn := ⟨27, [.inl 6], ib_impl_RepoAhead, lcF []⟩
def ks_impl_RepoAhead : List (List (Option Nat)) := [[none]]
def gf_impl_RepoAhead (a0 : Repo) (a1 : Int) (a2 : Int) : Option Bool := (gf_impl_RepoOk a0).bind fun x2 => if x2 = true then ((gf_impl_Repo_version a0 a1).bind fun x4 => if x4 = true then ((gf_impl_Repo_version a0 a2).bind fun x6 => if x6 = true then ((gf_impl_Repo_past a0 a2).bind fun x8 => (idx x8 a1).bind fun x12 => some (x12)) else (some (false))) else (some (false))) else (some (false))
def c_impl_RepoAhead : Con := ⟨Repo × Int × Int, Bool, 238, fun a => [.agg [.ro (List.map (eCommit false) a.1.commits), .ro (List.map eHead a.1.heads)], .v (.int .i64 a.2.1), .v (.int .i64 a.2.2)], fun a => gf_impl_RepoAhead a.1 a.2.1 a.2.2, fun a r => ⟨[(false, [.v (.bool r)])], []⟩, fun a => []⟩
/-! laws.FnJoinBase -/
def ib_laws_FnJoinBase : IC :=
 (.seq (.reg [⟨some 2, .mv (.c (.bool false)), none⟩])
 (.seq (.seq (.reg [⟨some 8, .mv (.t 0), none⟩,
 ⟨some 9, .len false (.t 8), none⟩,
 ⟨some 10, .bin .gtr (.t 9) (.c (.int .i64 1048576)), none⟩])
 (.cond (.t 10) (.seq (.reg [⟨some 2, .mv (.c (.bool true)), none⟩])
 .ret)
 .skip))
 (.seq (.reg [⟨some 12, .mv (.t 0), none⟩,
 ⟨some 13, .frz (.call 237 [(false, .t 12)]), none⟩,
 ⟨some 11, .mv (.t 13), none⟩,
 ⟨some 14, .ext (.t 11) 0, none⟩,
 ⟨some 15, .ext (.t 11) 1, none⟩,
 ⟨some 16, .ext (.t 11) 2, none⟩,
 ⟨some 3, .alloc 210 [.sl true 115 [], .sl true 130 []], none⟩,
 ⟨none, .store [some 115, some 130] (.t 3) (.t 14), none⟩,
 ⟨some 4, .mv (.t 15), none⟩,
 ⟨some 5, .mv (.t 16), none⟩])
 (.seq (.reg [⟨some 17, .load 2 true (.t 3), none⟩,
 ⟨some 18, .mv (.t 4), none⟩,
 ⟨some 19, .mv (.t 5), none⟩,
 ⟨some 20, .call 148 [(false, .w 17), (false, .w 18), (false, .w 19)], none⟩,
 ⟨some 6, .mv (.t 20), none⟩])
 (.seq (.seq (.reg [⟨some 21, .mv (.t 6), none⟩,
 ⟨some 22, .load 2 true (.t 3), none⟩,
 ⟨some 23, .mv (.t 4), none⟩,
 ⟨some 24, .mv (.t 5), none⟩,
 ⟨some 25, .call 57 [(false, .w 22), (false, .w 23), (false, .w 24)], none⟩,
 ⟨some 26, .bin .neq (.t 21) (.t 25), none⟩,
 ⟨some 27, .mv (.t 26), none⟩,
 ⟨some 28, .mv (.t 6), some (27, false)⟩,
 ⟨some 29, .load 2 true (.t 3), some (27, false)⟩,
 ⟨some 30, .mv (.t 5), some (27, false)⟩,
 ⟨some 31, .mv (.t 4), some (27, false)⟩,
 ⟨some 32, .call 148 [(false, .w 29), (false, .w 30), (false, .w 31)], some (27, false)⟩,
 ⟨some 33, .bin .neq (.t 28) (.t 32), some (27, false)⟩,
 ⟨some 34, .pick (.t 27) (.c (.bool true)) (.t 33), none⟩])
 (.cond (.t 34) (.seq (.reg [⟨some 2, .mv (.c (.bool false)), none⟩])
 .ret)
 .skip))
 (.seq (.seq (.reg [⟨some 35, .mv (.t 6), none⟩,
 ⟨some 36, .bin .lss (.t 35) (.c (.int .i64 0)), none⟩])
 (.cond (.t 36) (.seq (.reg [⟨some 37, .mv (.t 6), none⟩,
 ⟨some 38, .bin .eql (.t 37) (.c (.int .i64 (-1))), none⟩,
 ⟨some 39, .mv (.t 38), none⟩,
 ⟨some 40, .load 2 true (.t 3), some (39, true)⟩,
 ⟨some 41, .call 33 [(false, .w 40)], some (39, true)⟩,
 ⟨some 42, .un .not (.t 41), some (39, true)⟩,
 ⟨some 43, .mv (.t 42), some (39, true)⟩,
 ⟨some 44, .mv (.t 4), some (43, false)⟩,
 ⟨some 45, .bin .lss (.t 44) (.c (.int .i64 0)), some (43, false)⟩,
 ⟨some 46, .pick (.t 43) (.c (.bool true)) (.t 45), some (39, true)⟩,
 ⟨some 47, .mv (.t 46), some (39, true)⟩,
 ⟨some 48, .mv (.t 5), some (47, false)⟩,
 ⟨some 49, .bin .lss (.t 48) (.c (.int .i64 0)), some (47, false)⟩,
 ⟨some 50, .pick (.t 47) (.c (.bool true)) (.t 49), some (39, true)⟩,
 ⟨some 51, .mv (.t 50), some (39, true)⟩,
 ⟨some 52, .mv (.t 4), some (51, false)⟩,
 ⟨some 53, .faddr 0 (.t 3), some (51, false)⟩,
 ⟨some 54, .load 1 false (.t 53), some (51, false)⟩,
 ⟨some 55, .len false (.t 54), some (51, false)⟩,
 ⟨some 56, .bin .geq (.t 52) (.t 55), some (51, false)⟩,
 ⟨some 57, .pick (.t 51) (.c (.bool true)) (.t 56), some (39, true)⟩,
 ⟨some 58, .mv (.t 57), some (39, true)⟩,
 ⟨some 59, .mv (.t 5), some (58, false)⟩,
 ⟨some 60, .faddr 0 (.t 3), some (58, false)⟩,
 ⟨some 61, .load 1 false (.t 60), some (58, false)⟩,
 ⟨some 62, .len false (.t 61), some (58, false)⟩,
 ⟨some 63, .bin .geq (.t 59) (.t 62), some (58, false)⟩,
 ⟨some 64, .pick (.t 58) (.c (.bool true)) (.t 63), some (39, true)⟩,
 ⟨some 65, .pick (.t 39) (.t 64) (.c (.bool false)), none⟩,
 ⟨some 2, .mv (.t 65), none⟩])
 .ret)
 .skip))
 (.seq (.seq (.reg [⟨some 66, .mv (.t 6), none⟩,
 ⟨some 67, .bin .add (.t 66) (.c (.int .i64 1)), none⟩,
 ⟨some 7, .mv (.t 67), none⟩])
 (blkC 0 (.loop (.seq (.seq (.reg [⟨some 68, .mv (.t 7), none⟩,
 ⟨some 69, .faddr 0 (.t 3), none⟩,
 ⟨some 70, .load 1 false (.t 69), none⟩,
 ⟨some 71, .len false (.t 70), none⟩,
 ⟨some 72, .bin .lss (.t 68) (.t 71), none⟩])
 (.cond (.t 72) .skip
 (.exit 0)))
 (.seq (.block 1 (.seq (.reg [⟨some 75, .load 2 true (.t 3), none⟩,
 ⟨some 76, .mv (.t 7), none⟩,
 ⟨some 77, .mv (.t 4), none⟩,
 ⟨some 78, .call 238 [(false, .w 75), (false, .w 76), (false, .w 77)], none⟩,
 ⟨some 79, .mv (.t 78), none⟩,
 ⟨some 80, .load 2 true (.t 3), some (79, true)⟩,
 ⟨some 81, .mv (.t 7), some (79, true)⟩,
 ⟨some 82, .mv (.t 5), some (79, true)⟩,
 ⟨some 83, .call 238 [(false, .w 80), (false, .w 81), (false, .w 82)], some (79, true)⟩,
 ⟨some 84, .pick (.t 79) (.t 83) (.c (.bool false)), none⟩])
 (.cond (.t 84) (.seq (.reg [⟨some 2, .mv (.c (.bool false)), none⟩])
 .ret)
 .skip)))
 (.reg [⟨some 73, .mv (.t 7), none⟩,
 ⟨some 74, .bin .add (.t 73) (.c (.int .i64 1)), none⟩,
 ⟨some 7, .mv (.t 74), none⟩]))))))
 (.seq (.reg [⟨some 85, .load 2 true (.t 3), none⟩,
 ⟨some 86, .mv (.t 6), none⟩,
 ⟨some 87, .mv (.t 4), none⟩,
 ⟨some 88, .call 238 [(false, .w 85), (false, .w 86), (false, .w 87)], none⟩,
 ⟨some 89, .mv (.t 88), none⟩,
 ⟨some 90, .load 2 true (.t 3), some (89, true)⟩,
 ⟨some 91, .mv (.t 6), some (89, true)⟩,
 ⟨some 92, .mv (.t 5), some (89, true)⟩,
 ⟨some 93, .call 238 [(false, .w 90), (false, .w 91), (false, .w 92)], some (89, true)⟩,
 ⟨some 94, .pick (.t 89) (.t 93) (.c (.bool false)), none⟩,
 ⟨some 95, .mv (.t 94), none⟩,
 ⟨some 96, .mv (.t 6), some (95, true)⟩,
 ⟨some 97, .mv (.t 4), some (95, true)⟩,
 ⟨some 98, .bin .eql (.t 96) (.t 97), some (95, true)⟩,
 ⟨some 99, .load 2 true (.t 3), some (95, true)⟩,
 ⟨some 100, .mv (.t 4), some (95, true)⟩,
 ⟨some 101, .mv (.t 5), some (95, true)⟩,
 ⟨some 102, .call 238 [(false, .w 99), (false, .w 100), (false, .w 101)], some (95, true)⟩,
 ⟨some 103, .eqs false false [1] (.t 98) (.t 102), some (95, true)⟩,
 ⟨some 104, .pick (.t 95) (.t 103) (.c (.bool false)), none⟩,
 ⟨some 2, .mv (.t 104), none⟩])
 .ret))))))))
def if_laws_FnJoinBase : IFn := ⟨105, [.inl 2], ib_laws_FnJoinBase, lcF []⟩
def ks_laws_FnJoinBase : List (List (Option Nat)) := [[none]]
def gl_laws_FnJoinBase_1 (x1 : (Repo × Int × Int)) : Nat → Int → Option (Bool ⊕ Unit)
  | 0, _ => none
  | n34 + 1, v32 => if (decide (v32 < (x1.1.commits.length : Int))) = true then ((gf_impl_RepoAhead x1.1 v32 x1.2.1).bind fun x35 => if x35 = true then ((gf_impl_RepoAhead x1.1 v32 x1.2.2).bind fun x37 => if x37 = true then (some (.inl (false))) else (gl_laws_FnJoinBase_1 x1 n34 (IntKind.i64.wrap (v32 + 1)))) else (gl_laws_FnJoinBase_1 x1 n34 (IntKind.i64.wrap (v32 + 1)))) else (some (.inr ()))
def gf_laws_FnJoinBase (a0 : (List UInt8)) : Option Bool := if (decide ((a0.length : Int) > 1048576)) = true then (some (true)) else ((gf_spec_DrawJoinBase a0).bind fun x1 => (gf_impl_JoinBase x1.1 x1.2.1 x1.2.2).bind fun x8 => (gf_spec_JoinBase x1.1 x1.2.1 x1.2.2).bind fun x10 => if (x8 != x10) = true then (some (false)) else ((gf_impl_JoinBase x1.1 x1.2.2 x1.2.1).bind fun x12 => if (x8 != x12) = true then (some (false)) else (if (decide (x8 < 0)) = true then (if (x8 == (-1)) = true then ((gf_spec_RepoOk x1.1).bind fun x14 => if (!x14) = true then (some (true)) else (if (decide (x1.2.1 < 0)) = true then (some (true)) else (if (decide (x1.2.2 < 0)) = true then (some (true)) else (if (decide (x1.2.1 ≥ (x1.1.commits.length : Int))) = true then (some (true)) else (some ((decide (x1.2.2 ≥ (x1.1.commits.length : Int))))))))) else (some (false))) else ((gl_laws_FnJoinBase_1 x1 rounds (IntKind.i64.wrap (x8 + 1))).bind fun q => match q with | .inl r => some r | .inr q31 => (gf_impl_RepoAhead x1.1 x8 x1.2.1).bind fun x40 => if x40 = true then ((gf_impl_RepoAhead x1.1 x8 x1.2.2).bind fun x42 => if x42 = true then ((gf_impl_RepoAhead x1.1 x1.2.1 x1.2.2).bind fun x44 => some (((x8 == x1.2.1) == x44))) else (some (false))) else (some (false))))))
def c_laws_FnJoinBase : Con := ⟨(List UInt8) × Option Addr × Nat, Bool, 236, fun a => [.raw a.2.1 a.2.2 (List.map eU8 a.1)], fun a => gf_laws_FnJoinBase a.1, fun a r => ⟨[(false, [.v (.bool r)])], []⟩, fun a => []⟩
end Go.Proofs.AM
