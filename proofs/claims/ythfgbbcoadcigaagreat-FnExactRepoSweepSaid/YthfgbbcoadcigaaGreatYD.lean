/- A part of the proofs of this seat's statements (YD): lemmas on an abstract machine for the program's functions. Conditions: none. -/
import Derived.Test.YthfgbbcoadcigaaGreatYC0
set_option linter.unusedVariables false
set_option maxRecDepth 100000
set_option maxHeartbeats 4000000
namespace Go.Proofs.AM
attribute [local irreducible] vwp vstps vstpLs vstp vdo vret kseq kblk kloop kend kcut kloop2 frzV renV shutK
/-! spec.RepoSweep -/
def ib_spec_RepoSweep : IC :=
 (.seq (.reg [⟨some 1, .box 210 [some 115, some 130] (.t 0), none⟩,
 ⟨some 2, .alloc 210 [.sl true 115 [], .sl true 130 []], none⟩])
 (.seq (.seq (.reg [⟨some 12, .load 2 true (.t 1), none⟩,
 ⟨some 13, .call 33 [(false, .t 12)], none⟩,
 ⟨some 14, .un .not (.t 13), none⟩])
 (.cond (.t 14) (.seq (.reg [⟨some 15, .build [.nil, .nil] [], none⟩,
 ⟨none, .store [some 115, some 130] (.t 2) (.t 15), none⟩])
 .ret)
 .skip))
 (.seq (.reg [⟨some 16, .lit 17 [none] [.v (.int .i64 0)] 0 [], none⟩,
 ⟨some 3, .mv (.t 16), none⟩])
 (.seq (.seq (.reg [⟨some 4, .mv (.c (.int .i64 0)), none⟩])
 (blkC 0 (.loop (.seq (.seq (.reg [⟨some 17, .mv (.t 4), none⟩,
 ⟨some 18, .faddr 1 (.t 1), none⟩,
 ⟨some 19, .load 1 false (.t 18), none⟩,
 ⟨some 20, .len false (.t 19), none⟩,
 ⟨some 21, .bin .lss (.t 17) (.t 20), none⟩])
 (.cond (.t 21) .skip
 (.exit 0)))
 (.seq (.block 1 (.reg [⟨some 24, .mv (.t 3), none⟩,
 ⟨some 25, .faddr 1 (.t 1), none⟩,
 ⟨some 26, .load 1 false (.t 25), none⟩,
 ⟨some 27, .mv (.t 4), none⟩,
 ⟨some 28, .iaddr 2 (.t 26) (.t 27), none⟩,
 ⟨some 29, .faddr 1 (.t 28), none⟩,
 ⟨some 30, .load 1 false (.t 29), none⟩,
 ⟨some 31, .lit 17 [none] [.v (.int .i64 0)] 1 [(0, .t 30)], none⟩,
 ⟨some 32, .app 17 true (.t 24) (.t 31), none⟩,
 ⟨some 3, .mv (.t 32), none⟩]))
 (.reg [⟨some 22, .mv (.t 4), none⟩,
 ⟨some 23, .bin .add (.t 22) (.c (.int .i64 1)), none⟩,
 ⟨some 4, .mv (.t 23), none⟩]))))))
 (.seq (.reg [⟨some 33, .load 2 true (.t 1), none⟩,
 ⟨some 34, .mv (.t 3), none⟩,
 ⟨some 35, .call 35 [(false, .t 33), (false, .t 34)], none⟩,
 ⟨some 5, .mv (.t 35), none⟩])
 (.seq (.reg [⟨some 36, .faddr 0 (.t 1), none⟩,
 ⟨some 37, .load 1 false (.t 36), none⟩,
 ⟨some 38, .len false (.t 37), none⟩,
 ⟨some 39, .mks 17 [.v (.int .i64 0)] (.t 38) (.t 38), none⟩,
 ⟨some 6, .mv (.t 39), none⟩])
 (.seq (.reg [⟨some 40, .lit 130 [none, none] [.v (.string ⟨#[]⟩), .v (.int .i64 0)] 0 [], none⟩,
 ⟨some 41, .faddr 1 (.t 1), none⟩,
 ⟨some 42, .load 1 false (.t 41), none⟩,
 ⟨some 43, .app 130 false (.t 40) (.t 42), none⟩,
 ⟨some 44, .build [.nil, .nil] [(1, 1, .t 43)], none⟩,
 ⟨some 7, .alloc 210 [.sl true 115 [], .sl true 130 []], none⟩,
 ⟨none, .store [some 115, some 130] (.t 7) (.t 44), none⟩])
 (.seq (.seq (.reg [⟨some 8, .mv (.c (.int .i64 0)), none⟩])
 (blkC 2 (.loop (.seq (.seq (.reg [⟨some 45, .mv (.t 8), none⟩,
 ⟨some 46, .faddr 0 (.t 1), none⟩,
 ⟨some 47, .load 1 false (.t 46), none⟩,
 ⟨some 48, .len false (.t 47), none⟩,
 ⟨some 49, .bin .lss (.t 45) (.t 48), none⟩])
 (.cond (.t 49) .skip
 (.exit 2)))
 (.seq (.block 3 (.seq (.seq (.reg [⟨some 52, .mv (.t 5), none⟩,
 ⟨some 53, .mv (.t 8), none⟩,
 ⟨some 54, .iaddr 1 (.t 52) (.t 53), none⟩,
 ⟨some 55, .load 1 false (.t 54), none⟩,
 ⟨some 56, .un .not (.t 55), none⟩])
 (.cond (.t 56) (.exit 3)
 .skip))
 (.seq (.reg [⟨some 57, .faddr 0 (.t 1), none⟩,
 ⟨some 58, .load 1 false (.t 57), none⟩,
 ⟨some 59, .mv (.t 8), none⟩,
 ⟨some 60, .iaddr 3 (.t 58) (.t 59), none⟩,
 ⟨some 61, .load 3 true (.t 60), none⟩,
 ⟨some 62, .call 32 [(false, .t 61)], none⟩,
 ⟨some 9, .alloc 115 [.sl true 17 [], .sl true 100 [], .v (.string ⟨#[]⟩)], none⟩,
 ⟨none, .store [some 17, some 100, none] (.t 9) (.t 62), none⟩])
 (.seq (.seq (.reg [⟨some 10, .mv (.c (.int .i64 0)), none⟩])
 (blkC 4 (.loop (.seq (.seq (.reg [⟨some 63, .mv (.t 10), none⟩,
 ⟨some 64, .faddr 0 (.t 9), none⟩,
 ⟨some 65, .load 1 false (.t 64), none⟩,
 ⟨some 66, .len false (.t 65), none⟩,
 ⟨some 67, .bin .lss (.t 63) (.t 66), none⟩])
 (.cond (.t 67) .skip
 (.exit 4)))
 (.seq (.block 5 (.drw [⟨some 70, .faddr 0 (.t 9), none⟩,
 ⟨some 71, .load 1 false (.t 70), none⟩,
 ⟨some 72, .mv (.t 10), none⟩,
 ⟨some 73, .mv (.t 6), none⟩,
 ⟨some 74, .faddr 0 (.t 9), none⟩,
 ⟨some 75, .load 1 false (.t 74), none⟩,
 ⟨some 76, .mv (.t 10), none⟩,
 ⟨some 77, .iaddr 1 (.t 75) (.t 76), none⟩,
 ⟨some 78, .load 1 false (.t 77), none⟩,
 ⟨some 79, .iaddr 1 (.t 73) (.t 78), none⟩,
 ⟨some 80, .load 1 false (.t 79), none⟩,
 ⟨some 81, .iaddr 1 (.t 71) (.t 72), none⟩,
 ⟨none, .store [none] (.t 81) (.t 80), none⟩] [(1, 5), (1, 8), (1, 10)]))
 (.reg [⟨some 68, .mv (.t 10), none⟩,
 ⟨some 69, .bin .add (.t 68) (.c (.int .i64 1)), none⟩,
 ⟨some 10, .mv (.t 69), none⟩]))))))
 (.seq (.reg [⟨some 82, .mv (.t 6), none⟩,
 ⟨some 83, .mv (.t 8), none⟩,
 ⟨some 84, .faddr 0 (.t 7), none⟩,
 ⟨some 85, .load 1 false (.t 84), none⟩,
 ⟨some 86, .len false (.t 85), none⟩,
 ⟨some 87, .iaddr 1 (.t 82) (.t 83), none⟩,
 ⟨none, .store [none] (.t 87) (.t 86), none⟩])
 (.reg [⟨some 88, .faddr 0 (.t 7), none⟩,
 ⟨some 89, .load 1 false (.t 88), none⟩,
 ⟨some 90, .load 3 true (.t 9), none⟩,
 ⟨some 91, .lit 115 [some 17, some 100, none] [.sl true 17 [], .sl true 100 [], .v (.string ⟨#[]⟩)] 1 [(0, .t 90)], none⟩,
 ⟨some 92, .app 115 true (.t 89) (.t 91), none⟩,
 ⟨some 93, .faddr 0 (.t 7), none⟩,
 ⟨none, .store [some 115] (.t 93) (.t 92), none⟩]))))))
 (.reg [⟨some 50, .mv (.t 8), none⟩,
 ⟨some 51, .bin .add (.t 50) (.c (.int .i64 1)), none⟩,
 ⟨some 8, .mv (.t 51), none⟩]))))))
 (.seq (.seq (.reg [⟨some 11, .mv (.c (.int .i64 0)), none⟩])
 (blkC 6 (.loop (.seq (.seq (.reg [⟨some 94, .mv (.t 11), none⟩,
 ⟨some 95, .faddr 1 (.t 7), none⟩,
 ⟨some 96, .load 1 false (.t 95), none⟩,
 ⟨some 97, .len false (.t 96), none⟩,
 ⟨some 98, .bin .lss (.t 94) (.t 97), none⟩])
 (.cond (.t 98) .skip
 (.exit 6)))
 (.seq (.block 7 (.drw [⟨some 101, .faddr 1 (.t 7), none⟩,
 ⟨some 102, .load 1 false (.t 101), none⟩,
 ⟨some 103, .mv (.t 11), none⟩,
 ⟨some 104, .mv (.t 6), none⟩,
 ⟨some 105, .faddr 1 (.t 7), none⟩,
 ⟨some 106, .load 1 false (.t 105), none⟩,
 ⟨some 107, .mv (.t 11), none⟩,
 ⟨some 108, .iaddr 2 (.t 106) (.t 107), none⟩,
 ⟨some 109, .faddr 1 (.t 108), none⟩,
 ⟨some 110, .load 1 false (.t 109), none⟩,
 ⟨some 111, .iaddr 1 (.t 104) (.t 110), none⟩,
 ⟨some 112, .load 1 false (.t 111), none⟩,
 ⟨some 113, .iaddr 2 (.t 102) (.t 103), none⟩,
 ⟨some 114, .faddr 1 (.t 113), none⟩,
 ⟨none, .store [none] (.t 114) (.t 112), none⟩] [(1, 5), (1, 9), (1, 11)]))
 (.reg [⟨some 99, .mv (.t 11), none⟩,
 ⟨some 100, .bin .add (.t 99) (.c (.int .i64 1)), none⟩,
 ⟨some 11, .mv (.t 100), none⟩]))))))
 (.seq (.reg [⟨some 115, .load 2 true (.t 7), none⟩,
 ⟨none, .store [some 115, some 130] (.t 2) (.t 115), none⟩])
 .ret))))))))))
def if_spec_RepoSweep : IFn := ⟨116, [.inr (2, 2)], ib_spec_RepoSweep, lcF []⟩
def ks_spec_RepoSweep : List (List (Option Nat)) := [[some 115, some 130]]
def gl_spec_RepoSweep_1 : List Head → Nat → (List Int) → Option (List Int)
  | [], k53, v50 => some v50
  | x54 :: l55, k53, v50 => if fits (v50 ++ ([x54.at_] : (List Int))).length = true then gl_spec_RepoSweep_1 l55 (k53 + 1) (v50 ++ ([x54.at_] : (List Int))) else none
def gl_spec_RepoSweep_6 (v490 : (List Int)) : Nat → Int → (List Int) → Option (List Int)
  | 0, _, _ => none
  | n594 + 1, v572, v588 => if (decide (v572 < (v588.length : Int))) = true then ((idx v588 v572).bind fun x595 => (idx v490 x595).bind fun x597 => gl_spec_RepoSweep_6 v490 n594 (IntKind.i64.wrap (v572 + 1)) (List.set v588 v572.toNat x597)) else (some v588)
def gl_spec_RepoSweep_5 (x75 : (List Bool)) : List Commit → Nat → (List Int) → (List Commit) → Option ((List Int) × (List Commit))
  | [], k499, v490, v493 => some (v490, v493)
  | x500 :: l501, k499, v490, v493 => (idx x75 (k499 : Int)).bind fun x508 => if (!x508) = true then (gl_spec_RepoSweep_5 x75 l501 (k499 + 1) v490 v493) else ((gf_spec_l7One x500).bind fun x510 => (gl_spec_RepoSweep_6 v490 rounds 0 x510.up).bind fun q571 => (idx v490 (k499 : Int)).bind fun x620 => if fits (v493 ++ ([(⟨q571, x510.sheet, x510.note⟩ : Commit)] : (List Commit))).length = true then gl_spec_RepoSweep_5 x75 l501 (k499 + 1) (List.set v490 (k499 : Int).toNat (v493.length : Int)) (v493 ++ ([(⟨q571, x510.sheet, x510.note⟩ : Commit)] : (List Commit))) else none)
def gl_spec_RepoSweep_7 (q480 : ((List Int) × (List Commit))) : Nat → Int → (List Head) → Option (List Head)
  | 0, _, _ => none
  | n693 + 1, v679, v689 => if (decide (v679 < (v689.length : Int))) = true then ((idx v689 v679).bind fun x694 => (idx q480.1 x694.at_).bind fun x696 => gl_spec_RepoSweep_7 q480 n693 (IntKind.i64.wrap (v679 + 1)) (List.set v689 v679.toNat (⟨x694.name, x696⟩ : Head))) else (some v689)
def gf_spec_RepoSweep (a0 : Repo) : Option Repo := (gf_spec_RepoOk a0).bind fun x3 => if (!x3) = true then (some ((⟨[], []⟩ : Repo))) else (if fits a0.heads.length = true then ((gl_spec_RepoSweep_1 a0.heads 0 []).bind fun q42 => (gf_spec_l7Marks a0 q42).bind fun x75 => if (decide (0 ≤ (a0.commits.length : Int)) && fits ((a0.commits.length : Int)).toNat) = true then if fits ([] ++ a0.heads).length = true then if fits a0.commits.length = true then ((gl_spec_RepoSweep_5 x75 a0.commits 0 (List.replicate ((a0.commits.length : Int)).toNat 0) []).bind fun q480 => (gl_spec_RepoSweep_7 q480 rounds 0 ([] ++ a0.heads)).bind fun q678 => some ((⟨q480.2, q678⟩ : Repo))) else none else none else none) else none)
def c_spec_RepoSweep : Con := ⟨Repo, Repo, 245, fun a => [.agg [.ro (List.map (eCommit false) a.commits), .ro (List.map eHead a.heads)]], fun a => gf_spec_RepoSweep a, fun a r => ⟨[(true, eRepo true r)], []⟩, fun a => []⟩
/-! laws.FnExactRepoBranch -/
def ib_laws_FnExactRepoBranch : IC :=
 (.seq (.reg [⟨some 3, .box 466 [some 387, some 402] (.t 0), none⟩,
 ⟨some 6, .mv (.c (.bool false)), none⟩])
 (.seq (.seq (.reg [⟨some 18, .mv (.t 1), none⟩,
 ⟨some 19, .len true (.t 18), none⟩,
 ⟨some 20, .bin .gtr (.t 19) (.c (.int .i64 1048576)), none⟩])
 (.cond (.t 20) (.seq (.reg [⟨some 6, .mv (.c (.bool true)), none⟩])
 .ret)
 .skip))
 (.seq (.seq (.reg [⟨some 21, .mv (.t 2), none⟩,
 ⟨some 22, .len true (.t 21), none⟩,
 ⟨some 23, .bin .gtr (.t 22) (.c (.int .i64 1048576)), none⟩])
 (.cond (.t 23) (.seq (.reg [⟨some 6, .mv (.c (.bool true)), none⟩])
 .ret)
 .skip))
 (.seq (.reg [⟨some 7, .mv (.c (.int .i64 1048576)), none⟩])
 (.seq (.reg [⟨some 24, .load 2 true (.t 3), none⟩,
 ⟨some 25, .mv (.t 7), none⟩,
 ⟨some 26, .call 179 [(false, .t 24), (false, .t 25)], none⟩,
 ⟨some 7, .mv (.t 26), none⟩])
 (.seq (.seq (.reg [⟨some 27, .mv (.t 7), none⟩,
 ⟨some 28, .bin .lss (.t 27) (.c (.int .i64 0)), none⟩])
 (.cond (.t 28) (.seq (.reg [⟨some 6, .mv (.c (.bool true)), none⟩])
 .ret)
 .skip))
 (seqC (.reg [⟨some 30, .load 2 true (.t 3), none⟩,
 ⟨some 31, .call 180 [(false, .t 30)], none⟩,
 ⟨some 32, .mv (.t 1), none⟩,
 ⟨some 33, .mv (.t 2), none⟩,
 ⟨some 34, .call 224 [(false, .t 31), (false, .t 32), (false, .t 33)], none⟩,
 ⟨some 29, .mv (.t 34), none⟩,
 ⟨some 35, .ext (.t 29) 0, none⟩,
 ⟨some 36, .ext (.t 29) 1, none⟩,
 ⟨some 8, .alloc 210 [.sl true 115 [], .sl true 130 []], none⟩,
 ⟨none, .store [some 115, some 130] (.t 8) (.t 35), none⟩,
 ⟨some 9, .mv (.t 36), none⟩])
 (.seq (.reg [⟨some 37, .load 2 true (.t 3), none⟩,
 ⟨some 38, .call 180 [(false, .t 37)], none⟩,
 ⟨some 10, .alloc 210 [.sl true 115 [], .sl true 130 []], none⟩,
 ⟨none, .store [some 115, some 130] (.t 10) (.t 38), none⟩])
 (seqC (.reg [⟨some 40, .load 2 true (.t 10), none⟩,
 ⟨some 41, .mv (.t 1), none⟩,
 ⟨some 42, .mv (.t 2), none⟩,
 ⟨some 43, .call 223 [(false, .t 40), (false, .t 41), (false, .t 42)], none⟩,
 ⟨some 39, .mv (.t 43), none⟩,
 ⟨some 44, .ext (.t 39) 0, none⟩,
 ⟨some 45, .ext (.t 39) 1, none⟩,
 ⟨some 11, .alloc 210 [.sl true 115 [], .sl true 130 []], none⟩,
 ⟨none, .store [some 115, some 130] (.t 11) (.t 44), none⟩,
 ⟨some 12, .mv (.t 45), none⟩])
 (.seq (.seq (.reg [⟨some 46, .load 2 true (.t 11), none⟩,
 ⟨some 47, .load 2 true (.t 8), none⟩,
 ⟨some 48, .call 183 [(false, .t 46), (false, .t 47)], none⟩,
 ⟨some 49, .un .not (.t 48), none⟩,
 ⟨some 50, .mv (.t 49), none⟩,
 ⟨some 51, .mv (.t 12), some (50, false)⟩,
 ⟨some 52, .mv (.t 9), some (50, false)⟩,
 ⟨some 53, .bin .neq (.t 51) (.t 52), some (50, false)⟩,
 ⟨some 54, .pick (.t 50) (.c (.bool true)) (.t 53), none⟩])
 (.cond (.t 54) (.seq (.reg [⟨some 6, .mv (.c (.bool false)), none⟩])
 .ret)
 .skip))
 (.seq (.seq (.drw [⟨some 55, .load 2 true (.t 10), none⟩,
 ⟨some 56, .load 2 true (.t 3), none⟩,
 ⟨some 57, .call 180 [(false, .t 56)], none⟩,
 ⟨some 58, .call 183 [(false, .t 55), (false, .t 57)], none⟩,
 ⟨some 59, .un .not (.t 58), none⟩] [(0, 1), (0, 2)])
 (.cond (.t 59) (.seq (.reg [⟨some 6, .mv (.c (.bool false)), none⟩])
 .ret)
 .skip))
 (.seq (.reg [⟨some 13, .mv (.c (.int .i64 1)), none⟩])
 (.seq (.reg [⟨some 60, .load 2 true (.t 10), none⟩,
 ⟨some 61, .mv (.t 13), none⟩,
 ⟨some 62, .call 185 [(true, .t 60), (false, .t 61)], none⟩,
 ⟨some 13, .mv (.t 62), none⟩])
 (.seq (.seq (.reg [⟨some 63, .mv (.t 13), none⟩,
 ⟨some 64, .bin .lss (.t 63) (.c (.int .i64 0)), none⟩,
 ⟨some 65, .mv (.t 64), none⟩,
 ⟨some 66, .load 2 true (.t 11), some (65, false)⟩,
 ⟨some 67, .load 2 true (.t 8), some (65, false)⟩,
 ⟨some 68, .call 183 [(false, .t 66), (false, .t 67)], some (65, false)⟩,
 ⟨some 69, .un .not (.t 68), some (65, false)⟩,
 ⟨some 70, .pick (.t 65) (.c (.bool true)) (.t 69), none⟩,
 ⟨some 71, .mv (.t 70), none⟩,
 ⟨some 72, .mv (.t 12), some (71, false)⟩,
 ⟨some 73, .mv (.t 9), some (71, false)⟩,
 ⟨some 74, .bin .neq (.t 72) (.t 73), some (71, false)⟩,
 ⟨some 75, .pick (.t 71) (.c (.bool true)) (.t 74), none⟩])
 (.cond (.t 75) (.seq (.reg [⟨some 6, .mv (.c (.bool false)), none⟩])
 .ret)
 .skip))
 (.seq (.reg [⟨some 14, .mv (.c (.int .i64 1)), none⟩])
 (.seq (.reg [⟨some 76, .load 2 true (.t 11), none⟩,
 ⟨some 77, .mv (.t 14), none⟩,
 ⟨some 78, .call 185 [(true, .t 76), (false, .t 77)], none⟩,
 ⟨some 14, .mv (.t 78), none⟩])
 (.seq (.reg [⟨some 15, .mv (.c (.int .i64 1)), none⟩])
 (.seq (.reg [⟨some 79, .load 2 true (.t 11), none⟩,
 ⟨some 80, .mv (.t 15), none⟩,
 ⟨some 81, .call 187 [(false, .t 79), (false, .t 80)], none⟩,
 ⟨some 15, .mv (.t 81), none⟩])
 (.seq (.seq (.reg [⟨some 82, .mv (.t 15), none⟩,
 ⟨some 83, .bin .lss (.t 82) (.c (.int .i64 0)), none⟩])
 (.cond (.t 83) (.seq (.reg [⟨some 6, .mv (.c (.bool false)), none⟩])
 .ret)
 .skip))
 (.seq (.seq (.reg [⟨some 84, .mv (.t 15), none⟩,
 ⟨some 85, .mv (.t 14), none⟩,
 ⟨some 86, .bin .neq (.t 84) (.t 85), none⟩])
 (.cond (.t 86) (.seq (.reg [⟨some 6, .mv (.c (.bool false)), none⟩])
 .ret)
 .skip))
 (.seq (.reg [⟨some 88, .load 2 true (.t 3), none⟩,
 ⟨some 89, .call 180 [(false, .t 88)], none⟩,
 ⟨some 90, .mv (.t 1), none⟩,
 ⟨some 91, .mv (.t 2), none⟩,
 ⟨some 92, .call 223 [(false, .t 89), (false, .t 90), (false, .t 91)], none⟩,
 ⟨some 87, .mv (.t 92), none⟩,
 ⟨some 93, .ext (.t 87) 0, none⟩,
 ⟨some 94, .ext (.t 87) 1, none⟩,
 ⟨some 16, .alloc 210 [.sl true 115 [], .sl true 130 []], none⟩,
 ⟨none, .store [some 115, some 130] (.t 16) (.t 93), none⟩,
 ⟨some 17, .mv (.t 94), none⟩])
 (.seq (.seq (.reg [⟨some 95, .load 2 true (.t 16), none⟩,
 ⟨some 96, .load 2 true (.t 8), none⟩,
 ⟨some 97, .call 183 [(false, .t 95), (false, .t 96)], none⟩,
 ⟨some 98, .un .not (.t 97), none⟩,
 ⟨some 99, .mv (.t 98), none⟩,
 ⟨some 100, .mv (.t 17), some (99, false)⟩,
 ⟨some 101, .mv (.t 9), some (99, false)⟩,
 ⟨some 102, .bin .neq (.t 100) (.t 101), some (99, false)⟩,
 ⟨some 103, .pick (.t 99) (.c (.bool true)) (.t 102), none⟩])
 (.cond (.t 103) (.seq (.reg [⟨some 6, .mv (.c (.bool false)), none⟩])
 .ret)
 .skip))
 (.seq (.reg [⟨some 15, .mv (.c (.int .i64 1)), none⟩])
 (.seq (.reg [⟨some 104, .load 2 true (.t 11), none⟩,
 ⟨some 105, .mv (.t 15), none⟩,
 ⟨some 106, .call 187 [(false, .t 104), (false, .t 105)], none⟩,
 ⟨some 15, .mv (.t 106), none⟩])
 (.seq (.seq (.reg [⟨some 107, .mv (.t 15), none⟩,
 ⟨some 108, .bin .lss (.t 107) (.c (.int .i64 0)), none⟩])
 (.cond (.t 108) (.seq (.reg [⟨some 6, .mv (.c (.bool false)), none⟩])
 .ret)
 .skip))
 (.seq (.seq (.reg [⟨some 109, .mv (.t 15), none⟩,
 ⟨some 110, .mv (.t 14), none⟩,
 ⟨some 111, .bin .neq (.t 109) (.t 110), none⟩])
 (.cond (.t 111) (.seq (.reg [⟨some 6, .mv (.c (.bool false)), none⟩])
 .ret)
 .skip))
 (.seq (.reg [⟨some 6, .mv (.c (.bool true)), none⟩])
 .ret)))))))))))))))))))))))))))
def if_laws_FnExactRepoBranch : IFn := ⟨112, [.inl 6], ib_laws_FnExactRepoBranch, lcF []⟩
def ks_laws_FnExactRepoBranch : List (List (Option Nat)) := [[none]]
def gf_laws_FnExactRepoBranch (a0 : Repo) (a1 : Str) (a2 : Str) : Option Bool := if (decide ((a1.size : Int) > 1048576)) = true then (some (true)) else (if (decide ((a2.size : Int) > 1048576)) = true then (some (true)) else ((gf_laws_szRepo a0 1048576).bind fun x2 => if (decide (x2 < 0)) = true then (some (true)) else ((((gf_laws_toRepo a0).bind fun x5 => (gf_spec_RepoBranch x5 a1 a2).bind fun x11 => some (x11.2, x11.1.commits, x11.1.heads) : Option (Int × (List Commit) × (List Head)))).bind fun q4 => (gf_laws_toRepo a0).bind fun x27 => (((gf_impl_RepoBranch x27 a1 a2).bind fun x35 => some (x35.2, x35.1.commits, x35.1.heads) : Option (Int × (List Commit) × (List Head)))).bind fun q34 => (gf_laws_eqRepo (⟨q34.2.1, q34.2.2⟩ : Repo) (⟨q4.2.1, q4.2.2⟩ : Repo)).bind fun x61 => if (!x61) = true then (some (false)) else (if (q34.1 != q4.1) = true then (some (false)) else ((gf_laws_toRepo a0).bind fun x63 => (gf_laws_eqRepo x27 x63).bind fun x69 => if (!x69) = true then (some (false)) else ((gf_laws_markRepo x27 1).bind fun x71 => if (decide (x71.1 < 0)) = true then (some (false)) else ((gf_laws_eqRepo (⟨q34.2.1, q34.2.2⟩ : Repo) (⟨q4.2.1, q4.2.2⟩ : Repo)).bind fun x73 => if (!x73) = true then (some (false)) else (if (q34.1 != q4.1) = true then (some (false)) else ((gf_laws_markRepo (⟨q34.2.1, q34.2.2⟩ : Repo) 1).bind fun x75 => (gf_laws_heldRepo x75.2 1).bind fun x77 => if (decide (x77 < 0)) = true then (some (false)) else (if (x77 != x75.1) = true then (some (false)) else ((gf_laws_toRepo a0).bind fun x79 => (gf_impl_RepoBranch x79 a1 a2).bind fun x85 => (gf_laws_eqRepo x85.1 (⟨q4.2.1, q4.2.2⟩ : Repo)).bind fun x92 => if (!x92) = true then (some (false)) else (if (x85.2 != q4.1) = true then (some (false)) else ((gf_laws_heldRepo x75.2 1).bind fun x94 => if (decide (x94 < 0)) = true then (some (false)) else (if (x94 != x75.1) = true then (some (false)) else (some (true))))))))))))))))
def c_laws_FnExactRepoBranch : Con := ⟨Repo × Str × Str, Bool, 279, fun a => [.agg [.ro (List.map (eCommit false) a.1.commits), .ro (List.map eHead a.1.heads)], .v (.string a.2.1), .v (.string a.2.2)], fun a => gf_laws_FnExactRepoBranch a.1 a.2.1 a.2.2, fun a r => ⟨[(false, [.v (.bool r)])], []⟩, fun a => []⟩
/-! laws.FnExactRepoSweep -/
def ib_laws_FnExactRepoSweep : IC :=
 (.seq (.reg [⟨some 1, .box 466 [some 387, some 402] (.t 0), none⟩,
 ⟨some 2, .mv (.c (.bool false)), none⟩])
 (.seq (.reg [⟨some 3, .mv (.c (.int .i64 1048576)), none⟩])
 (.seq (.reg [⟨some 11, .load 2 true (.t 1), none⟩,
 ⟨some 12, .mv (.t 3), none⟩,
 ⟨some 13, .call 179 [(false, .t 11), (false, .t 12)], none⟩,
 ⟨some 3, .mv (.t 13), none⟩])
 (.seq (.seq (.reg [⟨some 14, .mv (.t 3), none⟩,
 ⟨some 15, .bin .lss (.t 14) (.c (.int .i64 0)), none⟩])
 (.cond (.t 15) (.seq (.reg [⟨some 2, .mv (.c (.bool true)), none⟩])
 .ret)
 .skip))
 (seqC (.reg [⟨some 16, .load 2 true (.t 1), none⟩,
 ⟨some 17, .call 180 [(false, .t 16)], none⟩,
 ⟨some 18, .call 245 [(false, .t 17)], none⟩,
 ⟨some 4, .alloc 210 [.sl true 115 [], .sl true 130 []], none⟩,
 ⟨none, .store [some 115, some 130] (.t 4) (.t 18), none⟩])
 (.seq (.reg [⟨some 19, .load 2 true (.t 1), none⟩,
 ⟨some 20, .call 180 [(false, .t 19)], none⟩,
 ⟨some 5, .alloc 210 [.sl true 115 [], .sl true 130 []], none⟩,
 ⟨none, .store [some 115, some 130] (.t 5) (.t 20), none⟩])
 (seqC (.reg [⟨some 21, .load 2 true (.t 5), none⟩,
 ⟨some 22, .call 244 [(false, .t 21)], none⟩,
 ⟨some 6, .alloc 210 [.sl true 115 [], .sl true 130 []], none⟩,
 ⟨none, .store [some 115, some 130] (.t 6) (.t 22), none⟩])
 (.seq (.seq (.reg [⟨some 23, .load 2 true (.t 6), none⟩,
 ⟨some 24, .load 2 true (.t 4), none⟩,
 ⟨some 25, .call 183 [(false, .t 23), (false, .t 24)], none⟩,
 ⟨some 26, .un .not (.t 25), none⟩])
 (.cond (.t 26) (.seq (.reg [⟨some 2, .mv (.c (.bool false)), none⟩])
 .ret)
 .skip))
 (.seq (.seq (.drw [⟨some 27, .load 2 true (.t 5), none⟩,
 ⟨some 28, .load 2 true (.t 1), none⟩,
 ⟨some 29, .call 180 [(false, .t 28)], none⟩,
 ⟨some 30, .call 183 [(false, .t 27), (false, .t 29)], none⟩,
 ⟨some 31, .un .not (.t 30), none⟩] [(0, 1), (0, 2)])
 (.cond (.t 31) (.seq (.reg [⟨some 2, .mv (.c (.bool false)), none⟩])
 .ret)
 .skip))
 (.seq (.reg [⟨some 7, .mv (.c (.int .i64 1)), none⟩])
 (.seq (.reg [⟨some 32, .load 2 true (.t 5), none⟩,
 ⟨some 33, .mv (.t 7), none⟩,
 ⟨some 34, .call 185 [(true, .t 32), (false, .t 33)], none⟩,
 ⟨some 7, .mv (.t 34), none⟩])
 (.seq (.seq (.reg [⟨some 35, .mv (.t 7), none⟩,
 ⟨some 36, .bin .lss (.t 35) (.c (.int .i64 0)), none⟩,
 ⟨some 37, .mv (.t 36), none⟩,
 ⟨some 38, .load 2 true (.t 6), some (37, false)⟩,
 ⟨some 39, .load 2 true (.t 4), some (37, false)⟩,
 ⟨some 40, .call 183 [(false, .t 38), (false, .t 39)], some (37, false)⟩,
 ⟨some 41, .un .not (.t 40), some (37, false)⟩,
 ⟨some 42, .pick (.t 37) (.c (.bool true)) (.t 41), none⟩])
 (.cond (.t 42) (.seq (.reg [⟨some 2, .mv (.c (.bool false)), none⟩])
 .ret)
 .skip))
 (.seq (.reg [⟨some 8, .mv (.c (.int .i64 1)), none⟩])
 (.seq (.reg [⟨some 43, .load 2 true (.t 6), none⟩,
 ⟨some 44, .mv (.t 8), none⟩,
 ⟨some 45, .call 185 [(true, .t 43), (false, .t 44)], none⟩,
 ⟨some 8, .mv (.t 45), none⟩])
 (.seq (.reg [⟨some 9, .mv (.c (.int .i64 1)), none⟩])
 (.seq (.reg [⟨some 46, .load 2 true (.t 6), none⟩,
 ⟨some 47, .mv (.t 9), none⟩,
 ⟨some 48, .call 187 [(false, .t 46), (false, .t 47)], none⟩,
 ⟨some 9, .mv (.t 48), none⟩])
 (.seq (.seq (.reg [⟨some 49, .mv (.t 9), none⟩,
 ⟨some 50, .bin .lss (.t 49) (.c (.int .i64 0)), none⟩])
 (.cond (.t 50) (.seq (.reg [⟨some 2, .mv (.c (.bool false)), none⟩])
 .ret)
 .skip))
 (.seq (.seq (.reg [⟨some 51, .mv (.t 9), none⟩,
 ⟨some 52, .mv (.t 8), none⟩,
 ⟨some 53, .bin .neq (.t 51) (.t 52), none⟩])
 (.cond (.t 53) (.seq (.reg [⟨some 2, .mv (.c (.bool false)), none⟩])
 .ret)
 .skip))
 (.seq (.reg [⟨some 54, .load 2 true (.t 1), none⟩,
 ⟨some 55, .call 180 [(false, .t 54)], none⟩,
 ⟨some 56, .call 244 [(false, .t 55)], none⟩,
 ⟨some 10, .alloc 210 [.sl true 115 [], .sl true 130 []], none⟩,
 ⟨none, .store [some 115, some 130] (.t 10) (.t 56), none⟩])
 (.seq (.seq (.reg [⟨some 57, .load 2 true (.t 10), none⟩,
 ⟨some 58, .load 2 true (.t 4), none⟩,
 ⟨some 59, .call 183 [(false, .t 57), (false, .t 58)], none⟩,
 ⟨some 60, .un .not (.t 59), none⟩])
 (.cond (.t 60) (.seq (.reg [⟨some 2, .mv (.c (.bool false)), none⟩])
 .ret)
 .skip))
 (.seq (.reg [⟨some 9, .mv (.c (.int .i64 1)), none⟩])
 (.seq (.reg [⟨some 61, .load 2 true (.t 6), none⟩,
 ⟨some 62, .mv (.t 9), none⟩,
 ⟨some 63, .call 187 [(false, .t 61), (false, .t 62)], none⟩,
 ⟨some 9, .mv (.t 63), none⟩])
 (.seq (.seq (.reg [⟨some 64, .mv (.t 9), none⟩,
 ⟨some 65, .bin .lss (.t 64) (.c (.int .i64 0)), none⟩])
 (.cond (.t 65) (.seq (.reg [⟨some 2, .mv (.c (.bool false)), none⟩])
 .ret)
 .skip))
 (.seq (.seq (.reg [⟨some 66, .mv (.t 9), none⟩,
 ⟨some 67, .mv (.t 8), none⟩,
 ⟨some 68, .bin .neq (.t 66) (.t 67), none⟩])
 (.cond (.t 68) (.seq (.reg [⟨some 2, .mv (.c (.bool false)), none⟩])
 .ret)
 .skip))
 (.seq (.reg [⟨some 2, .mv (.c (.bool true)), none⟩])
 .ret)))))))))))))))))))))))))
def if_laws_FnExactRepoSweep : IFn := ⟨69, [.inl 2], ib_laws_FnExactRepoSweep, lcF []⟩
def ks_laws_FnExactRepoSweep : List (List (Option Nat)) := [[none]]
def gf_laws_FnExactRepoSweep (a0 : Repo) : Option Bool := (gf_laws_szRepo a0 1048576).bind fun x2 => if (decide (x2 < 0)) = true then (some (true)) else ((((gf_laws_toRepo a0).bind fun x5 => (gf_spec_RepoSweep x5).bind fun x11 => some (x11.commits, x11.heads) : Option ((List Commit) × (List Head)))).bind fun q4 => (gf_laws_toRepo a0).bind fun x26 => (((gf_impl_RepoSweep x26).bind fun x34 => some (x34.commits, x34.heads) : Option ((List Commit) × (List Head)))).bind fun q33 => (gf_laws_eqRepo (⟨q33.1, q33.2⟩ : Repo) (⟨q4.1, q4.2⟩ : Repo)).bind fun x59 => if (!x59) = true then (some (false)) else ((gf_laws_toRepo a0).bind fun x61 => (gf_laws_eqRepo x26 x61).bind fun x67 => if (!x67) = true then (some (false)) else ((gf_laws_markRepo x26 1).bind fun x69 => if (decide (x69.1 < 0)) = true then (some (false)) else ((gf_laws_eqRepo (⟨q33.1, q33.2⟩ : Repo) (⟨q4.1, q4.2⟩ : Repo)).bind fun x71 => if (!x71) = true then (some (false)) else ((gf_laws_markRepo (⟨q33.1, q33.2⟩ : Repo) 1).bind fun x73 => (gf_laws_heldRepo x73.2 1).bind fun x75 => if (decide (x75 < 0)) = true then (some (false)) else (if (x75 != x73.1) = true then (some (false)) else ((gf_laws_toRepo a0).bind fun x77 => (gf_impl_RepoSweep x77).bind fun x83 => (gf_laws_eqRepo x83 (⟨q4.1, q4.2⟩ : Repo)).bind fun x90 => if (!x90) = true then (some (false)) else ((gf_laws_heldRepo x73.2 1).bind fun x92 => if (decide (x92 < 0)) = true then (some (false)) else (if (x92 != x73.1) = true then (some (false)) else (some (true)))))))))))
def c_laws_FnExactRepoSweep : Con := ⟨Repo, Bool, 282, fun a => [.agg [.ro (List.map (eCommit false) a.commits), .ro (List.map eHead a.heads)]], fun a => gf_laws_FnExactRepoSweep a, fun a r => ⟨[(false, [.v (.bool r)])], []⟩, fun a => []⟩
end Go.Proofs.AM
