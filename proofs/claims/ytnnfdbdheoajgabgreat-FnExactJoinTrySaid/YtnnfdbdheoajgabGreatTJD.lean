/- Lemmas of the proof (TJD), on an abstract machine. Conditions: none. -/
import Derived.Test.YtnnfdbdheoajgabGreatTJC0
set_option linter.unusedVariables false
set_option maxRecDepth 100000
set_option maxHeartbeats 4000000
namespace Go.Proofs.AM
attribute [local irreducible] vwp vstps vstpLs vstp vdo vret kseq kblk kloop kend kcut kloop2 frzV renV shutK pfzV trnV unrV
def if_bt9 : IFn := ⟨143, [.inl 6],
 (Rs [Io (.box 466 [some 387, some 402] (.t 0)) 3, Kb false 6]
 (Rs [Ki 1048576 7]
 (Rs (sq 21 [La 2 3, Mv 7, Ca 179 [21, 22]] [Mv 23 7])
 (.seq (Rs (sq 24 [Mv 7, Bk .lss 24 0] [])
 (Ct 25 (Rs [Kb true 6]
 .ret)
 .skip))
 (Rs (sq 27 [La 2 3, Ca 180 [27], Mv 1, Mv 2, Ca 59 [28, 29, 30]] (Mv 31 26 :: (sq 32 [Xt 26 0, Xt 26 1, Xt 26 2] (sq 8 [Mv 32, Mv 33, Mv 34] []))))
 (seqC (.reg (sq 35 [La 2 3, Ca 180 [35]] [Io (.alloc 210 [.sl true 115 [], .sl true 130 []]) 11, Sv [some 115, some 130] 11 36]))
 (Rs (sq 38 [La 2 11, Mv 1, Mv 2, Ca 151 [38, 39, 40]] (Mv 41 37 :: (sq 42 [Xt 37 0, Xt 37 1, Xt 37 2] (sq 12 [Mv 42, Mv 43, Mv 44] []))))
 (.seq (Rs (sq 45 [Mv 12, Mv 8, Ca 160 [45, 46], Nt 47, Mv 48] (Sf 49 50 [Mv 13, Mv 9, Ca 184 [50, 51], Nt 52] (sq 54 [Pk 49 53, Mv 54] (Sf 55 56 [Mv 14, Mv 10, Io (.eqs true false [1] (.t 56) (.t 57))] [Pk 55 58 59]))))
 (Ct 59 (Rs [Kb false 6]
 .ret)
 .skip))
 (.seq (.seq (.drw (sq 60 [La 2 11, La 2 3, Ca 180 [61], Ca 183 [60, 62], Nt 63] []) [(0, 1), (0, 2)])
 (Ct 64 (Rs [Kb false 6]
 .ret)
 .skip))
 (Rs [Ki 1 15]
 (Rs (sq 65 [La 2 11, Mv 15, Io (.call 185 [(true, .t 65), (false, .t 66)])] [Mv 67 15])
 (.seq (Rs (sq 68 [Mv 15, Bk .lss 68 0, Mv 69] (Sf 70 71 [Mv 12, Mv 8, Ca 160 [71, 72], Nt 73] (sq 75 [Pk 70 74, Mv 75] (Sf 76 77 [Mv 13, Mv 9, Ca 184 [77, 78], Nt 79] (sq 81 [Pk 76 80, Mv 81] (Sf 82 83 [Mv 14, Mv 10, Io (.eqs true false [1] (.t 83) (.t 84))] [Pk 82 85 86]))))))
 (Ct 86 (Rs [Kb false 6]
 .ret)
 .skip))
 (Rs [Ki 1 16]
 (seqC (.reg (sq 87 [Mv 12, Mv 16, Io (.call 170 [(true, .t 87), (false, .t 88)])] [Mv 89 16]))
 (Rs (sq 90 [Mv 13, Mv 16, Io (.call 186 [(true, .t 90), (false, .t 91)])] [Mv 92 16])
 (Rs [Ki 1 17]
 (Rs (sq 93 [Mv 12, Mv 17, Ca 176 [93, 94]] [Mv 95 17])
 (.seq (Rs (sq 96 [Mv 17, Bk .lss 96 0] [])
 (Ct 97 (Rs [Kb false 6]
 .ret)
 .skip))
 (Rs (sq 98 [Mv 13, Mv 17, Ca 188 [98, 99]] [Mv 100 17])
 (.seq (Rs (sq 101 [Mv 17, Bk .lss 101 0] [])
 (Ct 102 (Rs [Kb false 6]
 .ret)
 .skip))
 (.seq (Rs (sq 103 [Mv 17, Mv 16, Bb .neq 103 104] [])
 (Ct 105 (Rs [Kb false 6]
 .ret)
 .skip))
 (Rs (sq 107 [La 2 3, Ca 180 [107], Mv 1, Mv 2, Ca 151 [108, 109, 110]] (Mv 111 106 :: (sq 112 [Xt 106 0, Xt 106 1, Xt 106 2] (sq 18 [Mv 112, Mv 113, Mv 114] []))))
 (.seq (Rs (sq 115 [Mv 18, Mv 8, Ca 160 [115, 116], Nt 117, Mv 118] (Sf 119 120 [Mv 19, Mv 9, Ca 184 [120, 121], Nt 122] (sq 124 [Pk 119 123, Mv 124] (Sf 125 126 [Mv 20, Mv 10, Io (.eqs true false [1] (.t 126) (.t 127))] [Pk 125 128 129]))))
 (Ct 129 (Rs [Kb false 6]
 .ret)
 .skip))
 (Rs [Ki 1 17]
 (Rs (sq 130 [Mv 12, Mv 17, Ca 176 [130, 131]] [Mv 132 17])
 (.seq (Rs (sq 133 [Mv 17, Bk .lss 133 0] [])
 (Ct 134 (Rs [Kb false 6]
 .ret)
 .skip))
 (Rs (sq 135 [Mv 13, Mv 17, Ca 188 [135, 136]] [Mv 137 17])
 (.seq (Rs (sq 138 [Mv 17, Bk .lss 138 0] [])
 (Ct 139 (Rs [Kb false 6]
 .ret)
 .skip))
 (.seq (Rs (sq 140 [Mv 17, Mv 16, Bb .neq 140 141] [])
 (Ct 142 (Rs [Kb false 6]
 .ret)
 .skip))
 (Rs [Kb true 6]
 .ret)))))))))))))))))))))))))))))), lcF []⟩
def ks_bt9 : List (List (Option Nat)) := [[none]]
def gf_bt9 (a0 : Repo) (a1 : Int) (a2 : Int) : Option Bool := (gf_de9 a0 1048576).bind fun x2 => if (decide (x2 < 0)) = true then (some (true)) else ((gf_dr9 a0).bind fun x4 => (gf_ev9 x4 a1 a2).bind fun x10 => (((gf_dr9 a0).bind fun x17 => some (x17.commits, x17.heads) : Option ((List Commit) × (List Head)))).bind fun q16 => (gf_ah9 (⟨q16.1, q16.2⟩ : Repo) a1 a2).bind fun x31 => (gf_bz9 x31.1 x10.1).bind fun x37 => if (!x37) = true then (some (false)) else ((gf_bv9 x31.2.1 x10.2.1).bind fun x39 => if (!x39) = true then (some (false)) else (if (!(x31.2.2 == x10.2.2)) = true then (some (false)) else ((gf_dr9 a0).bind fun x41 => (gf_cf9 (⟨q16.1, q16.2⟩ : Repo) x41).bind fun x47 => if (!x47) = true then (some (false)) else ((gf_ct9 (⟨q16.1, q16.2⟩ : Repo) 1).bind fun x49 => if (decide (x49.1 < 0)) = true then (some (false)) else ((gf_bz9 x31.1 x10.1).bind fun x51 => if (!x51) = true then (some (false)) else ((gf_bv9 x31.2.1 x10.2.1).bind fun x53 => if (!x53) = true then (some (false)) else (if (!(x31.2.2 == x10.2.2)) = true then (some (false)) else ((((gf_cp9 x31.1 1).bind fun x56 => some (x56.1, x56.2) : Option (Int × (List Feat)))).bind fun q55 => (gf_cn9 x31.2.1 q55.1).bind fun x62 => (gf_ck9 q55.2 1).bind fun x64 => if (decide (x64 < 0)) = true then (some (false)) else ((gf_cj9 x62.2 x64).bind fun x66 => if (decide (x66 < 0)) = true then (some (false)) else (if (x66 != x62.1) = true then (some (false)) else ((gf_dr9 a0).bind fun x68 => (gf_ah9 x68 a1 a2).bind fun x74 => (gf_bz9 x74.1 x10.1).bind fun x80 => if (!x80) = true then (some (false)) else ((gf_bv9 x74.2.1 x10.2.1).bind fun x82 => if (!x82) = true then (some (false)) else (if (!(x74.2.2 == x10.2.2)) = true then (some (false)) else ((gf_ck9 q55.2 1).bind fun x84 => if (decide (x84 < 0)) = true then (some (false)) else ((gf_cj9 x62.2 x84).bind fun x86 => if (decide (x86 < 0)) = true then (some (false)) else (if (x86 != x62.1) = true then (some (false)) else (some (true)))))))))))))))))))
def c_bt9 : Con := ⟨Repo × Int × Int, Bool, 311, fun a => [.agg [.ro (List.map (eCommit false) a.1.commits), .ro (List.map eHead a.1.heads)], .v (.int .i64 a.2.1), .v (.int .i64 a.2.2)], fun a => gf_bt9 a.1 a.2.1 a.2.2, fun a r => ⟨[(false, [.v (.bool r)])], []⟩, fun a => []⟩
end Go.Proofs.AM
