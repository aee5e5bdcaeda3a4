/- Lemmas of the proof (QCS), on an abstract machine. Conditions: none. -/
import Derived.Test.YtodmjmkakgamlaaGreatHU
import Derived.Shelf.SlSortCmp.NoneTotal
import Derived.Test.YtodmjmkakgamlaaGreatRows
set_option linter.unusedVariables false
set_option maxRecDepth 100000
namespace Go.Proofs.YtodmjmkakgamlaaGreat
open Go.Proofs.AM Go.Proofs Go.RowKit Go.Sort Go.Shelf
theorem mix : Tryz.prog.follows .mixedOrders = true := by kernel_rfl
def rsF : Go.Shelf.Ren := ⟨fun | 6 => 70 | 14 => 124 | 15 => 125 | 20 => 159 | 21 => 160 | 22 => 161 | 23 => 162 | 24 => 163 | 25 => 164 | 26 => 165 | 27 => 166 | 28 => 167 | 29 => 168 | 46 => 187 | 47 => 188 | 48 => 189 | 49 => 190 | 50 => 191 | 57 => 210 | n => n, fun | 0 => 0 | 3 => 3 | 4 => 4 | 5 => 5 | 9 => 9 | 22 => 63 | 24 => 106 | 25 => 116 | 39 => 161 | 45 => 196 | 46 => 197 | 50 => 201 | 53 => 204 | 55 => 206 | 66 => 216 | 70 => 220 | 76 => 234 | 77 => 235 | n => n, fun n => n⟩
theorem sortL : Go.Proofs.SlLaysF0.n6 Tryz.prog rsF := {
 mixed := mix,
 f6 := ⟨Tryz.f70.name, by decide, by kernel_rfl⟩,
 f14 := ⟨Tryz.f124.name, by decide, by kernel_rfl⟩,
 f15 := by kernel_rfl,
 f20 := ⟨Tryz.f159.name, by decide, by kernel_rfl⟩,
 f21 := ⟨Tryz.f160.name, by decide, by kernel_rfl⟩,
 f22 := ⟨Tryz.f161.name, by decide, by kernel_rfl⟩,
 f23 := ⟨Tryz.f162.name, by decide, by kernel_rfl⟩,
 f24 := ⟨Tryz.f163.name, by decide, by kernel_rfl⟩,
 f25 := ⟨Tryz.f164.name, by decide, by kernel_rfl⟩,
 f26 := ⟨Tryz.f165.name, by decide, by kernel_rfl⟩,
 f27 := ⟨Tryz.f166.name, by decide, by kernel_rfl⟩,
 f28 := by kernel_rfl,
 f29 := by kernel_rfl,
 f46 := ⟨Tryz.f187.name, by decide, by kernel_rfl⟩,
 f47 := by kernel_rfl,
 f48 := by kernel_rfl,
 f49 := ⟨Tryz.f190.name, by decide, by kernel_rfl⟩,
 f50 := ⟨Tryz.f191.name, by decide, by kernel_rfl⟩,
 f57 := ⟨Tryz.f210.name, by decide, by kernel_rfl⟩,
 t0 := by kernel_rfl,
 a0 := fun w => by kernel_rfl,
 z0 := fun w => by kernel_rfl,
 v0 := fun w => by kernel_rfl,
 t3 := by kernel_rfl,
 a3 := fun w => by kernel_rfl,
 z3 := fun w => by kernel_rfl,
 v3 := fun w => by kernel_rfl,
 t4 := by kernel_rfl,
 a4 := fun w => by kernel_rfl,
 z4 := fun w => by kernel_rfl,
 v4 := fun w => by kernel_rfl,
 t5 := by kernel_rfl,
 a5 := fun w => by kernel_rfl,
 z5 := fun w => by kernel_rfl,
 v5 := fun w => by kernel_rfl,
 t9 := by kernel_rfl,
 a9 := fun w => by kernel_rfl,
 z9 := fun w => by kernel_rfl,
 v9 := fun w => by kernel_rfl,
 t22 := by kernel_rfl,
 a22 := fun w => by kernel_rfl,
 z22 := fun w => by kernel_rfl,
 v22 := fun w => by kernel_rfl,
 t25 := by kernel_rfl,
 a25 := fun w => by kernel_rfl,
 z25 := fun w => by kernel_rfl,
 v25 := fun w => by kernel_rfl,
 t39 := by kernel_rfl,
 a39 := fun w => by kernel_rfl,
 z39 := fun w => by kernel_rfl,
 v39 := fun w => by kernel_rfl,
 t45 := by kernel_rfl,
 a45 := fun w => by kernel_rfl,
 z45 := fun w => by kernel_rfl,
 v45 := fun w => by kernel_rfl,
 t46 := by kernel_rfl,
 a46 := fun w => by kernel_rfl,
 z46 := fun w => by kernel_rfl,
 v46 := fun w => by kernel_rfl,
 t50 := by kernel_rfl,
 a50 := fun w => by kernel_rfl,
 z50 := fun w => by kernel_rfl,
 v50 := fun w => by kernel_rfl,
 t53 := by kernel_rfl,
 a53 := fun w => by kernel_rfl,
 z53 := fun w => by kernel_rfl,
 v53 := fun w => by kernel_rfl,
 t55 := by kernel_rfl,
 a55 := fun w => by kernel_rfl,
 z55 := fun w => by kernel_rfl,
 v55 := fun w => by kernel_rfl,
 t66 := by kernel_rfl,
 a66 := fun w => by kernel_rfl,
 z66 := fun w => by kernel_rfl,
 v66 := fun w => by kernel_rfl,
 t70 := by kernel_rfl,
 a70 := fun w => by kernel_rfl,
 z70 := fun w => by kernel_rfl,
 v70 := fun w => by kernel_rfl,
 t76 := by kernel_rfl,
 a76 := fun w => by kernel_rfl,
 z76 := fun w => by kernel_rfl,
 v76 := fun w => by kernel_rfl,
 t77 := by kernel_rfl,
 a77 := fun w => by kernel_rfl,
 z77 := fun w => by kernel_rfl,
 v77 := fun w => by kernel_rfl }
def cmp_71 (a b : Str) : Int := if slt a b = true then -1 else 1
theorem cmpl_71 (a b : Str) : decide (cmp_71 a b < 0) = slt a b := by
 unfold cmp_71
 cases h : slt a b <;> simp
set_option maxHeartbeats 1000000 in
theorem cmpc_71 (a b : Str) (u1 u2 u3 v1 v2 v3 : Value) (W : World) : Calls Tryz.prog 71 #[.agg #[.string a, u1, u2, u3], .agg #[.string b, v1, v2, v3]] W fun e w' => e = .returned (.int .i64 (cmp_71 a b)) ∧ ∃ q os', w' = Go.Sort.grow (W.drewN q) os' := by
 have hr : (Op.bytesLess a.toList b.toList = true → cmp_71 a b = -1) ∧ (Op.bytesLess a.toList b.toList = false → cmp_71 a b = 1) := ⟨fun h => if_pos h, fun h => if_neg (by rw [show slt a b = _ from h]; decide)⟩
 generalize cmp_71 a b = r at hr
 go_enter Tryz.func71, Tryz.ntmps71
 go_wp2
 all_goals rename_i h
 ·rw [hr.1 h]
  go_ret
  exact ⟨rfl, 0, _, by rw [alloc_eq_grow, alloc_eq_grow, grow_grow]; rfl⟩
 ·rw [hr.2 h]
  go_ret
  exact ⟨rfl, 0, _, by rw [alloc_eq_grow, alloc_eq_grow, grow_grow]; rfl⟩
theorem sort_71 {tb : Tab} {f h : Nat} (hf : tb.fn f = 70) (hh : tb.fn h = 71) : GoodC Tryz.prog tb (sortCon f h) := by
 refine sortF_good sortL hf (by rw [hf]; kernel_rfl) (fun w => by kernel_rfl) (fun w => by kernel_rfl) cmp_71 cmpl_71 ?_ (fun p cap fv w => AnyF.slices_SortFunc_none { sortL with } p cap fv w) ?_
 ·rw [hh]
  exact enters_of Tryz.func71 (by kernel_rfl) rfl
 ·rw [hh]
  exact cmpc_71
end Go.Proofs.YtodmjmkakgamlaaGreat
