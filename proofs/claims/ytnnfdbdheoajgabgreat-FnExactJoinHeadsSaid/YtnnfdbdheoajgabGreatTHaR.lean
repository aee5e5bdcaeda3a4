/- The statement 'FnExactJoinHeadsSaid' of this seat: whatever the input, the law returns true and its arguments read behind the call as before. Conditions: none beyond the statement's own. -/
import Derived.Test.YtnnfdbdheoajgabGreatTHL
import Derived.Test.YtnnfdbdheoajgabGreatTHP
import Derived.ProofKit
import Derived.OpenShut
import Derived.ChangeOld
import Derived.Below
set_option linter.unusedVariables false
namespace Go.Proofs.YtnnfdbdheoajgabGreat
open Go.ChangeShapes Go.WideShapes Go.ChangeAt Go.RowKit
open Go.Proofs.AM
theorem own : ownKnob Tryz.prog.godebug = none := by kernel_rfl
theorem laidOut : laidOutB Tryz.prog = true := by kernel_rfl
set_option maxRecDepth 100000 in
theorem lifted (os : Os) (started : os.Started) (H : Type) (enc : TypeId × Value → H) :
  ReturnsInHanded {} Tryz.checked os 4 .any (Rows.fnExactJoinHeadsSpec.pre6 enc Tryz.prog Tryz.f4 Rows.fnExactJoinHeadsRow.domain false) (Rows.fnExactJoinHeadsSpec.post enc Tryz.prog Tryz.f4 false true false false) := by
 refine returnsInHanded_of_change (C := Tryz.checked) own started (by kernel_rfl) Tryz.func4
  (ChangeSpec.witness6 (enc := enc) (C := Tryz.checked) false ⟨#[], #[.agg #[.slice none 0 0, .slice none 0 0], .string ⟨#[]⟩, .string ⟨#[]⟩, .string ⟨#[]⟩], []⟩ 8 (by kernel_rfl) (by kernel_rfl) (by kernel_rfl) (by kernel_rfl)) ?_
 intro W base args ds gs before hval0 hW hcnd _
 have hval : ∀ (j : Nat) t v, Tryz.f4.params[j]? = some t → args[j]? = some v → Value.okWide Tryz.prog W .any base t v := hval0
 have hW' := hW
 obtain ⟨p, q, hA0, hV, rfl, hfz, hnd⟩ := hW
 have hA : DataW.TrodAll enc Tryz.prog W 0 (fun _ => true) true Tryz.f4.params.toList args.toList ds p := hA0
 rw [Tryz.params4] at hA hval
 have hlt := hW'.lt
 obtain ⟨v0, vs0, d0, ds0, p0, q0, hargs0, rfl, rfl, h0, r0⟩ := trodAll_cons hA
 obtain ⟨v1, vs1, d1, ds1, p1, q1, hargs1, rfl, rfl, h1, r1⟩ := trodAll_cons r0
 obtain ⟨v2, vs2, d2, ds2, p2, q2, hargs2, rfl, rfl, h2, r2⟩ := trodAll_cons r1
 obtain ⟨v3, vs3, d3, ds3, p3, q3, hargs3, rfl, rfl, h3, r3⟩ := trodAll_cons r2
 obtain ⟨hargsZ, rfl, rfl⟩ := trodAll_nil r3
 subst hargsZ
 subst hargs3
 subst hargs2
 subst hargs1
 obtain rfl : args = #[v0, v1, v2, v3] := by
  obtain ⟨l⟩ := args
  exact congrArg Array.mk hargs0
 obtain ⟨rfl, rfl⟩ := trodVars_none hV
 obtain ⟨x0, o0, s0⟩ := Jm7 (tb := tb) (F := fun k => k < W.heap.size) Jl7 (by kernel_rfl) (hval 0 _ v0 rfl rfl) h0 (fun x hx => hlt x (by simp [hx]))
 obtain ⟨x1, o1, s1⟩ := s27 (tb := tb) (F := fun k => k < W.heap.size) (by kernel_rfl) (hval 1 _ v1 rfl rfl) h1 (fun x hx => hlt x (by simp [hx]))
 obtain ⟨x2, o2, s2⟩ := s27 (tb := tb) (F := fun k => k < W.heap.size) (by kernel_rfl) (hval 2 _ v2 rfl rfl) h2 (fun x hx => hlt x (by simp [hx]))
 obtain ⟨x3, o3, s3⟩ := s27 (tb := tb) (F := fun k => k < W.heap.size) (by kernel_rfl) (hval 3 _ v3 rfl rfl) h3 (fun x hx => hlt x (by simp [hx]))
 have hc : Calls Tryz.prog 4 #[v0, v1, v2, v3] W _ := yu7 fH7 (x0, x1, x2, x3) true (g97 x0 x1 x2 x3 o0 o1 o2 o3) rfl rfl (W := W) (us := [v0, v1, v2, v3]) ⟨fun _ _ h => absurd h List.not_mem_nil, fun _ _ h => absurd h List.not_mem_nil⟩ ⟨v0, _, rfl, s0, ⟨v1, _, rfl, s1, ⟨v2, _, rfl, s2, ⟨v3, _, rfl, s3, rfl⟩⟩⟩⟩
 refine hc.mono fun e W' ⟨he, bel⟩ => ?_
 subst he
 refine ⟨_, rfl, AZ7 (t := _) (by kernel_rfl) rfl hW' bel rfl rfl rfl rfl laidOut ?_⟩
 rw [Tryz.params4]
 intro t ht
 rcases List.mem_cons.1 ht with rfl | ht
 ·exact ⟨by kernel_rfl, of_decide_eq_true (by kernel_rfl)⟩
 rcases List.mem_cons.1 ht with rfl | ht
 ·exact ⟨by kernel_rfl, of_decide_eq_true (by kernel_rfl)⟩
 rcases List.mem_cons.1 ht with rfl | ht
 ·exact ⟨by kernel_rfl, of_decide_eq_true (by kernel_rfl)⟩
 rcases List.mem_cons.1 ht with rfl | ht
 ·exact ⟨by kernel_rfl, of_decide_eq_true (by kernel_rfl)⟩
 cases ht
theorem proved : Rows.FnExactJoinHeadsSaid :=
 OpenClaim.holds_of_wide 4 Tryz.f4 rfl rfl rfl rfl rfl rfl rfl ⟨rfl, rfl, rfl, rfl, rfl⟩ rfl rfl rfl rfl rfl (by kernel_rfl) Tryz.func4 (by kernel_rfl)
  (of_decide_eq_true (by kernel_rfl)) (by unfold Func.isWrapper; first | (rw [if_pos (by decide +kernel)]; kernel_rfl) | (rw [if_neg (of_decide_eq_false (by kernel_rfl))]; exact ⟨rfl, rfl⟩))
  (fun os started H enc _ => lifted os started H enc)
#print axioms proved
end Go.Proofs.YtnnfdbdheoajgabGreat
