/- The statement 'FnExactJoinTrySaid' of this seat: whatever the input, the law returns true and its arguments read behind the call as before. Conditions: none beyond the statement's own. -/
import Derived.Test.YtnnfdbdheoajgabGreatTJL
import Derived.Test.YtnnfdbdheoajgabGreatTJP
import Derived.ProofKit
import Derived.OpenShut
import Derived.ChangeOld
import Derived.Below
set_option linter.unusedVariables false
namespace Go.Proofs.YtnnfdbdheoajgabGreat
open Go.ChangeShapes Go.WideShapes Go.ChangeAt Go.RowKit
open Go.Proofs.AM
theorem own : ownKnob Tryz.prog.godebug = none := by kernel_rfl
theorem laidOut : laidOutB Tryz.prog = true := by kernel_rfl
set_option maxRecDepth 100000 in
theorem lifted (os : Os) (started : os.Started) (H : Type) (enc : TypeId × Value → H) :
  ReturnsInHanded {} Tryz.checked os 3 .any (Rows.fnExactJoinTrySpec.pre6 enc Tryz.prog Tryz.f3 Rows.fnExactJoinTryRow.domain false) (Rows.fnExactJoinTrySpec.post enc Tryz.prog Tryz.f3 false true false false) := by
 refine returnsInHanded_of_change (C := Tryz.checked) own started (by kernel_rfl) Tryz.func3
  (ChangeSpec.witness6 (enc := enc) (C := Tryz.checked) false ⟨#[], #[.agg #[.slice none 0 0, .slice none 0 0], .int .i64 0, .int .i64 0], []⟩ 8 (by kernel_rfl) (by kernel_rfl) (by kernel_rfl) (by kernel_rfl)) ?_
 intro W base args ds gs before hval0 hW hcnd _
 have hval : ∀ (j : Nat) t v, Tryz.f3.params[j]? = some t → args[j]? = some v → Value.okWide Tryz.prog W .any base t v := hval0
 have hW' := hW
 obtain ⟨p, q, hA0, hV, rfl, hfz, hnd⟩ := hW
 have hA : DataW.TrodAll enc Tryz.prog W 0 (fun _ => true) true Tryz.f3.params.toList args.toList ds p := hA0
 rw [Tryz.params3] at hA hval
 have hlt := hW'.lt
 obtain ⟨v0, vs0, d0, ds0, p0, q0, hargs0, rfl, rfl, h0, r0⟩ := trodAll_cons hA
 obtain ⟨v1, vs1, d1, ds1, p1, q1, hargs1, rfl, rfl, h1, r1⟩ := trodAll_cons r0
 obtain ⟨v2, vs2, d2, ds2, p2, q2, hargs2, rfl, rfl, h2, r2⟩ := trodAll_cons r1
 obtain ⟨hargsZ, rfl, rfl⟩ := trodAll_nil r2
 subst hargsZ
 subst hargs2
 subst hargs1
 obtain rfl : args = #[v0, v1, v2] := by
  obtain ⟨l⟩ := args
  exact congrArg Array.mk hargs0
 obtain ⟨rfl, rfl⟩ := trodVars_none hV
 obtain ⟨x0, o0, s0⟩ := arg_st (tb := tb) (F := fun k => k < W.heap.size) d_Repo (by kernel_rfl) (hval 0 _ v0 rfl rfl) h0 (fun x hx => hlt x (by simp [hx]))
 obtain ⟨x1, o1, s1⟩ := arg_int (tb := tb) (F := fun k => k < W.heap.size) (by kernel_rfl) (hval 1 _ v1 rfl rfl) h1 (fun x hx => hlt x (by simp [hx]))
 obtain ⟨x2, o2, s2⟩ := arg_int (tb := tb) (F := fun k => k < W.heap.size) (by kernel_rfl) (hval 2 _ v2 rfl rfl) h2 (fun x hx => hlt x (by simp [hx]))
 have hc : Calls Tryz.prog 3 #[v0, v1, v2] W _ := law_calls g_laws_FnExactJoinTry (x0, x1, x2) true (law_FnExactJoinTry x0 x1 x2 o0 o1 o2) rfl rfl (W := W) (us := [v0, v1, v2]) ⟨fun _ _ h => absurd h List.not_mem_nil, fun _ _ h => absurd h List.not_mem_nil⟩ ⟨v0, _, rfl, s0, ⟨v1, _, rfl, s1, ⟨v2, _, rfl, s2, rfl⟩⟩⟩
 refine hc.mono fun e W' ⟨he, bel⟩ => ?_
 subst he
 refine ⟨_, rfl, law_post (t := _) (by kernel_rfl) rfl hW' bel rfl rfl rfl rfl laidOut ?_⟩
 rw [Tryz.params3]
 intro t ht
 rcases List.mem_cons.1 ht with rfl | ht
 ·exact ⟨by kernel_rfl, of_decide_eq_true (by kernel_rfl)⟩
 rcases List.mem_cons.1 ht with rfl | ht
 ·exact ⟨by kernel_rfl, of_decide_eq_true (by kernel_rfl)⟩
 rcases List.mem_cons.1 ht with rfl | ht
 ·exact ⟨by kernel_rfl, of_decide_eq_true (by kernel_rfl)⟩
 cases ht
theorem proved : Rows.FnExactJoinTrySaid :=
 OpenClaim.holds_of_wide 3 Tryz.f3 rfl rfl rfl rfl rfl rfl rfl ⟨rfl, rfl, rfl, rfl, rfl⟩ rfl rfl rfl rfl rfl (by kernel_rfl) Tryz.func3 (by kernel_rfl)
  (of_decide_eq_true (by kernel_rfl)) (by unfold Func.isWrapper; first | (rw [if_pos (by decide +kernel)]; kernel_rfl) | (rw [if_neg (of_decide_eq_false (by kernel_rfl))]; exact ⟨rfl, rfl⟩))
  (fun os started H enc _ => lifted os started H enc)
#print axioms proved
end Go.Proofs.YtnnfdbdheoajgabGreat
