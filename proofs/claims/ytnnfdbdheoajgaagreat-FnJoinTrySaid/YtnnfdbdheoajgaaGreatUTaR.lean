/- The statement 'FnJoinTrySaid' of this seat: whatever the input, the law returns true and its arguments read behind the call as before. Conditions: none beyond the statement's own. -/
import Derived.Test.YtnnfdbdheoajgaaGreatUTL
import Derived.Test.YtnnfdbdheoajgaaGreatUTP
import Derived.ProofKit
import Derived.OpenShut
import Derived.ChangeOld
import Derived.Below
set_option linter.unusedVariables false
namespace Go.Proofs.YtnnfdbdheoajgaaGreat
open Go.ChangeShapes Go.WideShapes Go.ChangeAt Go.RowKit
open Go.Proofs.AM
theorem own : ownKnob Tryz.prog.godebug = none := by kernel_rfl
theorem laidOut : laidOutB Tryz.prog = true := by kernel_rfl
set_option maxRecDepth 100000 in
theorem lifted (os : Os) (started : os.Started) (H : Type) (enc : TypeId × Value → H) :
  ReturnsInHanded {} Tryz.checked os 4 .any (Rows.fnJoinTrySpec.pre6 enc Tryz.prog Tryz.f4 Rows.fnJoinTryRow.domain false) (Rows.fnJoinTrySpec.post enc Tryz.prog Tryz.f4 false true false false) := by
 refine returnsInHanded_of_change (C := Tryz.checked) own started (by kernel_rfl) Tryz.func4
  (ChangeSpec.witness6 (enc := enc) (C := Tryz.checked) false ⟨#[], #[.slice none 0 0], []⟩ 8 (by kernel_rfl) (by kernel_rfl) (by kernel_rfl) (by kernel_rfl)) ?_
 intro W base args ds gs before hval0 hW hcnd _
 have hval : ∀ (j : Nat) t v, Tryz.f4.params[j]? = some t → args[j]? = some v → Value.okWide Tryz.prog W .any base t v := hval0
 have hW' := hW
 obtain ⟨p, q, hA0, hV, rfl, hfz, hnd⟩ := hW
 have hA : DataW.TrodAll enc Tryz.prog W 0 (fun _ => true) true Tryz.f4.params.toList args.toList ds p := hA0
 rw [Tryz.params4] at hA hval
 have hlt := hW'.lt
 obtain ⟨v0, vs0, d0, ds0, p0, q0, hargs0, rfl, rfl, h0, r0⟩ := trodAll_cons hA
 obtain ⟨hargsZ, rfl, rfl⟩ := trodAll_nil r0
 subst hargsZ
 obtain rfl : args = #[v0] := by
  obtain ⟨l⟩ := args
  exact congrArg Array.mk hargs0
 obtain ⟨rfl, rfl⟩ := trodVars_none hV
 obtain ⟨x0, o0, s0⟩ := G97 (tb := tb) (F := fun k => k < W.heap.size) 257 rfl QL7 (by kernel_rfl) (hval 0 _ v0 rfl rfl) h0 (fun x hx => hlt x (by simp [hx]))
 obtain ⟨g0, g1, s0⟩ := G87 s0
 have hc : Calls Tryz.prog 4 #[v0] W _ := xs7 kh7 (x0, g0, g1) true (o97 x0 ) rfl rfl (W := W) (us := [v0]) ⟨fun _ _ h => absurd h List.not_mem_nil, fun _ _ h => absurd h List.not_mem_nil⟩ ⟨v0, _, rfl, s0, rfl⟩
 refine hc.mono fun e W' ⟨he, bel⟩ => ?_
 subst he
 refine ⟨_, rfl, zS7 (t := _) (by kernel_rfl) rfl hW' bel rfl rfl rfl rfl laidOut ?_⟩
 rw [Tryz.params4]
 intro t ht
 rcases List.mem_cons.1 ht with rfl | ht
 ·exact ⟨by kernel_rfl, of_decide_eq_true (by kernel_rfl)⟩
 cases ht
theorem proved : Rows.FnJoinTrySaid :=
 OpenClaim.holds_of_wide 4 Tryz.f4 rfl rfl rfl rfl rfl rfl rfl ⟨rfl, rfl, rfl, rfl, rfl⟩ rfl rfl rfl rfl rfl (by kernel_rfl) Tryz.func4 (by kernel_rfl)
  (of_decide_eq_true (by kernel_rfl)) (by unfold Func.isWrapper; first | (rw [if_pos (by decide +kernel)]; kernel_rfl) | (rw [if_neg (of_decide_eq_false (by kernel_rfl))]; exact ⟨rfl, rfl⟩))
  (fun os started H enc _ => lifted os started H enc)
#print axioms proved
end Go.Proofs.YtnnfdbdheoajgaaGreat
