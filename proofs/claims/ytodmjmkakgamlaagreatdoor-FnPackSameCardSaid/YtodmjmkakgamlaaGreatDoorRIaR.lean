/- The statement 'FnPackSameCardSaid' of this seat: whatever the input, the law returns true and its arguments read behind the call as before. Conditions: none beyond the statement's own. -/
import Derived.Test.YtodmjmkakgamlaaGreatDoorRIL
import Derived.Test.YtodmjmkakgamlaaGreatDoorRIP
import Derived.Test.YtodmjmkakgamlaaGreatDoorLD
import Derived.ProofKit
import Derived.OpenShut
import Derived.ChangeOld
import Derived.Below
import Derived.SevenTiedAt
import Derived.Test.YtodmjmkakgamlaaGreatDoorCards
import Derived.Test.YtodmjmkakgamlaaGreatDoorTie
set_option linter.unusedVariables false
namespace Go.Proofs.YtodmjmkakgamlaaGreatDoor
open Go.ChangeShapes Go.WideShapes Go.ChangeAt Go.RowKit
open Go.Proofs.AM
theorem own : ownKnob Tryz.prog.godebug = none := by kernel_rfl
theorem laidOut : laidOutB Tryz.prog = true := by kernel_rfl
theorem door_met (os : Os) (args : Array Value) : laidMetH Tryz.prog Rows.fnPackSameRow.laid ((World.doorLaid Tryz.prog 600 os).forCall (fun _ _ => 0) ⟨#[], args, []⟩).memory :=
 laidMetH_of_parts3 (fuel := 12) (laidMet_of_run' 12 (by kernel_rfl) (by kernel_rfl)) (by kernel_rfl) (by kernel_rfl)
theorem of_laid {W : World} (h : laidMetH Tryz.prog Rows.fnPackSameRow.laid W) : GlOk tb (fun k => k < W.heap.size) W := by
 rw [MakeChecks.laidMetH_plain _ _ _ (by kernel_rfl)] at h
 obtain ⟨ps, ⟨a0, t0, cs0, f0, p0, q0, hg0, ht0, hv0, hd0, ⟨a1, t1, cs1, f1, p1, q1, hg1, ht1, hv1, hd1, ⟨a2, t2, cs2, f2, p2, q2, hg2, ht2, hv2, hd2, ⟨a3, t3, cs3, f3, p3, q3, hg3, ht3, hv3, hd3, _, _⟩, _⟩, _⟩, _⟩, _, _⟩ := h
 obtain rfl := Option.some.inj ((show _ = some 1 by kernel_rfl : _ = some 1).symm.trans hg2)
 obtain rfl := Option.some.inj ((show _ = some 0 by kernel_rfl : _ = some 0).symm.trans hg3)
 obtain rfl := Option.some.inj ((show _ = some 173 by kernel_rfl : _ = some 173).symm.trans ht2)
 obtain rfl := Option.some.inj ((show _ = some 73 by kernel_rfl : _ = some 73).symm.trans ht3)
 have hc2 := Go.Lib.cells_of_tab (k := .u64) (zs := Go.Lib.pow10Tab) (n := 20) Tryz.underlying173 (by kernel_rfl) (by kernel_rfl) (by kernel_rfl) hd2
 have e2 : cs2 = (Go.Lib.pow10Tab.map fun z => Value.int .u64 z).toArray := by
  apply Array.ext'
  rw [hc2]
 subst e2
 refine ⟨fun g ss hm => ?_, fun g cs hm => ?_⟩
 ·obtain ⟨rfl, rfl⟩ : g = 0 ∧ ss = shNames := by
   have hm : (g, ss) ∈ [(0, shNames)] := hm
   simpa using hm
  exact gl_names (by decide) hg3 hv3 Tryz.underlying73 (by kernel_rfl) (by kernel_rfl) hd3
 ·obtain ⟨rfl, rfl⟩ : g = 1 ∧ cs = (Go.Lib.pow10Tab.map fun z => Value.int .u64 z).toArray := by
   have hm : (g, cs) ∈ [(1, (Go.Lib.pow10Tab.map fun z => Value.int .u64 z).toArray)] := hm
   simpa using hm
  exact var_obj hg2 hv2
set_option maxRecDepth 100000 in
theorem lifted (os : Os) (started : os.Started) (H : Type) (enc : TypeId × Value → H) :
  ReturnsInHanded {} Tryz.checked os 3 .any (fun w args => (Rows.fnPackSameSpec.pre enc Tryz.prog Tryz.f3 [] false w args ∧ laidMetH Tryz.prog Rows.fnPackSameRow.laid w) ∧ sizedMet enc Tryz.prog Tryz.f3 (OpenSpec.ofChange Rows.fnPackSameSpec) false w args) (Rows.fnPackSameSpec.post enc Tryz.prog Tryz.f3 false true false false) := by
 refine returnsInHanded_of_change_and (C := Tryz.checked) (X := fun w _ => laidMetH Tryz.prog Rows.fnPackSameRow.laid w) (fun _ _ _ hh h => h.of_heap hh) own started (by kernel_rfl) Tryz.func3
  (ChangeSpec.witness_shaped (enc := enc) (C := Tryz.checked) (os := os) (X := fun w _ => laidMetH Tryz.prog Rows.fnPackSameRow.laid w) false (World.doorLaid Tryz.prog 600 os) #[.slice none 0 0] 12 rfl (World.shaped_of_RefB (by kernel_rfl) (by kernel_rfl)) (by kernel_rfl) (by kernel_rfl) (by kernel_rfl) (door_met os _)) ?_
 intro W base args ds gs before hval0 hW _ _ hL _
 have hval : ∀ (j : Nat) t v, Tryz.f3.params[j]? = some t → args[j]? = some v → Value.okWide Tryz.prog W .any base t v := hval0
 have hW' := hW
 obtain ⟨p, q, hA0, hV, rfl, hfz, hnd⟩ := hW
 have hA : DataW.TrodAll enc Tryz.prog W 0 (fun _ => true) true Tryz.f3.params.toList args.toList ds p := hA0
 rw [Tryz.params3] at hA hval
 have hlt := hW'.lt
 obtain ⟨v0, vs0, d0, ds0, p0, q0, hargs0, rfl, rfl, h0, r0⟩ := trodAll_cons hA
 obtain ⟨hargsZ, rfl, rfl⟩ := trodAll_nil r0
 subst hargsZ
 obtain rfl : args = #[v0] := by
  obtain ⟨l⟩ := args
  exact congrArg Array.mk hargs0
 obtain ⟨x0, o0, s0⟩ := arg_sl (tb := tb) (F := fun k => k < W.heap.size) 257 rfl d_u8 (by kernel_rfl) (hval 0 _ v0 rfl rfl) h0 (fun x hx => hlt x (by simp [hx]))
 obtain ⟨g0, g1, s0⟩ := raw_of s0
 have hc : Calls Tryz.prog 3 #[v0] W _ := law_calls g_laws_FnPackSame (x0, g0, g1) true (law_FnPackSame x0 ) rfl rfl (W := W) (hgl := of_laid hL) (us := [v0]) ⟨v0, _, rfl, s0, rfl⟩
 refine hc.mono fun e W' ⟨he, bel⟩ => ?_
 subst he
 obtain ⟨gv, rfl⟩ : ∃ gv, gs = [gv] := by
  cases gs with
  | nil => exact absurd hV (by simp [Rows.fnPackSameSpec, DataW.TrodVars])
  | cons gv gs => cases gs with
   | nil => exact ⟨gv, rfl⟩
   | cons _ _ =>
    exfalso
    obtain ⟨_, _, _, _, _, _, _, _, _, _, h5, _⟩ := hV
    exact h5
 refine ⟨_, rfl, law_postV (t := _) (tv := 73) (g := 0) (by kernel_rfl) rfl hW' bel rfl (by kernel_rfl) (by kernel_rfl) ⟨by kernel_rfl, of_decide_eq_true (by kernel_rfl)⟩ rfl rfl rfl laidOut ?_⟩
 rw [Tryz.params3]
 intro t ht
 rcases List.mem_cons.1 ht with rfl | ht
 ·exact ⟨by kernel_rfl, of_decide_eq_true (by kernel_rfl)⟩
 cases ht
/-- The row. -/
theorem row_holds : Rows.FnPackSameSaid :=
 OpenClaim.holds_of_wide 3 Tryz.f3 rfl rfl rfl rfl rfl rfl rfl ⟨rfl, rfl, rfl, rfl, rfl⟩ rfl rfl rfl rfl rfl (by kernel_rfl) Tryz.func3 (by kernel_rfl)
  (of_decide_eq_true (by kernel_rfl)) (by unfold Func.isWrapper; first | (rw [if_pos (by decide +kernel)]; kernel_rfl) | (rw [if_neg (of_decide_eq_false (by kernel_rfl))]; exact ⟨rfl, rfl⟩))
  (fun os started H enc _ => lifted os started H enc)
/-- THE STATEMENT: the card. -/
theorem proved : Rows.FnPackSameCardSaid :=
 Claim7.holds_tied_plain_at .later [] [.data, .data, .data, .widerDeep] true (true, "61fca474bf1a86b09a55387f61c8fbe619d74ca3b81c33a1f9ce3249cde23810") false
  row_holds (fun _ h => by cases h) (by kernel_rfl) (fun _ h => by cases h) fnPackSame_row_tie rfl ⟨rfl, rfl⟩ (by kernel_rfl) rfl
  (fun f fn hf hfn => by
   obtain rfl : f = 3 := Option.some.inj ((show _ = some 3 by kernel_rfl : _ = some 3).symm.trans hf) |>.symm
   obtain rfl : fn = Tryz.f3 := (Option.some.inj (Tryz.func3.symm.trans hfn)).symm
   exact ⟨by kernel_rfl, fun j t ht => by
    rw [Tryz.params3] at ht
    have hm : t ∈ [22] := by simpa using Array.mem_of_getElem? ht
    have hall : ([22].all fun u => !Tryz.prog.wantsStandIn u) = true := by kernel_rfl
    exact (show Tryz.prog.wantsStandIn t = false by simpa using List.all_eq_true.1 hall t hm)⟩)
  (by kernel_rfl)
#print axioms proved
end Go.Proofs.YtodmjmkakgamlaaGreatDoor
