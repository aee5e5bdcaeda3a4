/-
  No cell of these rows narrows 'for every input' (looked for: loops, veiled, ifaces, maps, wideKeys, modest, calm, conditions, laid).
  DERIVED. THE GIVEN ROWS OF THIS SEAT. 5 by the template 'for every input the law returns true; each argument reads behind the call as it read before'; 0 by the template 'total and deterministic' (their statements: YthfgbbcoadcigaaGreatTotals.lean).
  GIVEN WITH THE SEED: the statements are not yours to turn. If you find one false, say at which input.
  Laid BY PROGRAM, IN A SANDBOX (cutbox-rows.mjs): the forced cells as the released guide's own fill.sh prints them over the translation 3f981f1d12e3bd83… (all of the seat's roots in one cut). By AI agents, Wed Nov 11 2026. No macro, syntax, notation, axiom, sorry.
-/
import Derived.Test.YthfgbbcoadcigaaGreatChecked
import GoSem.Claim
import GoSem.ClaimJoined
import GoSem.ClaimMapViews
import Derived.JoinedTies
import Derived.KernelRfl
namespace Go.Proofs.YthfgbbcoadcigaaGreat
/- THE CELL 'sum', in the pinned program and in every row, IS THE sha256 OF THE DUMP (.gsa) THAT YthfgbbcoadcigaaGreatProg.lean LOADS. Nothing in Lean hashes anything: it is a label: what it is worth is what the hold of that sum in a sandbox is worth. -/
noncomputable def Tryz.pinned : Pinned := { name := "ythfgbbcoadcigaagreat", sum := "3f981f1d12e3bd835c23f7d9efd0bce523253d2f4e0d09033a40b550363860dc", checked := Tryz.checked }
namespace Rows
def none {H : Type} : Left H := { results := [], args := [] }

/-- 'laws.FnExactRepoBranch': WHATEVER THE INPUT: true; the input reads as it did. -/
def fnExactRepoBranchSpec : ChangeSpec := { name := "fnExactRepoBranch", fn := fun _ => fun
  | [d1, d2, d3] => { results := [.lit (.bool true)], args := [d1, d2, d3] }
  | _ => none }
def fnExactRepoBranchRow : OpenClaim := { program := "ythfgbbcoadcigaagreat", sum := "3f981f1d12e3bd835c23f7d9efd0bce523253d2f4e0d09033a40b550363860dc", func := "loop.example/townland/laws.FnExactRepoBranch", spec := "fnExactRepoBranch", unfollowed := true, recurses := true, apart := false }
def FnExactRepoBranchSaid : Prop := fnExactRepoBranchRow.holds Tryz.pinned (OpenSpec.ofChange fnExactRepoBranchSpec)

/-- ITS FALSE NEIGHBOUR: 'it returns false'. Refute it at one input. -/
def fnExactRepoBranchWrong : ChangeSpec := { name := "fnExactRepoBranch", fn := fun _ => fun
  | [d1, d2, d3] => { results := [.lit (.bool false)], args := [d1, d2, d3] }
  | _ => none }
def FnExactRepoBranchWrongFalsely : Prop := fnExactRepoBranchRow.holds Tryz.pinned (OpenSpec.ofChange fnExactRepoBranchWrong)

/-- 'laws.FnExactRepoSweep': WHATEVER THE INPUT: true; the input reads as it did. -/
def fnExactRepoSweepSpec : ChangeSpec := { name := "fnExactRepoSweep", fn := fun _ => fun
  | [d] => { results := [.lit (.bool true)], args := [d] }
  | _ => none }
def fnExactRepoSweepRow : OpenClaim := { program := "ythfgbbcoadcigaagreat", sum := "3f981f1d12e3bd835c23f7d9efd0bce523253d2f4e0d09033a40b550363860dc", func := "loop.example/townland/laws.FnExactRepoSweep", spec := "fnExactRepoSweep", unfollowed := true, recurses := true, apart := false }
def FnExactRepoSweepSaid : Prop := fnExactRepoSweepRow.holds Tryz.pinned (OpenSpec.ofChange fnExactRepoSweepSpec)

/-- ITS FALSE NEIGHBOUR: 'it returns false'. Refute it at one input. -/
def fnExactRepoSweepWrong : ChangeSpec := { name := "fnExactRepoSweep", fn := fun _ => fun
  | [d] => { results := [.lit (.bool false)], args := [d] }
  | _ => none }
def FnExactRepoSweepWrongFalsely : Prop := fnExactRepoSweepRow.holds Tryz.pinned (OpenSpec.ofChange fnExactRepoSweepWrong)

/-- 'laws.FnExactRepoDrop': WHATEVER THE INPUT: true; the input reads as it did. -/
def fnExactRepoDropSpec : ChangeSpec := { name := "fnExactRepoDrop", fn := fun _ => fun
  | [d1, d2] => { results := [.lit (.bool true)], args := [d1, d2] }
  | _ => none }
def fnExactRepoDropRow : OpenClaim := { program := "ythfgbbcoadcigaagreat", sum := "3f981f1d12e3bd835c23f7d9efd0bce523253d2f4e0d09033a40b550363860dc", func := "loop.example/townland/laws.FnExactRepoDrop", spec := "fnExactRepoDrop", unfollowed := true, recurses := true, apart := false }
def FnExactRepoDropSaid : Prop := fnExactRepoDropRow.holds Tryz.pinned (OpenSpec.ofChange fnExactRepoDropSpec)

/-- ITS FALSE NEIGHBOUR: 'it returns false'. Refute it at one input. -/
def fnExactRepoDropWrong : ChangeSpec := { name := "fnExactRepoDrop", fn := fun _ => fun
  | [d1, d2] => { results := [.lit (.bool false)], args := [d1, d2] }
  | _ => none }
def FnExactRepoDropWrongFalsely : Prop := fnExactRepoDropRow.holds Tryz.pinned (OpenSpec.ofChange fnExactRepoDropWrong)

/-- 'laws.FnExactRepoAdd': WHATEVER THE INPUT: true; the input reads as it did. -/
def fnExactRepoAddSpec : ChangeSpec := { name := "fnExactRepoAdd", fn := fun _ => fun
  | [d1, d2, d3, d4] => { results := [.lit (.bool true)], args := [d1, d2, d3, d4] }
  | _ => none }
def fnExactRepoAddRow : OpenClaim := { program := "ythfgbbcoadcigaagreat", sum := "3f981f1d12e3bd835c23f7d9efd0bce523253d2f4e0d09033a40b550363860dc", func := "loop.example/townland/laws.FnExactRepoAdd", spec := "fnExactRepoAdd", unfollowed := true, recurses := true, apart := false }
def FnExactRepoAddSaid : Prop := fnExactRepoAddRow.holds Tryz.pinned (OpenSpec.ofChange fnExactRepoAddSpec)

/-- ITS FALSE NEIGHBOUR: 'it returns false'. Refute it at one input. -/
def fnExactRepoAddWrong : ChangeSpec := { name := "fnExactRepoAdd", fn := fun _ => fun
  | [d1, d2, d3, d4] => { results := [.lit (.bool false)], args := [d1, d2, d3, d4] }
  | _ => none }
def FnExactRepoAddWrongFalsely : Prop := fnExactRepoAddRow.holds Tryz.pinned (OpenSpec.ofChange fnExactRepoAddWrong)

/-- 'laws.FnExactSyncTake': WHATEVER THE INPUT: true; the input reads as it did. -/
def fnExactSyncTakeSpec : ChangeSpec := { name := "fnExactSyncTake", fn := fun _ => fun
  | [d1, d2, d3] => { results := [.lit (.bool true)], args := [d1, d2, d3] }
  | _ => none }
def fnExactSyncTakeRow : OpenClaim := { program := "ythfgbbcoadcigaagreat", sum := "3f981f1d12e3bd835c23f7d9efd0bce523253d2f4e0d09033a40b550363860dc", func := "loop.example/townland/laws.FnExactSyncTake", spec := "fnExactSyncTake", unfollowed := true, recurses := true, apart := false }
def FnExactSyncTakeSaid : Prop := fnExactSyncTakeRow.holds Tryz.pinned (OpenSpec.ofChange fnExactSyncTakeSpec)

/-- ITS FALSE NEIGHBOUR: 'it returns false'. Refute it at one input. -/
def fnExactSyncTakeWrong : ChangeSpec := { name := "fnExactSyncTake", fn := fun _ => fun
  | [d1, d2, d3] => { results := [.lit (.bool false)], args := [d1, d2, d3] }
  | _ => none }
def FnExactSyncTakeWrongFalsely : Prop := fnExactSyncTakeRow.holds Tryz.pinned (OpenSpec.ofChange fnExactSyncTakeWrong)

/- THE SECOND FORM. 'bulk': how many values and letters a reading holds, each counted each time it is reached (what is shared counts as often as it is met; a slice's spare places count too). A statement '..UptoSaid' is the law's where the arguments, and the package variables that the reading takes, are together of bulk at most 1048576: NARROWER than '..Said'. Prove '..Said' where nothing that the law and all that it calls make is longer than what came in: it says more and counts as full. Else prove '..UptoSaid'. A law counts once. -/
mutual
def uptoBulk {H : Type} : DataW H → Nat
  | .lit (.string bytes) => bytes.length + 1
  | .lit _ => 1
  | .nil => 1
  | .ptr d => uptoBulk d + 1
  | .slice elems spare => uptoBulkAll elems + uptoBulkAll spare + 1
  | .agg parts => uptoBulkAll parts + 1
  | .iface _ d => uptoBulk d + 1
  | .map entries => uptoBulkEntries entries + 1
  | .held _ => 1
def uptoBulkAll {H : Type} : List (DataW H) → Nat
  | [] => 0
  | d :: r => uptoBulk d + uptoBulkAll r
def uptoBulkEntries {H : Type} : List (Lit × DataW H) → Nat
  | [] => 0
  | x :: r => uptoBulkEntry x + uptoBulkEntries r
def uptoBulkEntry {H : Type} : Lit × DataW H → Nat
  | (.string bytes, d) => bytes.length + uptoBulk d + 1
  | (_, d) => uptoBulk d + 1
 end
def uptoSmall : (H : Type) → List (DataW H) → Bool := fun _ ds => decide (uptoBulkAll ds ≤ 1048576)
def OpenSpec.upto (s : _root_.Go.ChangeSpec) : _root_.Go.OpenSpec := { _root_.Go.OpenSpec.ofChange s with cond := some uptoSmall }

/-- 'laws.FnExactRepoBranch', WHERE WHAT IT READS IS OF BULK AT MOST 1048576: true; the input reads as it did. -/
def fnExactRepoBranchUptoRow : OpenClaim := { program := "ythfgbbcoadcigaagreat", sum := "3f981f1d12e3bd835c23f7d9efd0bce523253d2f4e0d09033a40b550363860dc", func := "loop.example/townland/laws.FnExactRepoBranch", spec := "fnExactRepoBranch", unfollowed := true, recurses := true, apart := false, narrowed := true }
def FnExactRepoBranchUptoSaid : Prop := fnExactRepoBranchUptoRow.holds Tryz.pinned (OpenSpec.upto fnExactRepoBranchSpec)

/-- 'laws.FnExactRepoSweep', WHERE WHAT IT READS IS OF BULK AT MOST 1048576: true; the input reads as it did. -/
def fnExactRepoSweepUptoRow : OpenClaim := { program := "ythfgbbcoadcigaagreat", sum := "3f981f1d12e3bd835c23f7d9efd0bce523253d2f4e0d09033a40b550363860dc", func := "loop.example/townland/laws.FnExactRepoSweep", spec := "fnExactRepoSweep", unfollowed := true, recurses := true, apart := false, narrowed := true }
def FnExactRepoSweepUptoSaid : Prop := fnExactRepoSweepUptoRow.holds Tryz.pinned (OpenSpec.upto fnExactRepoSweepSpec)

/-- 'laws.FnExactRepoDrop', WHERE WHAT IT READS IS OF BULK AT MOST 1048576: true; the input reads as it did. -/
def fnExactRepoDropUptoRow : OpenClaim := { program := "ythfgbbcoadcigaagreat", sum := "3f981f1d12e3bd835c23f7d9efd0bce523253d2f4e0d09033a40b550363860dc", func := "loop.example/townland/laws.FnExactRepoDrop", spec := "fnExactRepoDrop", unfollowed := true, recurses := true, apart := false, narrowed := true }
def FnExactRepoDropUptoSaid : Prop := fnExactRepoDropUptoRow.holds Tryz.pinned (OpenSpec.upto fnExactRepoDropSpec)

/-- 'laws.FnExactRepoAdd', WHERE WHAT IT READS IS OF BULK AT MOST 1048576: true; the input reads as it did. -/
def fnExactRepoAddUptoRow : OpenClaim := { program := "ythfgbbcoadcigaagreat", sum := "3f981f1d12e3bd835c23f7d9efd0bce523253d2f4e0d09033a40b550363860dc", func := "loop.example/townland/laws.FnExactRepoAdd", spec := "fnExactRepoAdd", unfollowed := true, recurses := true, apart := false, narrowed := true }
def FnExactRepoAddUptoSaid : Prop := fnExactRepoAddUptoRow.holds Tryz.pinned (OpenSpec.upto fnExactRepoAddSpec)

/-- 'laws.FnExactSyncTake', WHERE WHAT IT READS IS OF BULK AT MOST 1048576: true; the input reads as it did. -/
def fnExactSyncTakeUptoRow : OpenClaim := { program := "ythfgbbcoadcigaagreat", sum := "3f981f1d12e3bd835c23f7d9efd0bce523253d2f4e0d09033a40b550363860dc", func := "loop.example/townland/laws.FnExactSyncTake", spec := "fnExactSyncTake", unfollowed := true, recurses := true, apart := false, narrowed := true }
def FnExactSyncTakeUptoSaid : Prop := fnExactSyncTakeUptoRow.holds Tryz.pinned (OpenSpec.upto fnExactSyncTakeSpec)

end Rows
end Go.Proofs.YthfgbbcoadcigaaGreat
