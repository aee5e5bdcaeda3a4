/-
  No cell of these rows narrows 'for every input' (looked for: loops, veiled, ifaces, maps, wideKeys, modest, calm, conditions, laid).
  DERIVED. THE GIVEN ROWS OF THIS SEAT. 2 by the template 'for every input the law returns true; each argument reads behind the call as it read before'; 0 by the template 'total and deterministic' (their statements: YthimhbjbpeheoaaTotals.lean).
  GIVEN WITH THE SEED: the statements are not yours to turn. If you find one false, say at which input.
  Laid BY PROGRAM, IN A SANDBOX (cutbox-rows.mjs): the forced cells as the released guide's own fill.sh prints them over the translation 75a0bbd15d844b2f… (all of the seat's roots in one cut). By AI agents, Wed Nov 11 2026. No macro, syntax, notation, axiom, sorry.
-/
import Derived.Test.YthimhbjbpeheoaaChecked
import GoSem.Claim
import GoSem.ClaimJoined
import GoSem.ClaimMapViews
import Derived.JoinedTies
import Derived.KernelRfl
namespace Go.Proofs.Ythimhbjbpeheoaa
/- THE CELL 'sum', in the pinned program and in every row, IS THE sha256 OF THE DUMP (.gsa) THAT YthimhbjbpeheoaaProg.lean LOADS. Nothing in Lean hashes anything: it is a label: what it is worth is what the hold of that sum in a sandbox is worth. -/
noncomputable def Try.pinned : Pinned := { name := "ythimhbjbpeheoaa", sum := "75a0bbd15d844b2f0cff981b8ce1d9e9f803e03aa43916a90f8ef420979a900b", checked := Try.checked }
namespace Rows
def none {H : Type} : Left H := { results := [], args := [] }

/-- 'laws.FnExactPackSize': WHATEVER THE INPUT: true; the input reads as it did. -/
def fnExactPackSizeSpec : ChangeSpec := { name := "fnExactPackSize", fn := fun _ => fun
  | [d] => { results := [.lit (.bool true)], args := [d] }
  | _ => none }
def fnExactPackSizeRow : OpenClaim := { program := "ythimhbjbpeheoaa", sum := "75a0bbd15d844b2f0cff981b8ce1d9e9f803e03aa43916a90f8ef420979a900b", func := "loop.example/townland/laws.FnExactPackSize", spec := "fnExactPackSize", apart := false }
def FnExactPackSizeSaid : Prop := fnExactPackSizeRow.holds Try.pinned (OpenSpec.ofChange fnExactPackSizeSpec)

/-- ITS FALSE NEIGHBOUR: 'it returns false'. Refute it at one input. -/
def fnExactPackSizeWrong : ChangeSpec := { name := "fnExactPackSize", fn := fun _ => fun
  | [d] => { results := [.lit (.bool false)], args := [d] }
  | _ => none }
def FnExactPackSizeWrongFalsely : Prop := fnExactPackSizeRow.holds Try.pinned (OpenSpec.ofChange fnExactPackSizeWrong)

/-- 'laws.FnExactSyncSame': WHATEVER THE INPUT: true; the input reads as it did. -/
def fnExactSyncSameSpec : ChangeSpec := { name := "fnExactSyncSame", fn := fun _ => fun
  | [d1, d2, d3, d4] => { results := [.lit (.bool true)], args := [d1, d2, d3, d4] }
  | _ => none }
def fnExactSyncSameRow : OpenClaim := { program := "ythimhbjbpeheoaa", sum := "75a0bbd15d844b2f0cff981b8ce1d9e9f803e03aa43916a90f8ef420979a900b", func := "loop.example/townland/laws.FnExactSyncSame", spec := "fnExactSyncSame", unfollowed := true, recurses := true, apart := false }
def FnExactSyncSameSaid : Prop := fnExactSyncSameRow.holds Try.pinned (OpenSpec.ofChange fnExactSyncSameSpec)

/-- ITS FALSE NEIGHBOUR: 'it returns false'. Refute it at one input. -/
def fnExactSyncSameWrong : ChangeSpec := { name := "fnExactSyncSame", fn := fun _ => fun
  | [d1, d2, d3, d4] => { results := [.lit (.bool false)], args := [d1, d2, d3, d4] }
  | _ => none }
def FnExactSyncSameWrongFalsely : Prop := fnExactSyncSameRow.holds Try.pinned (OpenSpec.ofChange fnExactSyncSameWrong)

/- THE SECOND FORM. 'bulk': how many values and letters a reading holds, each counted each time it is reached (what is shared counts as often as it is met; a slice's spare places count too). A statement '..UptoSaid' is the law's where the arguments, and the package variables that the reading takes, are together of bulk at most 1048576: NARROWER than '..Said'. Prove '..Said' where nothing that the law and all that it calls make is longer than what came in: it says more and counts as full. Else prove '..UptoSaid'. A law counts once. -/
mutual
def uptoBulk {H : Type} : DataW H → Nat
  | .lit (.string bytes) => bytes.length + 1
  | .lit _ => 1
  | .nil => 1
  | .ptr d => uptoBulk d + 1
  | .slice elems spare => uptoBulkAll elems + uptoBulkAll spare + 1
  | .agg parts => uptoBulkAll parts + 1
  | .iface _ d => uptoBulk d + 1
  | .map entries => uptoBulkEntries entries + 1
  | .held _ => 1
def uptoBulkAll {H : Type} : List (DataW H) → Nat
  | [] => 0
  | d :: r => uptoBulk d + uptoBulkAll r
def uptoBulkEntries {H : Type} : List (Lit × DataW H) → Nat
  | [] => 0
  | x :: r => uptoBulkEntry x + uptoBulkEntries r
def uptoBulkEntry {H : Type} : Lit × DataW H → Nat
  | (.string bytes, d) => bytes.length + uptoBulk d + 1
  | (_, d) => uptoBulk d + 1
 end
def uptoSmall : (H : Type) → List (DataW H) → Bool := fun _ ds => decide (uptoBulkAll ds ≤ 1048576)
def OpenSpec.upto (s : _root_.Go.ChangeSpec) : _root_.Go.OpenSpec := { _root_.Go.OpenSpec.ofChange s with cond := some uptoSmall }

/-- 'laws.FnExactPackSize', WHERE WHAT IT READS IS OF BULK AT MOST 1048576: true; the input reads as it did. -/
def fnExactPackSizeUptoRow : OpenClaim := { program := "ythimhbjbpeheoaa", sum := "75a0bbd15d844b2f0cff981b8ce1d9e9f803e03aa43916a90f8ef420979a900b", func := "loop.example/townland/laws.FnExactPackSize", spec := "fnExactPackSize", apart := false, narrowed := true }
def FnExactPackSizeUptoSaid : Prop := fnExactPackSizeUptoRow.holds Try.pinned (OpenSpec.upto fnExactPackSizeSpec)

/-- 'laws.FnExactSyncSame', WHERE WHAT IT READS IS OF BULK AT MOST 1048576: true; the input reads as it did. -/
def fnExactSyncSameUptoRow : OpenClaim := { program := "ythimhbjbpeheoaa", sum := "75a0bbd15d844b2f0cff981b8ce1d9e9f803e03aa43916a90f8ef420979a900b", func := "loop.example/townland/laws.FnExactSyncSame", spec := "fnExactSyncSame", unfollowed := true, recurses := true, apart := false, narrowed := true }
def FnExactSyncSameUptoSaid : Prop := fnExactSyncSameUptoRow.holds Try.pinned (OpenSpec.upto fnExactSyncSameSpec)

end Rows
end Go.Proofs.Ythimhbjbpeheoaa
