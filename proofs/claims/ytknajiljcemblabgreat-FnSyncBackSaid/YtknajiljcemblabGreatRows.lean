/-
  No cell of these rows narrows 'for every input' (looked for: loops, veiled, ifaces, maps, wideKeys, modest, calm, conditions, laid).
  DERIVED. THE GIVEN ROWS OF THIS SEAT. 3 by the template 'for every input the law returns true; each argument reads behind the call as it read before'; 0 by the template 'total and deterministic' (their statements: YtknajiljcemblabGreatTotals.lean).
  GIVEN WITH THE SEED: the statements are not yours to turn. If you find one false, say at which input.
  Laid BY PROGRAM, IN A SANDBOX (cutbox-rows.mjs): the forced cells as the released guide's own fill.sh prints them over the translation a7d6707285abbeca… (all of the seat's roots in one cut). By AI agents, Wed Nov 11 2026. No macro, syntax, notation, axiom, sorry.
-/
import Derived.Test.YtknajiljcemblabGreatChecked
import GoSem.Claim
import GoSem.ClaimJoined
import GoSem.ClaimMapViews
import Derived.JoinedTies
import Derived.KernelRfl
namespace Go.Proofs.YtknajiljcemblabGreat
/- THE CELL 'sum', in the pinned program and in every row, IS THE sha256 OF THE DUMP (.gsa) THAT YtknajiljcemblabGreatProg.lean LOADS. Nothing in Lean hashes anything: it is a label: what it is worth is what the hold of that sum in a sandbox is worth. -/
noncomputable def Tryz.pinned : Pinned := { name := "ytknajiljcemblabgreat", sum := "a7d6707285abbecaf126c5b8ba00c5f544ced8f20d6793993bdd13b1e90658e5", checked := Tryz.checked }
namespace Rows
def none {H : Type} : Left H := { results := [], args := [] }

/-- 'laws.FnSyncNew': WHATEVER THE INPUT: true; the input reads as it did. -/
def fnSyncNewSpec : ChangeSpec := { name := "fnSyncNew", fn := fun _ => fun
  | [d] => { results := [.lit (.bool true)], args := [d] }
  | _ => none }
def fnSyncNewRow : OpenClaim := { program := "ytknajiljcemblabgreat", sum := "a7d6707285abbecaf126c5b8ba00c5f544ced8f20d6793993bdd13b1e90658e5", func := "loop.example/townland/laws.FnSyncNew", spec := "fnSyncNew", unfollowed := true, recurses := true, apart := false }
def FnSyncNewSaid : Prop := fnSyncNewRow.holds Tryz.pinned (OpenSpec.ofChange fnSyncNewSpec)

/-- ITS FALSE NEIGHBOUR: 'it returns false'. Refute it at one input. -/
def fnSyncNewWrong : ChangeSpec := { name := "fnSyncNew", fn := fun _ => fun
  | [d] => { results := [.lit (.bool false)], args := [d] }
  | _ => none }
def FnSyncNewWrongFalsely : Prop := fnSyncNewRow.holds Tryz.pinned (OpenSpec.ofChange fnSyncNewWrong)

/-- 'laws.FnSyncBack': WHATEVER THE INPUT: true; the input reads as it did. -/
def fnSyncBackSpec : ChangeSpec := { name := "fnSyncBack", fn := fun _ => fun
  | [d] => { results := [.lit (.bool true)], args := [d] }
  | _ => none }
def fnSyncBackRow : OpenClaim := { program := "ytknajiljcemblabgreat", sum := "a7d6707285abbecaf126c5b8ba00c5f544ced8f20d6793993bdd13b1e90658e5", func := "loop.example/townland/laws.FnSyncBack", spec := "fnSyncBack", unfollowed := true, recurses := true, apart := false }
def FnSyncBackSaid : Prop := fnSyncBackRow.holds Tryz.pinned (OpenSpec.ofChange fnSyncBackSpec)

/-- ITS FALSE NEIGHBOUR: 'it returns false'. Refute it at one input. -/
def fnSyncBackWrong : ChangeSpec := { name := "fnSyncBack", fn := fun _ => fun
  | [d] => { results := [.lit (.bool false)], args := [d] }
  | _ => none }
def FnSyncBackWrongFalsely : Prop := fnSyncBackRow.holds Tryz.pinned (OpenSpec.ofChange fnSyncBackWrong)

/-- 'laws.FnExactSyncTake': WHATEVER THE INPUT: true; the input reads as it did. -/
def fnExactSyncTakeSpec : ChangeSpec := { name := "fnExactSyncTake", fn := fun _ => fun
  | [d1, d2, d3] => { results := [.lit (.bool true)], args := [d1, d2, d3] }
  | _ => none }
def fnExactSyncTakeRow : OpenClaim := { program := "ytknajiljcemblabgreat", sum := "a7d6707285abbecaf126c5b8ba00c5f544ced8f20d6793993bdd13b1e90658e5", func := "loop.example/townland/laws.FnExactSyncTake", spec := "fnExactSyncTake", unfollowed := true, recurses := true, apart := false }
def FnExactSyncTakeSaid : Prop := fnExactSyncTakeRow.holds Tryz.pinned (OpenSpec.ofChange fnExactSyncTakeSpec)

/-- ITS FALSE NEIGHBOUR: 'it returns false'. Refute it at one input. -/
def fnExactSyncTakeWrong : ChangeSpec := { name := "fnExactSyncTake", fn := fun _ => fun
  | [d1, d2, d3] => { results := [.lit (.bool false)], args := [d1, d2, d3] }
  | _ => none }
def FnExactSyncTakeWrongFalsely : Prop := fnExactSyncTakeRow.holds Tryz.pinned (OpenSpec.ofChange fnExactSyncTakeWrong)

/- THE SECOND FORM. 'bulk': how many values and letters a reading holds, each counted each time it is reached (what is shared counts as often as it is met; a slice's spare places count too). A statement '..UptoSaid' is the law's where the arguments, and the package variables that the reading takes, are together of bulk at most 1048576: NARROWER than '..Said'. Prove '..Said' where nothing that the law and all that it calls make is longer than what came in: it says more and counts as full. Else prove '..UptoSaid'. A law counts once. -/
mutual
def uptoBulk {H : Type} : DataW H → Nat
  | .lit (.string bytes) => bytes.length + 1
  | .lit _ => 1
  | .nil => 1
  | .ptr d => uptoBulk d + 1
  | .slice elems spare => uptoBulkAll elems + uptoBulkAll spare + 1
  | .agg parts => uptoBulkAll parts + 1
  | .iface _ d => uptoBulk d + 1
  | .map entries => uptoBulkEntries entries + 1
  | .held _ => 1
def uptoBulkAll {H : Type} : List (DataW H) → Nat
  | [] => 0
  | d :: r => uptoBulk d + uptoBulkAll r
def uptoBulkEntries {H : Type} : List (Lit × DataW H) → Nat
  | [] => 0
  | x :: r => uptoBulkEntry x + uptoBulkEntries r
def uptoBulkEntry {H : Type} : Lit × DataW H → Nat
  | (.string bytes, d) => bytes.length + uptoBulk d + 1
  | (_, d) => uptoBulk d + 1
 end
def uptoSmall : (H : Type) → List (DataW H) → Bool := fun _ ds => decide (uptoBulkAll ds ≤ 1048576)
def OpenSpec.upto (s : _root_.Go.ChangeSpec) : _root_.Go.OpenSpec := { _root_.Go.OpenSpec.ofChange s with cond := some uptoSmall }

/-- 'laws.FnSyncNew', WHERE WHAT IT READS IS OF BULK AT MOST 1048576: true; the input reads as it did. -/
def fnSyncNewUptoRow : OpenClaim := { program := "ytknajiljcemblabgreat", sum := "a7d6707285abbecaf126c5b8ba00c5f544ced8f20d6793993bdd13b1e90658e5", func := "loop.example/townland/laws.FnSyncNew", spec := "fnSyncNew", unfollowed := true, recurses := true, apart := false, narrowed := true }
def FnSyncNewUptoSaid : Prop := fnSyncNewUptoRow.holds Tryz.pinned (OpenSpec.upto fnSyncNewSpec)

/-- 'laws.FnSyncBack', WHERE WHAT IT READS IS OF BULK AT MOST 1048576: true; the input reads as it did. -/
def fnSyncBackUptoRow : OpenClaim := { program := "ytknajiljcemblabgreat", sum := "a7d6707285abbecaf126c5b8ba00c5f544ced8f20d6793993bdd13b1e90658e5", func := "loop.example/townland/laws.FnSyncBack", spec := "fnSyncBack", unfollowed := true, recurses := true, apart := false, narrowed := true }
def FnSyncBackUptoSaid : Prop := fnSyncBackUptoRow.holds Tryz.pinned (OpenSpec.upto fnSyncBackSpec)

/-- 'laws.FnExactSyncTake', WHERE WHAT IT READS IS OF BULK AT MOST 1048576: true; the input reads as it did. -/
def fnExactSyncTakeUptoRow : OpenClaim := { program := "ytknajiljcemblabgreat", sum := "a7d6707285abbecaf126c5b8ba00c5f544ced8f20d6793993bdd13b1e90658e5", func := "loop.example/townland/laws.FnExactSyncTake", spec := "fnExactSyncTake", unfollowed := true, recurses := true, apart := false, narrowed := true }
def FnExactSyncTakeUptoSaid : Prop := fnExactSyncTakeUptoRow.holds Tryz.pinned (OpenSpec.upto fnExactSyncTakeSpec)

end Rows
end Go.Proofs.YtknajiljcemblabGreat
