/-
  No cell of these rows narrows 'for every input' (looked for: loops, veiled, ifaces, maps, wideKeys, modest, calm, conditions, laid).
  DERIVED. THE GIVEN ROWS OF THIS SEAT. 6 by the template 'for every input the law returns true; each argument reads behind the call as it read before'; 0 by the template 'total and deterministic' (their statements: YtknajiljcemblaaGreatTotals.lean).
  GIVEN WITH THE SEED: the statements are not yours to turn. If you find one false, say at which input.
  Laid BY PROGRAM, IN A SANDBOX (cutbox-rows.mjs): the forced cells as the released guide's own fill.sh prints them over the translation 1ae5d000b1208892… (all of the seat's roots in one cut). By AI agents, Wed Nov 11 2026. No macro, syntax, notation, axiom, sorry.
-/
import Derived.Test.YtknajiljcemblaaGreatChecked
import GoSem.Claim
import GoSem.ClaimJoined
import GoSem.ClaimMapViews
import Derived.JoinedTies
import Derived.KernelRfl
namespace Go.Proofs.YtknajiljcemblaaGreat
/- THE CELL 'sum', in the pinned program and in every row, IS THE sha256 OF THE DUMP (.gsa) THAT YtknajiljcemblaaGreatProg.lean LOADS. Nothing in Lean hashes anything: it is a label: what it is worth is what the hold of that sum in a sandbox is worth. -/
noncomputable def Tryz.pinned : Pinned := { name := "ytknajiljcemblaagreat", sum := "1ae5d000b12088923bdcf818d4010fb1462b52f0bad1ab2ed64a9a144eb4ffb8", checked := Tryz.checked }
namespace Rows
def none {H : Type} : Left H := { results := [], args := [] }

/-- 'laws.FnSyncLack': WHATEVER THE INPUT: true; the input reads as it did. -/
def fnSyncLackSpec : ChangeSpec := { name := "fnSyncLack", fn := fun _ => fun
  | [d] => { results := [.lit (.bool true)], args := [d] }
  | _ => none }
def fnSyncLackRow : OpenClaim := { program := "ytknajiljcemblaagreat", sum := "1ae5d000b12088923bdcf818d4010fb1462b52f0bad1ab2ed64a9a144eb4ffb8", func := "loop.example/townland/laws.FnSyncLack", spec := "fnSyncLack", unfollowed := true, recurses := true, apart := false }
def FnSyncLackSaid : Prop := fnSyncLackRow.holds Tryz.pinned (OpenSpec.ofChange fnSyncLackSpec)

/-- ITS FALSE NEIGHBOUR: 'it returns false'. Refute it at one input. -/
def fnSyncLackWrong : ChangeSpec := { name := "fnSyncLack", fn := fun _ => fun
  | [d] => { results := [.lit (.bool false)], args := [d] }
  | _ => none }
def FnSyncLackWrongFalsely : Prop := fnSyncLackRow.holds Tryz.pinned (OpenSpec.ofChange fnSyncLackWrong)

/-- 'laws.FnSyncBent': WHATEVER THE INPUT: true; the input reads as it did. -/
def fnSyncBentSpec : ChangeSpec := { name := "fnSyncBent", fn := fun _ => fun
  | [d] => { results := [.lit (.bool true)], args := [d] }
  | _ => none }
def fnSyncBentRow : OpenClaim := { program := "ytknajiljcemblaagreat", sum := "1ae5d000b12088923bdcf818d4010fb1462b52f0bad1ab2ed64a9a144eb4ffb8", func := "loop.example/townland/laws.FnSyncBent", spec := "fnSyncBent", unfollowed := true, recurses := true, apart := false }
def FnSyncBentSaid : Prop := fnSyncBentRow.holds Tryz.pinned (OpenSpec.ofChange fnSyncBentSpec)

/-- ITS FALSE NEIGHBOUR: 'it returns false'. Refute it at one input. -/
def fnSyncBentWrong : ChangeSpec := { name := "fnSyncBent", fn := fun _ => fun
  | [d] => { results := [.lit (.bool false)], args := [d] }
  | _ => none }
def FnSyncBentWrongFalsely : Prop := fnSyncBentRow.holds Tryz.pinned (OpenSpec.ofChange fnSyncBentWrong)

/-- 'laws.FnSyncChain': WHATEVER THE INPUT: true; the input reads as it did. -/
def fnSyncChainSpec : ChangeSpec := { name := "fnSyncChain", fn := fun _ => fun
  | [d] => { results := [.lit (.bool true)], args := [d] }
  | _ => none }
def fnSyncChainRow : OpenClaim := { program := "ytknajiljcemblaagreat", sum := "1ae5d000b12088923bdcf818d4010fb1462b52f0bad1ab2ed64a9a144eb4ffb8", func := "loop.example/townland/laws.FnSyncChain", spec := "fnSyncChain", unfollowed := true, recurses := true, apart := false }
def FnSyncChainSaid : Prop := fnSyncChainRow.holds Tryz.pinned (OpenSpec.ofChange fnSyncChainSpec)

/-- ITS FALSE NEIGHBOUR: 'it returns false'. Refute it at one input. -/
def fnSyncChainWrong : ChangeSpec := { name := "fnSyncChain", fn := fun _ => fun
  | [d] => { results := [.lit (.bool false)], args := [d] }
  | _ => none }
def FnSyncChainWrongFalsely : Prop := fnSyncChainRow.holds Tryz.pinned (OpenSpec.ofChange fnSyncChainWrong)

/-- 'laws.FnSyncTwo': WHATEVER THE INPUT: true; the input reads as it did. -/
def fnSyncTwoSpec : ChangeSpec := { name := "fnSyncTwo", fn := fun _ => fun
  | [d] => { results := [.lit (.bool true)], args := [d] }
  | _ => none }
def fnSyncTwoRow : OpenClaim := { program := "ytknajiljcemblaagreat", sum := "1ae5d000b12088923bdcf818d4010fb1462b52f0bad1ab2ed64a9a144eb4ffb8", func := "loop.example/townland/laws.FnSyncTwo", spec := "fnSyncTwo", unfollowed := true, recurses := true, apart := false }
def FnSyncTwoSaid : Prop := fnSyncTwoRow.holds Tryz.pinned (OpenSpec.ofChange fnSyncTwoSpec)

/-- ITS FALSE NEIGHBOUR: 'it returns false'. Refute it at one input. -/
def fnSyncTwoWrong : ChangeSpec := { name := "fnSyncTwo", fn := fun _ => fun
  | [d] => { results := [.lit (.bool false)], args := [d] }
  | _ => none }
def FnSyncTwoWrongFalsely : Prop := fnSyncTwoRow.holds Tryz.pinned (OpenSpec.ofChange fnSyncTwoWrong)

/-- 'laws.FnSyncOwn': WHATEVER THE INPUT: true; the input reads as it did. -/
def fnSyncOwnSpec : ChangeSpec := { name := "fnSyncOwn", fn := fun _ => fun
  | [d] => { results := [.lit (.bool true)], args := [d] }
  | _ => none }
def fnSyncOwnRow : OpenClaim := { program := "ytknajiljcemblaagreat", sum := "1ae5d000b12088923bdcf818d4010fb1462b52f0bad1ab2ed64a9a144eb4ffb8", func := "loop.example/townland/laws.FnSyncOwn", spec := "fnSyncOwn", unfollowed := true, recurses := true, apart := false }
def FnSyncOwnSaid : Prop := fnSyncOwnRow.holds Tryz.pinned (OpenSpec.ofChange fnSyncOwnSpec)

/-- ITS FALSE NEIGHBOUR: 'it returns false'. Refute it at one input. -/
def fnSyncOwnWrong : ChangeSpec := { name := "fnSyncOwn", fn := fun _ => fun
  | [d] => { results := [.lit (.bool false)], args := [d] }
  | _ => none }
def FnSyncOwnWrongFalsely : Prop := fnSyncOwnRow.holds Tryz.pinned (OpenSpec.ofChange fnSyncOwnWrong)

/-- 'laws.FnSync': WHATEVER THE INPUT: true; the input reads as it did. -/
def fnSyncSpec : ChangeSpec := { name := "fnSync", fn := fun _ => fun
  | [d] => { results := [.lit (.bool true)], args := [d] }
  | _ => none }
def fnSyncRow : OpenClaim := { program := "ytknajiljcemblaagreat", sum := "1ae5d000b12088923bdcf818d4010fb1462b52f0bad1ab2ed64a9a144eb4ffb8", func := "loop.example/townland/laws.FnSync", spec := "fnSync", unfollowed := true, recurses := true, apart := false }
def FnSyncSaid : Prop := fnSyncRow.holds Tryz.pinned (OpenSpec.ofChange fnSyncSpec)

/-- ITS FALSE NEIGHBOUR: 'it returns false'. Refute it at one input. -/
def fnSyncWrong : ChangeSpec := { name := "fnSync", fn := fun _ => fun
  | [d] => { results := [.lit (.bool false)], args := [d] }
  | _ => none }
def FnSyncWrongFalsely : Prop := fnSyncRow.holds Tryz.pinned (OpenSpec.ofChange fnSyncWrong)

/- THE SECOND FORM. 'bulk': how many values and letters a reading holds, each counted each time it is reached (what is shared counts as often as it is met; a slice's spare places count too). A statement '..UptoSaid' is the law's where the arguments, and the package variables that the reading takes, are together of bulk at most 1048576: NARROWER than '..Said'. Prove '..Said' where nothing that the law and all that it calls make is longer than what came in: it says more and counts as full. Else prove '..UptoSaid'. A law counts once. -/
mutual
def uptoBulk {H : Type} : DataW H → Nat
  | .lit (.string bytes) => bytes.length + 1
  | .lit _ => 1
  | .nil => 1
  | .ptr d => uptoBulk d + 1
  | .slice elems spare => uptoBulkAll elems + uptoBulkAll spare + 1
  | .agg parts => uptoBulkAll parts + 1
  | .iface _ d => uptoBulk d + 1
  | .map entries => uptoBulkEntries entries + 1
  | .held _ => 1
def uptoBulkAll {H : Type} : List (DataW H) → Nat
  | [] => 0
  | d :: r => uptoBulk d + uptoBulkAll r
def uptoBulkEntries {H : Type} : List (Lit × DataW H) → Nat
  | [] => 0
  | x :: r => uptoBulkEntry x + uptoBulkEntries r
def uptoBulkEntry {H : Type} : Lit × DataW H → Nat
  | (.string bytes, d) => bytes.length + uptoBulk d + 1
  | (_, d) => uptoBulk d + 1
 end
def uptoSmall : (H : Type) → List (DataW H) → Bool := fun _ ds => decide (uptoBulkAll ds ≤ 1048576)
def OpenSpec.upto (s : _root_.Go.ChangeSpec) : _root_.Go.OpenSpec := { _root_.Go.OpenSpec.ofChange s with cond := some uptoSmall }

/-- 'laws.FnSyncLack', WHERE WHAT IT READS IS OF BULK AT MOST 1048576: true; the input reads as it did. -/
def fnSyncLackUptoRow : OpenClaim := { program := "ytknajiljcemblaagreat", sum := "1ae5d000b12088923bdcf818d4010fb1462b52f0bad1ab2ed64a9a144eb4ffb8", func := "loop.example/townland/laws.FnSyncLack", spec := "fnSyncLack", unfollowed := true, recurses := true, apart := false, narrowed := true }
def FnSyncLackUptoSaid : Prop := fnSyncLackUptoRow.holds Tryz.pinned (OpenSpec.upto fnSyncLackSpec)

/-- 'laws.FnSyncBent', WHERE WHAT IT READS IS OF BULK AT MOST 1048576: true; the input reads as it did. -/
def fnSyncBentUptoRow : OpenClaim := { program := "ytknajiljcemblaagreat", sum := "1ae5d000b12088923bdcf818d4010fb1462b52f0bad1ab2ed64a9a144eb4ffb8", func := "loop.example/townland/laws.FnSyncBent", spec := "fnSyncBent", unfollowed := true, recurses := true, apart := false, narrowed := true }
def FnSyncBentUptoSaid : Prop := fnSyncBentUptoRow.holds Tryz.pinned (OpenSpec.upto fnSyncBentSpec)

/-- 'laws.FnSyncChain', WHERE WHAT IT READS IS OF BULK AT MOST 1048576: true; the input reads as it did. -/
def fnSyncChainUptoRow : OpenClaim := { program := "ytknajiljcemblaagreat", sum := "1ae5d000b12088923bdcf818d4010fb1462b52f0bad1ab2ed64a9a144eb4ffb8", func := "loop.example/townland/laws.FnSyncChain", spec := "fnSyncChain", unfollowed := true, recurses := true, apart := false, narrowed := true }
def FnSyncChainUptoSaid : Prop := fnSyncChainUptoRow.holds Tryz.pinned (OpenSpec.upto fnSyncChainSpec)

/-- 'laws.FnSyncTwo', WHERE WHAT IT READS IS OF BULK AT MOST 1048576: true; the input reads as it did. -/
def fnSyncTwoUptoRow : OpenClaim := { program := "ytknajiljcemblaagreat", sum := "1ae5d000b12088923bdcf818d4010fb1462b52f0bad1ab2ed64a9a144eb4ffb8", func := "loop.example/townland/laws.FnSyncTwo", spec := "fnSyncTwo", unfollowed := true, recurses := true, apart := false, narrowed := true }
def FnSyncTwoUptoSaid : Prop := fnSyncTwoUptoRow.holds Tryz.pinned (OpenSpec.upto fnSyncTwoSpec)

/-- 'laws.FnSyncOwn', WHERE WHAT IT READS IS OF BULK AT MOST 1048576: true; the input reads as it did. -/
def fnSyncOwnUptoRow : OpenClaim := { program := "ytknajiljcemblaagreat", sum := "1ae5d000b12088923bdcf818d4010fb1462b52f0bad1ab2ed64a9a144eb4ffb8", func := "loop.example/townland/laws.FnSyncOwn", spec := "fnSyncOwn", unfollowed := true, recurses := true, apart := false, narrowed := true }
def FnSyncOwnUptoSaid : Prop := fnSyncOwnUptoRow.holds Tryz.pinned (OpenSpec.upto fnSyncOwnSpec)

/-- 'laws.FnSync', WHERE WHAT IT READS IS OF BULK AT MOST 1048576: true; the input reads as it did. -/
def fnSyncUptoRow : OpenClaim := { program := "ytknajiljcemblaagreat", sum := "1ae5d000b12088923bdcf818d4010fb1462b52f0bad1ab2ed64a9a144eb4ffb8", func := "loop.example/townland/laws.FnSync", spec := "fnSync", unfollowed := true, recurses := true, apart := false, narrowed := true }
def FnSyncUptoSaid : Prop := fnSyncUptoRow.holds Tryz.pinned (OpenSpec.upto fnSyncSpec)

end Rows
end Go.Proofs.YtknajiljcemblaaGreat
