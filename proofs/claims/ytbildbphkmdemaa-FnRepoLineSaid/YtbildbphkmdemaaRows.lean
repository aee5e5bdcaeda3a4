/-
  No cell of these rows narrows 'for every input' (looked for: loops, veiled, ifaces, maps, wideKeys, modest, calm, conditions, laid).
  DERIVED. THE GIVEN ROWS OF THIS SEAT. 5 by the template 'for every input the law returns true; each argument reads behind the call as it read before'; 0 by the template 'total and deterministic' (their statements: YtbildbphkmdemaaTotals.lean).
  GIVEN WITH THE SEED: the statements are not yours to turn. If you find one false, say at which input.
  Laid BY PROGRAM, IN A SANDBOX (cutbox-rows.mjs): the forced cells as the released guide's own fill.sh prints them over the translation 815378856e1e692e… (all of the seat's roots in one cut). By AI agents, Wed Nov 11 2026. No macro, syntax, notation, axiom, sorry.
-/
import Derived.Test.YtbildbphkmdemaaChecked
import GoSem.Claim
import GoSem.ClaimJoined
import GoSem.ClaimMapViews
import Derived.JoinedTies
import Derived.KernelRfl
namespace Go.Proofs.Ytbildbphkmdemaa
/- THE CELL 'sum', in the pinned program and in every row, IS THE sha256 OF THE DUMP (.gsa) THAT YtbildbphkmdemaaProg.lean LOADS. Nothing in Lean hashes anything: it is a label: what it is worth is what the hold of that sum in a sandbox is worth. -/
noncomputable def Try.pinned : Pinned := { name := "ytbildbphkmdemaa", sum := "815378856e1e692ea3a175938c8b668b93587fb033f92fd4fd2370f4a4a2fec7", checked := Try.checked }
namespace Rows
def none {H : Type} : Left H := { results := [], args := [] }

/-- 'laws.FnRepoBent': WHATEVER THE INPUT: true; the input reads as it did. -/
def fnRepoBentSpec : ChangeSpec := { name := "fnRepoBent", fn := fun _ => fun
  | [d] => { results := [.lit (.bool true)], args := [d] }
  | _ => none }
def fnRepoBentRow : OpenClaim := { program := "ytbildbphkmdemaa", sum := "815378856e1e692ea3a175938c8b668b93587fb033f92fd4fd2370f4a4a2fec7", func := "loop.example/townland/laws.FnRepoBent", spec := "fnRepoBent", unfollowed := true, recurses := true, apart := false }
def FnRepoBentSaid : Prop := fnRepoBentRow.holds Try.pinned (OpenSpec.ofChange fnRepoBentSpec)

/-- ITS FALSE NEIGHBOUR: 'it returns false'. Refute it at one input. -/
def fnRepoBentWrong : ChangeSpec := { name := "fnRepoBent", fn := fun _ => fun
  | [d] => { results := [.lit (.bool false)], args := [d] }
  | _ => none }
def FnRepoBentWrongFalsely : Prop := fnRepoBentRow.holds Try.pinned (OpenSpec.ofChange fnRepoBentWrong)

/-- 'laws.FnSyncSame': WHATEVER THE INPUT: true; the input reads as it did. -/
def fnSyncSameSpec : ChangeSpec := { name := "fnSyncSame", fn := fun _ => fun
  | [d] => { results := [.lit (.bool true)], args := [d] }
  | _ => none }
def fnSyncSameRow : OpenClaim := { program := "ytbildbphkmdemaa", sum := "815378856e1e692ea3a175938c8b668b93587fb033f92fd4fd2370f4a4a2fec7", func := "loop.example/townland/laws.FnSyncSame", spec := "fnSyncSame", unfollowed := true, recurses := true, apart := false }
def FnSyncSameSaid : Prop := fnSyncSameRow.holds Try.pinned (OpenSpec.ofChange fnSyncSameSpec)

/-- ITS FALSE NEIGHBOUR: 'it returns false'. Refute it at one input. -/
def fnSyncSameWrong : ChangeSpec := { name := "fnSyncSame", fn := fun _ => fun
  | [d] => { results := [.lit (.bool false)], args := [d] }
  | _ => none }
def FnSyncSameWrongFalsely : Prop := fnSyncSameRow.holds Try.pinned (OpenSpec.ofChange fnSyncSameWrong)

/-- 'laws.FnRepoBranch': WHATEVER THE INPUT: true; the input reads as it did. -/
def fnRepoBranchSpec : ChangeSpec := { name := "fnRepoBranch", fn := fun _ => fun
  | [d] => { results := [.lit (.bool true)], args := [d] }
  | _ => none }
def fnRepoBranchRow : OpenClaim := { program := "ytbildbphkmdemaa", sum := "815378856e1e692ea3a175938c8b668b93587fb033f92fd4fd2370f4a4a2fec7", func := "loop.example/townland/laws.FnRepoBranch", spec := "fnRepoBranch", unfollowed := true, recurses := true, apart := false }
def FnRepoBranchSaid : Prop := fnRepoBranchRow.holds Try.pinned (OpenSpec.ofChange fnRepoBranchSpec)

/-- ITS FALSE NEIGHBOUR: 'it returns false'. Refute it at one input. -/
def fnRepoBranchWrong : ChangeSpec := { name := "fnRepoBranch", fn := fun _ => fun
  | [d] => { results := [.lit (.bool false)], args := [d] }
  | _ => none }
def FnRepoBranchWrongFalsely : Prop := fnRepoBranchRow.holds Try.pinned (OpenSpec.ofChange fnRepoBranchWrong)

/-- 'laws.FnRepoDrop': WHATEVER THE INPUT: true; the input reads as it did. -/
def fnRepoDropSpec : ChangeSpec := { name := "fnRepoDrop", fn := fun _ => fun
  | [d] => { results := [.lit (.bool true)], args := [d] }
  | _ => none }
def fnRepoDropRow : OpenClaim := { program := "ytbildbphkmdemaa", sum := "815378856e1e692ea3a175938c8b668b93587fb033f92fd4fd2370f4a4a2fec7", func := "loop.example/townland/laws.FnRepoDrop", spec := "fnRepoDrop", unfollowed := true, recurses := true, apart := false }
def FnRepoDropSaid : Prop := fnRepoDropRow.holds Try.pinned (OpenSpec.ofChange fnRepoDropSpec)

/-- ITS FALSE NEIGHBOUR: 'it returns false'. Refute it at one input. -/
def fnRepoDropWrong : ChangeSpec := { name := "fnRepoDrop", fn := fun _ => fun
  | [d] => { results := [.lit (.bool false)], args := [d] }
  | _ => none }
def FnRepoDropWrongFalsely : Prop := fnRepoDropRow.holds Try.pinned (OpenSpec.ofChange fnRepoDropWrong)

/-- 'laws.FnRepoLine': WHATEVER THE INPUT: true; the input reads as it did. -/
def fnRepoLineSpec : ChangeSpec := { name := "fnRepoLine", fn := fun _ => fun
  | [d] => { results := [.lit (.bool true)], args := [d] }
  | _ => none }
def fnRepoLineRow : OpenClaim := { program := "ytbildbphkmdemaa", sum := "815378856e1e692ea3a175938c8b668b93587fb033f92fd4fd2370f4a4a2fec7", func := "loop.example/townland/laws.FnRepoLine", spec := "fnRepoLine", unfollowed := true, recurses := true, apart := false }
def FnRepoLineSaid : Prop := fnRepoLineRow.holds Try.pinned (OpenSpec.ofChange fnRepoLineSpec)

/-- ITS FALSE NEIGHBOUR: 'it returns false'. Refute it at one input. -/
def fnRepoLineWrong : ChangeSpec := { name := "fnRepoLine", fn := fun _ => fun
  | [d] => { results := [.lit (.bool false)], args := [d] }
  | _ => none }
def FnRepoLineWrongFalsely : Prop := fnRepoLineRow.holds Try.pinned (OpenSpec.ofChange fnRepoLineWrong)

/- THE SECOND FORM. 'bulk': how many values and letters a reading holds, each counted each time it is reached (what is shared counts as often as it is met; a slice's spare places count too). A statement '..UptoSaid' is the law's where the arguments, and the package variables that the reading takes, are together of bulk at most 1048576: NARROWER than '..Said'. Prove '..Said' where nothing that the law and all that it calls make is longer than what came in: it says more and counts as full. Else prove '..UptoSaid'. A law counts once. -/
mutual
def uptoBulk {H : Type} : DataW H → Nat
  | .lit (.string bytes) => bytes.length + 1
  | .lit _ => 1
  | .nil => 1
  | .ptr d => uptoBulk d + 1
  | .slice elems spare => uptoBulkAll elems + uptoBulkAll spare + 1
  | .agg parts => uptoBulkAll parts + 1
  | .iface _ d => uptoBulk d + 1
  | .map entries => uptoBulkEntries entries + 1
  | .held _ => 1
def uptoBulkAll {H : Type} : List (DataW H) → Nat
  | [] => 0
  | d :: r => uptoBulk d + uptoBulkAll r
def uptoBulkEntries {H : Type} : List (Lit × DataW H) → Nat
  | [] => 0
  | x :: r => uptoBulkEntry x + uptoBulkEntries r
def uptoBulkEntry {H : Type} : Lit × DataW H → Nat
  | (.string bytes, d) => bytes.length + uptoBulk d + 1
  | (_, d) => uptoBulk d + 1
 end
def uptoSmall : (H : Type) → List (DataW H) → Bool := fun _ ds => decide (uptoBulkAll ds ≤ 1048576)
def OpenSpec.upto (s : _root_.Go.ChangeSpec) : _root_.Go.OpenSpec := { _root_.Go.OpenSpec.ofChange s with cond := some uptoSmall }

/-- 'laws.FnRepoBent', WHERE WHAT IT READS IS OF BULK AT MOST 1048576: true; the input reads as it did. -/
def fnRepoBentUptoRow : OpenClaim := { program := "ytbildbphkmdemaa", sum := "815378856e1e692ea3a175938c8b668b93587fb033f92fd4fd2370f4a4a2fec7", func := "loop.example/townland/laws.FnRepoBent", spec := "fnRepoBent", unfollowed := true, recurses := true, apart := false, narrowed := true }
def FnRepoBentUptoSaid : Prop := fnRepoBentUptoRow.holds Try.pinned (OpenSpec.upto fnRepoBentSpec)

/-- 'laws.FnSyncSame', WHERE WHAT IT READS IS OF BULK AT MOST 1048576: true; the input reads as it did. -/
def fnSyncSameUptoRow : OpenClaim := { program := "ytbildbphkmdemaa", sum := "815378856e1e692ea3a175938c8b668b93587fb033f92fd4fd2370f4a4a2fec7", func := "loop.example/townland/laws.FnSyncSame", spec := "fnSyncSame", unfollowed := true, recurses := true, apart := false, narrowed := true }
def FnSyncSameUptoSaid : Prop := fnSyncSameUptoRow.holds Try.pinned (OpenSpec.upto fnSyncSameSpec)

/-- 'laws.FnRepoBranch', WHERE WHAT IT READS IS OF BULK AT MOST 1048576: true; the input reads as it did. -/
def fnRepoBranchUptoRow : OpenClaim := { program := "ytbildbphkmdemaa", sum := "815378856e1e692ea3a175938c8b668b93587fb033f92fd4fd2370f4a4a2fec7", func := "loop.example/townland/laws.FnRepoBranch", spec := "fnRepoBranch", unfollowed := true, recurses := true, apart := false, narrowed := true }
def FnRepoBranchUptoSaid : Prop := fnRepoBranchUptoRow.holds Try.pinned (OpenSpec.upto fnRepoBranchSpec)

/-- 'laws.FnRepoDrop', WHERE WHAT IT READS IS OF BULK AT MOST 1048576: true; the input reads as it did. -/
def fnRepoDropUptoRow : OpenClaim := { program := "ytbildbphkmdemaa", sum := "815378856e1e692ea3a175938c8b668b93587fb033f92fd4fd2370f4a4a2fec7", func := "loop.example/townland/laws.FnRepoDrop", spec := "fnRepoDrop", unfollowed := true, recurses := true, apart := false, narrowed := true }
def FnRepoDropUptoSaid : Prop := fnRepoDropUptoRow.holds Try.pinned (OpenSpec.upto fnRepoDropSpec)

/-- 'laws.FnRepoLine', WHERE WHAT IT READS IS OF BULK AT MOST 1048576: true; the input reads as it did. -/
def fnRepoLineUptoRow : OpenClaim := { program := "ytbildbphkmdemaa", sum := "815378856e1e692ea3a175938c8b668b93587fb033f92fd4fd2370f4a4a2fec7", func := "loop.example/townland/laws.FnRepoLine", spec := "fnRepoLine", unfollowed := true, recurses := true, apart := false, narrowed := true }
def FnRepoLineUptoSaid : Prop := fnRepoLineUptoRow.holds Try.pinned (OpenSpec.upto fnRepoLineSpec)

end Rows
end Go.Proofs.Ytbildbphkmdemaa
