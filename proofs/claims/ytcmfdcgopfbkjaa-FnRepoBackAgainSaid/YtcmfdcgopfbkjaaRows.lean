/-
  No cell of these rows narrows 'for every input' (looked for: loops, veiled, ifaces, maps, wideKeys, modest, calm, conditions, laid).
  DERIVED. THE GIVEN ROWS OF THIS SEAT. 6 by the template 'for every input the law returns true; each argument reads behind the call as it read before'; 0 by the template 'total and deterministic' (their statements: YtcmfdcgopfbkjaaTotals.lean).
  GIVEN WITH THE SEED: the statements are not yours to turn. If you find one false, say at which input.
  Laid BY PROGRAM, IN A SANDBOX (cutbox-rows.mjs): the forced cells as the released guide's own fill.sh prints them over the translation 6ddd7b562ea933ca… (all of the seat's roots in one cut). By AI agents, Wed Nov 11 2026. No macro, syntax, notation, axiom, sorry.
-/
import Derived.Test.YtcmfdcgopfbkjaaChecked
import GoSem.Claim
import GoSem.ClaimJoined
import GoSem.ClaimMapViews
import Derived.JoinedTies
import Derived.KernelRfl
namespace Go.Proofs.Ytcmfdcgopfbkjaa
/- THE CELL 'sum', in the pinned program and in every row, IS THE sha256 OF THE DUMP (.gsa) THAT YtcmfdcgopfbkjaaProg.lean LOADS. Nothing in Lean hashes anything: it is a label: what it is worth is what the hold of that sum in a sandbox is worth. -/
noncomputable def Try.pinned : Pinned := { name := "ytcmfdcgopfbkjaa", sum := "6ddd7b562ea933ca5ec030d4909d769bbbff1c99504df12dfc4f06ee643bf923", checked := Try.checked }
namespace Rows
def none {H : Type} : Left H := { results := [], args := [] }

/-- 'laws.FnJoinBase': WHATEVER THE INPUT: true; the input reads as it did. -/
def fnJoinBaseSpec : ChangeSpec := { name := "fnJoinBase", fn := fun _ => fun
  | [d] => { results := [.lit (.bool true)], args := [d] }
  | _ => none }
def fnJoinBaseRow : OpenClaim := { program := "ytcmfdcgopfbkjaa", sum := "6ddd7b562ea933ca5ec030d4909d769bbbff1c99504df12dfc4f06ee643bf923", func := "loop.example/townland/laws.FnJoinBase", spec := "fnJoinBase", unfollowed := true, recurses := true, apart := false }
def FnJoinBaseSaid : Prop := fnJoinBaseRow.holds Try.pinned (OpenSpec.ofChange fnJoinBaseSpec)

/-- ITS FALSE NEIGHBOUR: 'it returns false'. Refute it at one input. -/
def fnJoinBaseWrong : ChangeSpec := { name := "fnJoinBase", fn := fun _ => fun
  | [d] => { results := [.lit (.bool false)], args := [d] }
  | _ => none }
def FnJoinBaseWrongFalsely : Prop := fnJoinBaseRow.holds Try.pinned (OpenSpec.ofChange fnJoinBaseWrong)

/-- 'laws.FnRepoOnce': WHATEVER THE INPUT: true; the input reads as it did. -/
def fnRepoOnceSpec : ChangeSpec := { name := "fnRepoOnce", fn := fun _ => fun
  | [d] => { results := [.lit (.bool true)], args := [d] }
  | _ => none }
def fnRepoOnceRow : OpenClaim := { program := "ytcmfdcgopfbkjaa", sum := "6ddd7b562ea933ca5ec030d4909d769bbbff1c99504df12dfc4f06ee643bf923", func := "loop.example/townland/laws.FnRepoOnce", spec := "fnRepoOnce", unfollowed := true, recurses := true, apart := false }
def FnRepoOnceSaid : Prop := fnRepoOnceRow.holds Try.pinned (OpenSpec.ofChange fnRepoOnceSpec)

/-- ITS FALSE NEIGHBOUR: 'it returns false'. Refute it at one input. -/
def fnRepoOnceWrong : ChangeSpec := { name := "fnRepoOnce", fn := fun _ => fun
  | [d] => { results := [.lit (.bool false)], args := [d] }
  | _ => none }
def FnRepoOnceWrongFalsely : Prop := fnRepoOnceRow.holds Try.pinned (OpenSpec.ofChange fnRepoOnceWrong)

/-- 'laws.FnRepoSweep': WHATEVER THE INPUT: true; the input reads as it did. -/
def fnRepoSweepSpec : ChangeSpec := { name := "fnRepoSweep", fn := fun _ => fun
  | [d] => { results := [.lit (.bool true)], args := [d] }
  | _ => none }
def fnRepoSweepRow : OpenClaim := { program := "ytcmfdcgopfbkjaa", sum := "6ddd7b562ea933ca5ec030d4909d769bbbff1c99504df12dfc4f06ee643bf923", func := "loop.example/townland/laws.FnRepoSweep", spec := "fnRepoSweep", unfollowed := true, recurses := true, apart := false }
def FnRepoSweepSaid : Prop := fnRepoSweepRow.holds Try.pinned (OpenSpec.ofChange fnRepoSweepSpec)

/-- ITS FALSE NEIGHBOUR: 'it returns false'. Refute it at one input. -/
def fnRepoSweepWrong : ChangeSpec := { name := "fnRepoSweep", fn := fun _ => fun
  | [d] => { results := [.lit (.bool false)], args := [d] }
  | _ => none }
def FnRepoSweepWrongFalsely : Prop := fnRepoSweepRow.holds Try.pinned (OpenSpec.ofChange fnRepoSweepWrong)

/-- 'laws.FnRepoHeads': WHATEVER THE INPUT: true; the input reads as it did. -/
def fnRepoHeadsSpec : ChangeSpec := { name := "fnRepoHeads", fn := fun _ => fun
  | [d] => { results := [.lit (.bool true)], args := [d] }
  | _ => none }
def fnRepoHeadsRow : OpenClaim := { program := "ytcmfdcgopfbkjaa", sum := "6ddd7b562ea933ca5ec030d4909d769bbbff1c99504df12dfc4f06ee643bf923", func := "loop.example/townland/laws.FnRepoHeads", spec := "fnRepoHeads", unfollowed := true, recurses := true, apart := false }
def FnRepoHeadsSaid : Prop := fnRepoHeadsRow.holds Try.pinned (OpenSpec.ofChange fnRepoHeadsSpec)

/-- ITS FALSE NEIGHBOUR: 'it returns false'. Refute it at one input. -/
def fnRepoHeadsWrong : ChangeSpec := { name := "fnRepoHeads", fn := fun _ => fun
  | [d] => { results := [.lit (.bool false)], args := [d] }
  | _ => none }
def FnRepoHeadsWrongFalsely : Prop := fnRepoHeadsRow.holds Try.pinned (OpenSpec.ofChange fnRepoHeadsWrong)

/-- 'laws.FnRepo': WHATEVER THE INPUT: true; the input reads as it did. -/
def fnRepoSpec : ChangeSpec := { name := "fnRepo", fn := fun _ => fun
  | [d] => { results := [.lit (.bool true)], args := [d] }
  | _ => none }
def fnRepoRow : OpenClaim := { program := "ytcmfdcgopfbkjaa", sum := "6ddd7b562ea933ca5ec030d4909d769bbbff1c99504df12dfc4f06ee643bf923", func := "loop.example/townland/laws.FnRepo", spec := "fnRepo", unfollowed := true, recurses := true, apart := false }
def FnRepoSaid : Prop := fnRepoRow.holds Try.pinned (OpenSpec.ofChange fnRepoSpec)

/-- ITS FALSE NEIGHBOUR: 'it returns false'. Refute it at one input. -/
def fnRepoWrong : ChangeSpec := { name := "fnRepo", fn := fun _ => fun
  | [d] => { results := [.lit (.bool false)], args := [d] }
  | _ => none }
def FnRepoWrongFalsely : Prop := fnRepoRow.holds Try.pinned (OpenSpec.ofChange fnRepoWrong)

/-- 'laws.FnRepoBackAgain': WHATEVER THE INPUT: true; the input reads as it did. -/
def fnRepoBackAgainSpec : ChangeSpec := { name := "fnRepoBackAgain", fn := fun _ => fun
  | [d] => { results := [.lit (.bool true)], args := [d] }
  | _ => none }
def fnRepoBackAgainRow : OpenClaim := { program := "ytcmfdcgopfbkjaa", sum := "6ddd7b562ea933ca5ec030d4909d769bbbff1c99504df12dfc4f06ee643bf923", func := "loop.example/townland/laws.FnRepoBackAgain", spec := "fnRepoBackAgain", unfollowed := true, recurses := true, apart := false }
def FnRepoBackAgainSaid : Prop := fnRepoBackAgainRow.holds Try.pinned (OpenSpec.ofChange fnRepoBackAgainSpec)

/-- ITS FALSE NEIGHBOUR: 'it returns false'. Refute it at one input. -/
def fnRepoBackAgainWrong : ChangeSpec := { name := "fnRepoBackAgain", fn := fun _ => fun
  | [d] => { results := [.lit (.bool false)], args := [d] }
  | _ => none }
def FnRepoBackAgainWrongFalsely : Prop := fnRepoBackAgainRow.holds Try.pinned (OpenSpec.ofChange fnRepoBackAgainWrong)

/- THE SECOND FORM. 'bulk': how many values and letters a reading holds, each counted each time it is reached (what is shared counts as often as it is met; a slice's spare places count too). A statement '..UptoSaid' is the law's where the arguments, and the package variables that the reading takes, are together of bulk at most 1048576: NARROWER than '..Said'. Prove '..Said' where nothing that the law and all that it calls make is longer than what came in: it says more and counts as full. Else prove '..UptoSaid'. A law counts once. -/
mutual
def uptoBulk {H : Type} : DataW H → Nat
  | .lit (.string bytes) => bytes.length + 1
  | .lit _ => 1
  | .nil => 1
  | .ptr d => uptoBulk d + 1
  | .slice elems spare => uptoBulkAll elems + uptoBulkAll spare + 1
  | .agg parts => uptoBulkAll parts + 1
  | .iface _ d => uptoBulk d + 1
  | .map entries => uptoBulkEntries entries + 1
  | .held _ => 1
def uptoBulkAll {H : Type} : List (DataW H) → Nat
  | [] => 0
  | d :: r => uptoBulk d + uptoBulkAll r
def uptoBulkEntries {H : Type} : List (Lit × DataW H) → Nat
  | [] => 0
  | x :: r => uptoBulkEntry x + uptoBulkEntries r
def uptoBulkEntry {H : Type} : Lit × DataW H → Nat
  | (.string bytes, d) => bytes.length + uptoBulk d + 1
  | (_, d) => uptoBulk d + 1
 end
def uptoSmall : (H : Type) → List (DataW H) → Bool := fun _ ds => decide (uptoBulkAll ds ≤ 1048576)
def OpenSpec.upto (s : _root_.Go.ChangeSpec) : _root_.Go.OpenSpec := { _root_.Go.OpenSpec.ofChange s with cond := some uptoSmall }

/-- 'laws.FnJoinBase', WHERE WHAT IT READS IS OF BULK AT MOST 1048576: true; the input reads as it did. -/
def fnJoinBaseUptoRow : OpenClaim := { program := "ytcmfdcgopfbkjaa", sum := "6ddd7b562ea933ca5ec030d4909d769bbbff1c99504df12dfc4f06ee643bf923", func := "loop.example/townland/laws.FnJoinBase", spec := "fnJoinBase", unfollowed := true, recurses := true, apart := false, narrowed := true }
def FnJoinBaseUptoSaid : Prop := fnJoinBaseUptoRow.holds Try.pinned (OpenSpec.upto fnJoinBaseSpec)

/-- 'laws.FnRepoOnce', WHERE WHAT IT READS IS OF BULK AT MOST 1048576: true; the input reads as it did. -/
def fnRepoOnceUptoRow : OpenClaim := { program := "ytcmfdcgopfbkjaa", sum := "6ddd7b562ea933ca5ec030d4909d769bbbff1c99504df12dfc4f06ee643bf923", func := "loop.example/townland/laws.FnRepoOnce", spec := "fnRepoOnce", unfollowed := true, recurses := true, apart := false, narrowed := true }
def FnRepoOnceUptoSaid : Prop := fnRepoOnceUptoRow.holds Try.pinned (OpenSpec.upto fnRepoOnceSpec)

/-- 'laws.FnRepoSweep', WHERE WHAT IT READS IS OF BULK AT MOST 1048576: true; the input reads as it did. -/
def fnRepoSweepUptoRow : OpenClaim := { program := "ytcmfdcgopfbkjaa", sum := "6ddd7b562ea933ca5ec030d4909d769bbbff1c99504df12dfc4f06ee643bf923", func := "loop.example/townland/laws.FnRepoSweep", spec := "fnRepoSweep", unfollowed := true, recurses := true, apart := false, narrowed := true }
def FnRepoSweepUptoSaid : Prop := fnRepoSweepUptoRow.holds Try.pinned (OpenSpec.upto fnRepoSweepSpec)

/-- 'laws.FnRepoHeads', WHERE WHAT IT READS IS OF BULK AT MOST 1048576: true; the input reads as it did. -/
def fnRepoHeadsUptoRow : OpenClaim := { program := "ytcmfdcgopfbkjaa", sum := "6ddd7b562ea933ca5ec030d4909d769bbbff1c99504df12dfc4f06ee643bf923", func := "loop.example/townland/laws.FnRepoHeads", spec := "fnRepoHeads", unfollowed := true, recurses := true, apart := false, narrowed := true }
def FnRepoHeadsUptoSaid : Prop := fnRepoHeadsUptoRow.holds Try.pinned (OpenSpec.upto fnRepoHeadsSpec)

/-- 'laws.FnRepo', WHERE WHAT IT READS IS OF BULK AT MOST 1048576: true; the input reads as it did. -/
def fnRepoUptoRow : OpenClaim := { program := "ytcmfdcgopfbkjaa", sum := "6ddd7b562ea933ca5ec030d4909d769bbbff1c99504df12dfc4f06ee643bf923", func := "loop.example/townland/laws.FnRepo", spec := "fnRepo", unfollowed := true, recurses := true, apart := false, narrowed := true }
def FnRepoUptoSaid : Prop := fnRepoUptoRow.holds Try.pinned (OpenSpec.upto fnRepoSpec)

/-- 'laws.FnRepoBackAgain', WHERE WHAT IT READS IS OF BULK AT MOST 1048576: true; the input reads as it did. -/
def fnRepoBackAgainUptoRow : OpenClaim := { program := "ytcmfdcgopfbkjaa", sum := "6ddd7b562ea933ca5ec030d4909d769bbbff1c99504df12dfc4f06ee643bf923", func := "loop.example/townland/laws.FnRepoBackAgain", spec := "fnRepoBackAgain", unfollowed := true, recurses := true, apart := false, narrowed := true }
def FnRepoBackAgainUptoSaid : Prop := fnRepoBackAgainUptoRow.holds Try.pinned (OpenSpec.upto fnRepoBackAgainSpec)

end Rows
end Go.Proofs.Ytcmfdcgopfbkjaa
