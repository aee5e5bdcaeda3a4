/-
  No cell of these rows narrows 'for every input' (looked for: loops, veiled, ifaces, maps, wideKeys, modest, calm, conditions, laid).
  DERIVED. THE GIVEN ROWS OF THIS SEAT. 5 by the template 'for every input the law returns true; each argument reads behind the call as it read before'; 0 by the template 'total and deterministic' (their statements: YtggnnoghnkcmpaaTotals.lean).
  GIVEN WITH THE SEED: the statements are not yours to turn. If you find one false, say at which input.
  Laid BY PROGRAM, IN A SANDBOX (cutbox-rows.mjs): the forced cells as the released guide's own fill.sh prints them over the translation 6d5ad9385345d1a4… (all of the seat's roots in one cut). By AI agents, Wed Nov 11 2026. No macro, syntax, notation, axiom, sorry.
-/
import Derived.Test.YtggnnoghnkcmpaaChecked
import GoSem.Claim
import GoSem.ClaimJoined
import GoSem.ClaimMapViews
import Derived.JoinedTies
import Derived.KernelRfl
namespace Go.Proofs.Ytggnnoghnkcmpaa
/- THE CELL 'sum', in the pinned program and in every row, IS THE sha256 OF THE DUMP (.gsa) THAT YtggnnoghnkcmpaaProg.lean LOADS. Nothing in Lean hashes anything: it is a label: what it is worth is what the hold of that sum in a sandbox is worth. -/
noncomputable def Try.pinned : Pinned := { name := "ytggnnoghnkcmpaa", sum := "6d5ad9385345d1a4f808e3bc11da8f331210ca8dd6711e1f6dcbd12587dd02c1", checked := Try.checked }
namespace Rows
def none {H : Type} : Left H := { results := [], args := [] }

/-- 'laws.FnExactSyncSame': WHATEVER THE INPUT: true; the input reads as it did. -/
def fnExactSyncSameSpec : ChangeSpec := { name := "fnExactSyncSame", fn := fun _ => fun
  | [d1, d2, d3, d4] => { results := [.lit (.bool true)], args := [d1, d2, d3, d4] }
  | _ => none }
def fnExactSyncSameRow : OpenClaim := { program := "ytggnnoghnkcmpaa", sum := "6d5ad9385345d1a4f808e3bc11da8f331210ca8dd6711e1f6dcbd12587dd02c1", func := "loop.example/townland/laws.FnExactSyncSame", spec := "fnExactSyncSame", unfollowed := true, recurses := true, apart := false }
def FnExactSyncSameSaid : Prop := fnExactSyncSameRow.holds Try.pinned (OpenSpec.ofChange fnExactSyncSameSpec)

/-- ITS FALSE NEIGHBOUR: 'it returns false'. Refute it at one input. -/
def fnExactSyncSameWrong : ChangeSpec := { name := "fnExactSyncSame", fn := fun _ => fun
  | [d1, d2, d3, d4] => { results := [.lit (.bool false)], args := [d1, d2, d3, d4] }
  | _ => none }
def FnExactSyncSameWrongFalsely : Prop := fnExactSyncSameRow.holds Try.pinned (OpenSpec.ofChange fnExactSyncSameWrong)

/-- 'laws.FnExactSyncFind': WHATEVER THE INPUT: true; the input reads as it did. -/
def fnExactSyncFindSpec : ChangeSpec := { name := "fnExactSyncFind", fn := fun _ => fun
  | [d1, d2, d3] => { results := [.lit (.bool true)], args := [d1, d2, d3] }
  | _ => none }
def fnExactSyncFindRow : OpenClaim := { program := "ytggnnoghnkcmpaa", sum := "6d5ad9385345d1a4f808e3bc11da8f331210ca8dd6711e1f6dcbd12587dd02c1", func := "loop.example/townland/laws.FnExactSyncFind", spec := "fnExactSyncFind", unfollowed := true, recurses := true, apart := false }
def FnExactSyncFindSaid : Prop := fnExactSyncFindRow.holds Try.pinned (OpenSpec.ofChange fnExactSyncFindSpec)

/-- ITS FALSE NEIGHBOUR: 'it returns false'. Refute it at one input. -/
def fnExactSyncFindWrong : ChangeSpec := { name := "fnExactSyncFind", fn := fun _ => fun
  | [d1, d2, d3] => { results := [.lit (.bool false)], args := [d1, d2, d3] }
  | _ => none }
def FnExactSyncFindWrongFalsely : Prop := fnExactSyncFindRow.holds Try.pinned (OpenSpec.ofChange fnExactSyncFindWrong)

/-- 'laws.FnExactJoinBase': WHATEVER THE INPUT: true; the input reads as it did. -/
def fnExactJoinBaseSpec : ChangeSpec := { name := "fnExactJoinBase", fn := fun _ => fun
  | [d1, d2, d3] => { results := [.lit (.bool true)], args := [d1, d2, d3] }
  | _ => none }
def fnExactJoinBaseRow : OpenClaim := { program := "ytggnnoghnkcmpaa", sum := "6d5ad9385345d1a4f808e3bc11da8f331210ca8dd6711e1f6dcbd12587dd02c1", func := "loop.example/townland/laws.FnExactJoinBase", spec := "fnExactJoinBase", unfollowed := true, recurses := true, apart := false }
def FnExactJoinBaseSaid : Prop := fnExactJoinBaseRow.holds Try.pinned (OpenSpec.ofChange fnExactJoinBaseSpec)

/-- ITS FALSE NEIGHBOUR: 'it returns false'. Refute it at one input. -/
def fnExactJoinBaseWrong : ChangeSpec := { name := "fnExactJoinBase", fn := fun _ => fun
  | [d1, d2, d3] => { results := [.lit (.bool false)], args := [d1, d2, d3] }
  | _ => none }
def FnExactJoinBaseWrongFalsely : Prop := fnExactJoinBaseRow.holds Try.pinned (OpenSpec.ofChange fnExactJoinBaseWrong)

/-- 'laws.FnExactRepoPast': WHATEVER THE INPUT: true; the input reads as it did. -/
def fnExactRepoPastSpec : ChangeSpec := { name := "fnExactRepoPast", fn := fun _ => fun
  | [d1, d2] => { results := [.lit (.bool true)], args := [d1, d2] }
  | _ => none }
def fnExactRepoPastRow : OpenClaim := { program := "ytggnnoghnkcmpaa", sum := "6d5ad9385345d1a4f808e3bc11da8f331210ca8dd6711e1f6dcbd12587dd02c1", func := "loop.example/townland/laws.FnExactRepoPast", spec := "fnExactRepoPast", unfollowed := true, recurses := true, apart := false }
def FnExactRepoPastSaid : Prop := fnExactRepoPastRow.holds Try.pinned (OpenSpec.ofChange fnExactRepoPastSpec)

/-- ITS FALSE NEIGHBOUR: 'it returns false'. Refute it at one input. -/
def fnExactRepoPastWrong : ChangeSpec := { name := "fnExactRepoPast", fn := fun _ => fun
  | [d1, d2] => { results := [.lit (.bool false)], args := [d1, d2] }
  | _ => none }
def FnExactRepoPastWrongFalsely : Prop := fnExactRepoPastRow.holds Try.pinned (OpenSpec.ofChange fnExactRepoPastWrong)

/-- 'laws.FnExactRepoBases': WHATEVER THE INPUT: true; the input reads as it did. -/
def fnExactRepoBasesSpec : ChangeSpec := { name := "fnExactRepoBases", fn := fun _ => fun
  | [d1, d2, d3] => { results := [.lit (.bool true)], args := [d1, d2, d3] }
  | _ => none }
def fnExactRepoBasesRow : OpenClaim := { program := "ytggnnoghnkcmpaa", sum := "6d5ad9385345d1a4f808e3bc11da8f331210ca8dd6711e1f6dcbd12587dd02c1", func := "loop.example/townland/laws.FnExactRepoBases", spec := "fnExactRepoBases", unfollowed := true, recurses := true, apart := false }
def FnExactRepoBasesSaid : Prop := fnExactRepoBasesRow.holds Try.pinned (OpenSpec.ofChange fnExactRepoBasesSpec)

/-- ITS FALSE NEIGHBOUR: 'it returns false'. Refute it at one input. -/
def fnExactRepoBasesWrong : ChangeSpec := { name := "fnExactRepoBases", fn := fun _ => fun
  | [d1, d2, d3] => { results := [.lit (.bool false)], args := [d1, d2, d3] }
  | _ => none }
def FnExactRepoBasesWrongFalsely : Prop := fnExactRepoBasesRow.holds Try.pinned (OpenSpec.ofChange fnExactRepoBasesWrong)

/- THE SECOND FORM. 'bulk': how many values and letters a reading holds, each counted each time it is reached (what is shared counts as often as it is met; a slice's spare places count too). A statement '..UptoSaid' is the law's where the arguments, and the package variables that the reading takes, are together of bulk at most 1048576: NARROWER than '..Said'. Prove '..Said' where nothing that the law and all that it calls make is longer than what came in: it says more and counts as full. Else prove '..UptoSaid'. A law counts once. -/
mutual
def uptoBulk {H : Type} : DataW H → Nat
  | .lit (.string bytes) => bytes.length + 1
  | .lit _ => 1
  | .nil => 1
  | .ptr d => uptoBulk d + 1
  | .slice elems spare => uptoBulkAll elems + uptoBulkAll spare + 1
  | .agg parts => uptoBulkAll parts + 1
  | .iface _ d => uptoBulk d + 1
  | .map entries => uptoBulkEntries entries + 1
  | .held _ => 1
def uptoBulkAll {H : Type} : List (DataW H) → Nat
  | [] => 0
  | d :: r => uptoBulk d + uptoBulkAll r
def uptoBulkEntries {H : Type} : List (Lit × DataW H) → Nat
  | [] => 0
  | x :: r => uptoBulkEntry x + uptoBulkEntries r
def uptoBulkEntry {H : Type} : Lit × DataW H → Nat
  | (.string bytes, d) => bytes.length + uptoBulk d + 1
  | (_, d) => uptoBulk d + 1
 end
def uptoSmall : (H : Type) → List (DataW H) → Bool := fun _ ds => decide (uptoBulkAll ds ≤ 1048576)
def OpenSpec.upto (s : _root_.Go.ChangeSpec) : _root_.Go.OpenSpec := { _root_.Go.OpenSpec.ofChange s with cond := some uptoSmall }

/-- 'laws.FnExactSyncSame', WHERE WHAT IT READS IS OF BULK AT MOST 1048576: true; the input reads as it did. -/
def fnExactSyncSameUptoRow : OpenClaim := { program := "ytggnnoghnkcmpaa", sum := "6d5ad9385345d1a4f808e3bc11da8f331210ca8dd6711e1f6dcbd12587dd02c1", func := "loop.example/townland/laws.FnExactSyncSame", spec := "fnExactSyncSame", unfollowed := true, recurses := true, apart := false, narrowed := true }
def FnExactSyncSameUptoSaid : Prop := fnExactSyncSameUptoRow.holds Try.pinned (OpenSpec.upto fnExactSyncSameSpec)

/-- 'laws.FnExactSyncFind', WHERE WHAT IT READS IS OF BULK AT MOST 1048576: true; the input reads as it did. -/
def fnExactSyncFindUptoRow : OpenClaim := { program := "ytggnnoghnkcmpaa", sum := "6d5ad9385345d1a4f808e3bc11da8f331210ca8dd6711e1f6dcbd12587dd02c1", func := "loop.example/townland/laws.FnExactSyncFind", spec := "fnExactSyncFind", unfollowed := true, recurses := true, apart := false, narrowed := true }
def FnExactSyncFindUptoSaid : Prop := fnExactSyncFindUptoRow.holds Try.pinned (OpenSpec.upto fnExactSyncFindSpec)

/-- 'laws.FnExactJoinBase', WHERE WHAT IT READS IS OF BULK AT MOST 1048576: true; the input reads as it did. -/
def fnExactJoinBaseUptoRow : OpenClaim := { program := "ytggnnoghnkcmpaa", sum := "6d5ad9385345d1a4f808e3bc11da8f331210ca8dd6711e1f6dcbd12587dd02c1", func := "loop.example/townland/laws.FnExactJoinBase", spec := "fnExactJoinBase", unfollowed := true, recurses := true, apart := false, narrowed := true }
def FnExactJoinBaseUptoSaid : Prop := fnExactJoinBaseUptoRow.holds Try.pinned (OpenSpec.upto fnExactJoinBaseSpec)

/-- 'laws.FnExactRepoPast', WHERE WHAT IT READS IS OF BULK AT MOST 1048576: true; the input reads as it did. -/
def fnExactRepoPastUptoRow : OpenClaim := { program := "ytggnnoghnkcmpaa", sum := "6d5ad9385345d1a4f808e3bc11da8f331210ca8dd6711e1f6dcbd12587dd02c1", func := "loop.example/townland/laws.FnExactRepoPast", spec := "fnExactRepoPast", unfollowed := true, recurses := true, apart := false, narrowed := true }
def FnExactRepoPastUptoSaid : Prop := fnExactRepoPastUptoRow.holds Try.pinned (OpenSpec.upto fnExactRepoPastSpec)

/-- 'laws.FnExactRepoBases', WHERE WHAT IT READS IS OF BULK AT MOST 1048576: true; the input reads as it did. -/
def fnExactRepoBasesUptoRow : OpenClaim := { program := "ytggnnoghnkcmpaa", sum := "6d5ad9385345d1a4f808e3bc11da8f331210ca8dd6711e1f6dcbd12587dd02c1", func := "loop.example/townland/laws.FnExactRepoBases", spec := "fnExactRepoBases", unfollowed := true, recurses := true, apart := false, narrowed := true }
def FnExactRepoBasesUptoSaid : Prop := fnExactRepoBasesUptoRow.holds Try.pinned (OpenSpec.upto fnExactRepoBasesSpec)

end Rows
end Go.Proofs.Ytggnnoghnkcmpaa
