/-
  No cell of these rows narrows 'for every input' (looked for: loops, veiled, ifaces, maps, wideKeys, modest, calm, conditions, laid).
  DERIVED. THE GIVEN ROWS OF THIS SEAT. 3 by the template 'for every input the law returns true; each argument reads behind the call as it read before'; 0 by the template 'total and deterministic' (their statements: YtodmjmkakgamlaaGreatTotals.lean).
  GIVEN WITH THE SEED: the statements are not yours to turn. If you find one false, say at which input.
  Laid BY PROGRAM, IN A SANDBOX (cutbox-rows.mjs): the forced cells as the released guide's own fill.sh prints them over the translation f59ed65c78b3dc8f… (all of the seat's roots in one cut). By AI agents, Wed Nov 11 2026. No macro, syntax, notation, axiom, sorry.
-/
import Derived.Test.YtodmjmkakgamlaaGreatChecked
import GoSem.Claim
import GoSem.ClaimJoined
import GoSem.ClaimMapViews
import Derived.JoinedTies
import Derived.KernelRfl
namespace Go.Proofs.YtodmjmkakgamlaaGreat
/- THE CELL 'sum', in the pinned program and in every row, IS THE sha256 OF THE DUMP (.gsa) THAT YtodmjmkakgamlaaGreatProg.lean LOADS. Nothing in Lean hashes anything: it is a label: what it is worth is what the hold of that sum in a sandbox is worth. -/
noncomputable def Tryz.pinned : Pinned := { name := "ytodmjmkakgamlaagreat", sum := "f59ed65c78b3dc8fc5dd89329a25332ae807c37af8428e57e116b30fd51c3f52", checked := Tryz.checked }
namespace Rows
def none {H : Type} : Left H := { results := [], args := [] }

/-- 'laws.FnPackCut': WHATEVER THE INPUT: true; the input reads as it did. -/
def fnPackCutSpec : ChangeSpec := { name := "fnPackCut", fn := fun _ => fun
  | [d1, d2] => { results := [.lit (.bool true)], args := [d1, d2] }
  | _ => none }
def fnPackCutRow : OpenClaim := { program := "ytodmjmkakgamlaagreat", sum := "f59ed65c78b3dc8fc5dd89329a25332ae807c37af8428e57e116b30fd51c3f52", func := "loop.example/townland/laws.FnPackCut", spec := "fnPackCut", unfollowed := true, recurses := true, apart := false }
def FnPackCutSaid : Prop := fnPackCutRow.holds Tryz.pinned (OpenSpec.ofChange fnPackCutSpec)

/-- ITS FALSE NEIGHBOUR: 'it returns false'. Refute it at one input. -/
def fnPackCutWrong : ChangeSpec := { name := "fnPackCut", fn := fun _ => fun
  | [d1, d2] => { results := [.lit (.bool false)], args := [d1, d2] }
  | _ => none }
def FnPackCutWrongFalsely : Prop := fnPackCutRow.holds Tryz.pinned (OpenSpec.ofChange fnPackCutWrong)

/-- 'laws.FnExactPackOf': WHATEVER THE INPUT: true; the input reads as it did. -/
def fnExactPackOfSpec : ChangeSpec := { name := "fnExactPackOf", fn := fun _ => fun
  | [d] => { results := [.lit (.bool true)], args := [d] }
  | _ => none }
def fnExactPackOfRow : OpenClaim := { program := "ytodmjmkakgamlaagreat", sum := "f59ed65c78b3dc8fc5dd89329a25332ae807c37af8428e57e116b30fd51c3f52", func := "loop.example/townland/laws.FnExactPackOf", spec := "fnExactPackOf", unfollowed := true, recurses := true, apart := false }
def FnExactPackOfSaid : Prop := fnExactPackOfRow.holds Tryz.pinned (OpenSpec.ofChange fnExactPackOfSpec)

/-- ITS FALSE NEIGHBOUR: 'it returns false'. Refute it at one input. -/
def fnExactPackOfWrong : ChangeSpec := { name := "fnExactPackOf", fn := fun _ => fun
  | [d] => { results := [.lit (.bool false)], args := [d] }
  | _ => none }
def FnExactPackOfWrongFalsely : Prop := fnExactPackOfRow.holds Tryz.pinned (OpenSpec.ofChange fnExactPackOfWrong)

/-- 'laws.FnExactPackOpen': WHATEVER THE INPUT: true; the input reads as it did. -/
def fnExactPackOpenSpec : ChangeSpec := { name := "fnExactPackOpen", fn := fun _ => fun
  | [d1, d2] => { results := [.lit (.bool true)], args := [d1, d2] }
  | _ => none }
def fnExactPackOpenRow : OpenClaim := { program := "ytodmjmkakgamlaagreat", sum := "f59ed65c78b3dc8fc5dd89329a25332ae807c37af8428e57e116b30fd51c3f52", func := "loop.example/townland/laws.FnExactPackOpen", spec := "fnExactPackOpen", unfollowed := true, recurses := true, apart := false }
def FnExactPackOpenSaid : Prop := fnExactPackOpenRow.holds Tryz.pinned (OpenSpec.ofChange fnExactPackOpenSpec)

/-- ITS FALSE NEIGHBOUR: 'it returns false'. Refute it at one input. -/
def fnExactPackOpenWrong : ChangeSpec := { name := "fnExactPackOpen", fn := fun _ => fun
  | [d1, d2] => { results := [.lit (.bool false)], args := [d1, d2] }
  | _ => none }
def FnExactPackOpenWrongFalsely : Prop := fnExactPackOpenRow.holds Tryz.pinned (OpenSpec.ofChange fnExactPackOpenWrong)

/- THE SECOND FORM. 'bulk': how many values and letters a reading holds, each counted each time it is reached (what is shared counts as often as it is met; a slice's spare places count too). A statement '..UptoSaid' is the law's where the arguments, and the package variables that the reading takes, are together of bulk at most 1048576: NARROWER than '..Said'. Prove '..Said' where nothing that the law and all that it calls make is longer than what came in: it says more and counts as full. Else prove '..UptoSaid'. A law counts once. -/
mutual
def uptoBulk {H : Type} : DataW H → Nat
  | .lit (.string bytes) => bytes.length + 1
  | .lit _ => 1
  | .nil => 1
  | .ptr d => uptoBulk d + 1
  | .slice elems spare => uptoBulkAll elems + uptoBulkAll spare + 1
  | .agg parts => uptoBulkAll parts + 1
  | .iface _ d => uptoBulk d + 1
  | .map entries => uptoBulkEntries entries + 1
  | .held _ => 1
def uptoBulkAll {H : Type} : List (DataW H) → Nat
  | [] => 0
  | d :: r => uptoBulk d + uptoBulkAll r
def uptoBulkEntries {H : Type} : List (Lit × DataW H) → Nat
  | [] => 0
  | x :: r => uptoBulkEntry x + uptoBulkEntries r
def uptoBulkEntry {H : Type} : Lit × DataW H → Nat
  | (.string bytes, d) => bytes.length + uptoBulk d + 1
  | (_, d) => uptoBulk d + 1
 end
def uptoSmall : (H : Type) → List (DataW H) → Bool := fun _ ds => decide (uptoBulkAll ds ≤ 1048576)
def OpenSpec.upto (s : _root_.Go.ChangeSpec) : _root_.Go.OpenSpec := { _root_.Go.OpenSpec.ofChange s with cond := some uptoSmall }

/-- 'laws.FnPackCut', WHERE WHAT IT READS IS OF BULK AT MOST 1048576: true; the input reads as it did. -/
def fnPackCutUptoRow : OpenClaim := { program := "ytodmjmkakgamlaagreat", sum := "f59ed65c78b3dc8fc5dd89329a25332ae807c37af8428e57e116b30fd51c3f52", func := "loop.example/townland/laws.FnPackCut", spec := "fnPackCut", unfollowed := true, recurses := true, apart := false, narrowed := true }
def FnPackCutUptoSaid : Prop := fnPackCutUptoRow.holds Tryz.pinned (OpenSpec.upto fnPackCutSpec)

/-- 'laws.FnExactPackOf', WHERE WHAT IT READS IS OF BULK AT MOST 1048576: true; the input reads as it did. -/
def fnExactPackOfUptoRow : OpenClaim := { program := "ytodmjmkakgamlaagreat", sum := "f59ed65c78b3dc8fc5dd89329a25332ae807c37af8428e57e116b30fd51c3f52", func := "loop.example/townland/laws.FnExactPackOf", spec := "fnExactPackOf", unfollowed := true, recurses := true, apart := false, narrowed := true }
def FnExactPackOfUptoSaid : Prop := fnExactPackOfUptoRow.holds Tryz.pinned (OpenSpec.upto fnExactPackOfSpec)

/-- 'laws.FnExactPackOpen', WHERE WHAT IT READS IS OF BULK AT MOST 1048576: true; the input reads as it did. -/
def fnExactPackOpenUptoRow : OpenClaim := { program := "ytodmjmkakgamlaagreat", sum := "f59ed65c78b3dc8fc5dd89329a25332ae807c37af8428e57e116b30fd51c3f52", func := "loop.example/townland/laws.FnExactPackOpen", spec := "fnExactPackOpen", unfollowed := true, recurses := true, apart := false, narrowed := true }
def FnExactPackOpenUptoSaid : Prop := fnExactPackOpenUptoRow.holds Tryz.pinned (OpenSpec.upto fnExactPackOpenSpec)

end Rows
end Go.Proofs.YtodmjmkakgamlaaGreat
