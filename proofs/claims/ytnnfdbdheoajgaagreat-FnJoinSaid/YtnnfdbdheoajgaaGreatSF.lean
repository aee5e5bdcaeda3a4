/- Lemmas of the proof (SF), on an abstract machine. Conditions: none. -/
import Derived.Test.YtnnfdbdheoajgaaGreatG4
import Derived.Lib.SlicesCompact
import Derived.Lib.ItoaNum
set_option linter.unusedVariables false
namespace Go.Proofs.AM
def leF (a b : Feat) : Bool := !slt b.id a.id
def leS (a b : Str) : Bool := !slt b a
def qv7 (xs : List Str) : Option (List Str) := if aH7 xs.length = true then some (xs.mergeSort leS) else none
theorem xx7 {xs r : List Str} (h : qv7 xs = some r) : r.length = xs.length := by
 unfold qv7 at h
 split at h
 ·cases h
  exact List.length_mergeSort xs
 ·cases h
def oR7 (f : Nat) : Con := ⟨List Str, List Str, f, fun a => [.io 0 a.length 49], fun a => qv7 a, fun a r => ⟨[], [some (List.map cK7 r)]⟩, fun a => [(false, 49, List.map cK7 a)]⟩
def vC7 (xs : List Str) : Option (List Str) := if aH7 xs.length = true then some (Go.Lib.compact xs) else none
def oS7 (f : Nat) : Con := ⟨List Str, List Str, f, fun a => [.io 0 a.length 49], fun a => vC7 a, fun a r => ⟨[(false, [sl true 49 (List.map cK7 r)])], [none]⟩, fun a => [(false, 49, List.map cK7 a)]⟩
def xy7 {α : Type} (n : Int) : Option (List α) := if (decide (0 ≤ n) && decide (n ≤ 4294967296)) = true then some [] else none
def sL7 {α : Type} (f K : Nat) (e : α → List T) : Con := ⟨Int, List α, f, fun n => [.v (.slice none 0 0), .v (.int .i64 n)], xy7, fun _ r => ⟨[(false, [sl true K (List.map e r)])], []⟩, fun _ => []⟩
def mW7 (x : Pt) : List Pt → List Int → List Int
 | [], _ => [0]
 | y :: b, ls => (if ((x.x == y.x) && ((x.y == y.y) && true)) = true then ls.tail.headD 0 + 1 else max (ls.headD 0) ((mW7 x b ls.tail).headD 0)) :: mW7 x b ls.tail
def v37 : List Pt → List Pt → List (List Int)
 | [], b => [List.replicate (b.length + 1) 0]
 | x :: a, b => mW7 x b ((v37 a b).headD []) :: v37 a b
def vD7 (a b : List Pt) : Option (List (List Int)) := if (decide (a.length ≤ 1000) && decide (b.length ≤ 1000)) = true then some (v37 a b) else none
def sM7 (f : Nat) : Con := ⟨List Pt × List Pt, List (List Int), f, fun p => [.ro (List.map ePt p.1), .ro (List.map ePt p.2)], fun p => vD7 p.1 p.2, fun _ r => ⟨[(false, [sl true 273 (List.map (eSl true 17 bo7) r)])], []⟩, fun _ => []⟩
end Go.Proofs.AM
