/- Lemmas of the proof (SF), on an abstract machine. Conditions: none. -/
import Derived.Test.YtnnfdbdheoajgaaGreatG4
import Derived.Lib.SlicesCompact
import Derived.Lib.ItoaNum
set_option linter.unusedVariables false
namespace Go.Proofs.AM
def leF (a b : Feat) : Bool := !slt b.id a.id
def p47 (xs : List Feat) : Option (List Feat) := if (aI7 xs.length && decide (xs.map (·.id)).Nodup) = true then some (xs.mergeSort leF) else none
theorem wS7 {xs r : List Feat} (h : p47 xs = some r) : r.length = xs.length := by
 unfold p47 at h
 split at h
 ·cases h
  exact List.length_mergeSort xs
 ·cases h
def sb7 (f g : Nat) : Con := ⟨List Feat, List Feat, f, fun a => [.io 0 a.length 100, .fn g []], fun a => p47 a, fun a r => ⟨[], [some (List.map (ag7 false) r)]⟩, fun a => [(false, 100, List.map (ag7 false) a)]⟩
def leS (a b : Str) : Bool := !slt b a
def sc7 (xs : List Str) : Option (List Str) := if aI7 xs.length = true then some (xs.mergeSort leS) else none
theorem wT7 {xs r : List Str} (h : sc7 xs = some r) : r.length = xs.length := by
 unfold sc7 at h
 split at h
 ·cases h
  exact List.length_mergeSort xs
 ·cases h
def op7 (f : Nat) : Con := ⟨List Str, List Str, f, fun a => [.io 0 a.length 49], fun a => sc7 a, fun a r => ⟨[], [some (List.map cL7 r)]⟩, fun a => [(false, 49, List.map cL7 a)]⟩
def wU7 (xs : List Str) : Option (List Str) := if aI7 xs.length = true then some (Go.Lib.compact xs) else none
def oq7 (f : Nat) : Con := ⟨List Str, List Str, f, fun a => [.io 0 a.length 49], fun a => wU7 a, fun a r => ⟨[(false, [sl true 49 (List.map cL7 r)])], [none]⟩, fun a => [(false, 49, List.map cL7 a)]⟩
def zF7 {α : Type} (n : Int) : Option (List α) := if (decide (0 ≤ n) && decide (n ≤ 4294967296)) = true then some [] else none
def sd7 {α : Type} (f K : Nat) (e : α → List T) : Con := ⟨Int, List α, f, fun n => [.v (.slice none 0 0), .v (.int .i64 n)], zF7, fun _ r => ⟨[(false, [sl true K (List.map e r)])], []⟩, fun _ => []⟩
def p57 (x : Pt) : List Pt → List Int → List Int
 | [], _ => [0]
 | y :: b, ls => (if ((x.x == y.x) && ((x.y == y.y) && true)) = true then ls.tail.headD 0 + 1 else max (ls.headD 0) ((p57 x b ls.tail).headD 0)) :: p57 x b ls.tail
def zG7 : List Pt → List Pt → List (List Int)
 | [], b => [List.replicate (b.length + 1) 0]
 | x :: a, b => p57 x b ((zG7 a b).headD []) :: zG7 a b
def zH7 (a b : List Pt) : Option (List (List Int)) := if (decide (a.length ≤ 1000) && decide (b.length ≤ 1000)) = true then some (zG7 a b) else none
def se7 (f : Nat) : Con := ⟨List Pt × List Pt, List (List Int), f, fun p => [.ro (List.map ePt p.1), .ro (List.map ePt p.2)], fun p => zH7 p.1 p.2, fun _ r => ⟨[(false, [sl true 273 (List.map (eSl true 17 br7) r)])], []⟩, fun _ => []⟩
end Go.Proofs.AM
