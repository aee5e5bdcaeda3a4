/- Lemmas of the proof (SF), on an abstract machine. Conditions: none. -/
import Derived.Test.YtodmjmkakgamlaaGreatDoorG4
import Derived.Lib.SlicesCompact
import Derived.Lib.ItoaNum
set_option linter.unusedVariables false
namespace Go.Proofs.AM
/-! ### The library's sort of features, as it is used: told from its contract (HU) -/
def leF (a b : Feat) : Bool := !slt b.id a.id
def sortF (xs : List Feat) : Option (List Feat) := if (fits xs.length && decide (xs.map (·.id)).Nodup) = true then some (xs.mergeSort leF) else none
theorem sortF_len {xs r : List Feat} (h : sortF xs = some r) : r.length = xs.length := by
 unfold sortF at h
 split at h
 ·cases h
  exact List.length_mergeSort xs
 ·cases h
def sortCon (f g : Nat) : Con := ⟨List Feat, List Feat, f, fun a => [.io 0 a.length 100, .fn g []], fun a => sortF a, fun a r => ⟨[], [some (List.map (eFeat false) r)]⟩, fun a => [(false, 100, List.map (eFeat false) a)]⟩
/-! ### The library's sort and compaction of strings, as they are used: told from their contracts (HV) -/
def leS (a b : Str) : Bool := !slt b a
def sortS (xs : List Str) : Option (List Str) := if fits xs.length = true then some (xs.mergeSort leS) else none
theorem sortS_len {xs r : List Str} (h : sortS xs = some r) : r.length = xs.length := by
 unfold sortS at h
 split at h
 ·cases h
  exact List.length_mergeSort xs
 ·cases h
def sortSCon (f : Nat) : Con := ⟨List Str, List Str, f, fun a => [.io 0 a.length 49], fun a => sortS a, fun a r => ⟨[], [some (List.map eStr r)]⟩, fun a => [(false, 49, List.map eStr a)]⟩
def compS (xs : List Str) : Option (List Str) := if fits xs.length = true then some (Go.Lib.compact xs) else none
def compSCon (f : Nat) : Con := ⟨List Str, List Str, f, fun a => [.io 0 a.length 49], fun a => compS a, fun a r => ⟨[(false, [sl true 49 (List.map eStr r)])], [none]⟩, fun a => [(false, 49, List.map eStr a)]⟩
/-! ### The decimal numeral, as it is used: told from its contract (HI) -/
def itoaS (n : Int) : Str := ⟨(Go.Lib.itoa n).toArray⟩
def itoaF (n : Int) : Option Str := if (decide (-9223372036854775808 ≤ n) && decide (n ≤ 9223372036854775807)) = true then some (itoaS n) else none
def itoaCon (f : Nat) : Con := ⟨Int, Str, f, fun a => [.v (.int .i64 a)], itoaF, fun _ r => ⟨[(false, [.v (.string r)])], []⟩, fun _ => []⟩
end Go.Proofs.AM
