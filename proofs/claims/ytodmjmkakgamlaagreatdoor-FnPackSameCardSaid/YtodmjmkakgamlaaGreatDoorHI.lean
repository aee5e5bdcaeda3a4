/- Lemmas of the proof (HI), on an abstract machine. Conditions: none. -/
import Derived.Test.YtodmjmkakgamlaaGreatDoorHS
import Derived.Test.YtodmjmkakgamlaaGreatDoorSF
import Derived.Shelf.Strconv.Itoa3
/-! strconv.Itoa: its proved contract, said of our values. -/
set_option linter.unusedVariables false
namespace Go.Proofs.AM
open Go.RowKit
variable {P : Program} {tb : Tab}
theorem itoa_good {ρ : Go.Shelf.Ren} (L : Go.Proofs.LaysM.n171 P ρ) {f : Nat} (hf : tb.fn f = ρ.f 171) (hok : funOk P (tb.fn f) = true) {g : Nat} (hg : P.globalNamed "internal/strconv.uint64pow10" = some g)
  (ht : (g, (Go.Lib.pow10Tab.map fun z => Value.int .u64 z).toArray) ∈ tb.gx) : GoodC P tb (itoaCon f) := by
 refine ⟨fun (a a' : Int) h _ => ?_, fun (n : Int) (r : Str) hv => ⟨hok, fun F w us es fp bs he hbs hx hes hnd hfp hF hgl => ?_⟩⟩
 ·have h : [AV.v (.int .i64 a)] = [AV.v (.int .i64 a')] := h
  simp only [List.cons.injEq, AV.v.injEq, Value.int.injEq, true_and, and_true] at h
  exact h
 ·have hv : itoaF n = some r := hv
  unfold itoaF at hv
  split at hv
  case isFalse => cases hv
  rename_i hn
  cases hv
  have he : es.map (fun e => (e.box, e.k, e.rows)) = [] := he
  have he : es = [] := by simpa using he
  subst he
  simp only [OWes] at hes
  subst hes
  have hx : RelL tb F w [.v (.int .i64 n)] us := hx
  simp only [RelL, RelV] at hx
  obtain ⟨u, us', rfl, rfl, rfl⟩ := hx
  show Calls P (tb.fn f) #[.int .i64 n] w _
  rw [hf]
  obtain ⟨_, t, o, hw⟩ := hgl.gx _ _ ht
  refine (Go.Proofs.Any.strconv_Itoa L n (of_decide_eq_true (band1 hn)) (of_decide_eq_true (band2 hn)) w ?_).mono fun e' w' ⟨h4, k, os, h5⟩ => ?_
  ·unfold Go.Lib.TabIs World.var?
   rw [hg]
   simp only [Option.bind_some, hw]
  subst h4 h5
  have hsz : w.heap.size ≤ (Go.Sort.grow (w.drewN k) os).heap.size := by rw [Go.Sort.size_grow]; exact Nat.le_add_right _ _
  refine ⟨rfl, ⟨F, [.string (itoaS n)], [.string (itoaS n)], [], [], fun _ h => h, fun _ h => .inl h, fun q hq => Nat.lt_of_lt_of_le (hF q hq) hsz, rfl, ?_, rfl, List.nodup_nil, fun b hb => by cases hb⟩, rfl, rfl, rfl, hsz, fun q hq _ => Go.Sort.heap_grow_old _ _ hq⟩
  refine ⟨_, [], [.string (itoaS n)], [], [], [], rfl, rfl, rfl, ⟨?_, ?_⟩, rfl, rfl, rfl⟩
  ·refine ⟨.string (itoaS n), [], [], [], rfl, rfl, ⟨rfl, rfl, rfl⟩, rfl, rfl⟩
  ·rfl
end Go.Proofs.AM
