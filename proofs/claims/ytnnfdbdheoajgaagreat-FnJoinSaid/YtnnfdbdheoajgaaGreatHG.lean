/- Lemmas of the proof (HG), on an abstract machine. Conditions: none. -/
import Derived.Test.YtnnfdbdheoajgaaGreatHS
import Derived.Test.YtnnfdbdheoajgaaGreatSF
import Derived.Shelf.Spec.SlicesGrow
set_option linter.unusedVariables false
namespace Go.Proofs.AM
open Go.RowKit
variable {P : Program} {tb : Tab}
theorem xP7 {ρ : Go.Shelf.Ren} (L : Go.Proofs.Lays8.n4 P ρ) {α : Type} {f K : Nat} {e : α → List T} (hf : tb.fn f = ρ.f 4) (hok : mN7 P (tb.fn f) = true) (hk : kOk P tb (ρ.t 25) K = true) (hby : CH7 P (ρ.t 25) = true) : ah7 P tb (sL7 f K e) := by
 refine ⟨fun (a a' : Int) h _ => ?_, fun (n : Int) (r : List α) hv => ⟨hok, fun F w us es fp bs he hbs hx hes hnd hfp hF hgl => ?_⟩⟩
 ·have h : [AV.v (.slice none 0 0), AV.v (.int .i64 a)] = [AV.v (.slice none 0 0), AV.v (.int .i64 a')] := h
  simp only [List.cons.injEq, AV.v.injEq, Value.int.injEq, true_and, and_true] at h
  exact h
 ·have hv : xy7 n = some r := hv
  unfold xy7 at hv
  split at hv
  case isFalse => cases hv
  rename_i hn
  cases hv
  have hn0 := of_decide_eq_true (DE7 hn)
  have hn1 := of_decide_eq_true (DF7 hn)
  have he : es.map (fun e => (e.box, e.k, e.rows)) = [] := he
  have he : es = [] := by simpa using he
  subst he
  simp only [eH7] at hes
  subst hes
  have hx : aW7 tb F w [.v (.slice none 0 0), .v (.int .i64 n)] us := hx
  simp only [aW7, ay7] at hx
  obtain ⟨u, us', rfl, rfl, u2, us2, rfl, rfl, rfl⟩ := hx
  show Calls P (tb.fn f) #[.slice none 0 0, .int .i64 n] w _
  rw [hf]
  obtain ⟨hk1, hk2, hk3⟩ := F27 hk
  obtain ⟨i, z, hi, hz, hzs, hb1, hb2⟩ := zE7 hby
  have hsz : i.size = esz K := by
   unfold g97 at hk2
   rw [hi] at hk2
   simpa using hk2
  obtain ⟨m, rfl⟩ := Int.eq_ofNat_of_zero_le hn0
  by_cases hm : m = 0
  ·subst hm
   refine (Go.Proofs.Any8.slices_Grow_room L none 0 0 0 w (Nat.le_refl _) (by omega) (by omega) (by omega)).mono fun e' w' ⟨h4, h5⟩ => ?_
   subst h4 h5
   refine ⟨rfl, ⟨F, [.slice none 0 0], [.slice none 0 0], [], [], fun _ h => h, fun _ h => .inl h, hF, rfl, ?_, rfl, List.nodup_nil, fun b hb => by cases hb⟩, rfl, rfl, rfl, Nat.le_refl _, fun _ _ _ => rfl⟩
   refine ⟨_, [], [_], [], [], [], rfl, rfl, rfl, ⟨⟨_, [], [], [], rfl, rfl, ?_, rfl, rfl⟩, rfl⟩, rfl, rfl, rfl⟩
   show OWc tb F _ (.sl true K []) _ _
   simp only [OWc]
   exact .inl (by simp)
  ·have hb : (0 + m) * i.bytes ≤ 140737488355328 := by
    have h1 : m ≤ 4294967296 := by omega
    calc (0 + m) * i.bytes ≤ 4294967296 * 32768 := Nat.mul_le_mul (by omega) hb2
     _ ≤ 140737488355328 := by decide
   refine (Go.Proofs.Any8.slices_Grow_grow L i z hi hz (by omega) none 0 0 m [] w (Nat.le_refl _) (by omega) hb (by omega) (by simp) (fun _ => rfl) (fun a h => by cases h)).mono fun e' w' ⟨h4, h5⟩ => ?_
   subst h4 h5
   have hge : 0 + m ≤ grownCap w (0 + m) 0 (ρ.t 25) := grownCap_ge w _ _ _
   have hle : grownCap w (0 + m) 0 (ρ.t 25) ≤ maxLen := grownCap_le_maxLen w _ _ _ (by unfold maxLen; omega)
   generalize grownCap w (0 + m) 0 (ρ.t 25) = C at hge hle
   refine ⟨rfl, ⟨F, [.slice (some ⟨w.heap.size, 0, none⟩) 0 C], [.slice (some ⟨w.heap.size, 0, none⟩) 0 C], [], [w.heap.size], fun _ h => h, fun _ h => .inl h, fun q hq => Nat.lt_of_lt_of_le (hF q hq) (by simp), rfl, ?_, rfl, by simp, fun b hb => ?_⟩, rfl, rfl, rfl, by simp, fun q hq _ => heap_alloc_old w.drew _ hq⟩
   ·refine ⟨_, [], [_], [], [w.heap.size], [], rfl, rfl, rfl, ⟨⟨_, [], [w.heap.size], [], rfl, rfl, ?_, rfl, rfl⟩, rfl⟩, rfl, rfl, rfl⟩
    show OWc tb F _ (.sl true K []) _ _
    have h1 : (w.drew.alloc (.cells (#[] ++ Builtin.zeroCells z.cells (0 + m - 0) ++ Builtin.zeroCells z.cells (C - (0 + m))) (ρ.t 25))).heap[w.heap.size]? = some (.cells (#[] ++ Builtin.zeroCells z.cells (0 + m - 0) ++ Builtin.zeroCells z.cells (C - (0 + m))) (tb.ty K) (0, 0)) := by
     rw [hk1]
     exact heap_alloc_new w.drew _
    have h2 : (#[] ++ Builtin.zeroCells z.cells (0 + m - 0) ++ Builtin.zeroCells z.cells (C - (0 + m))).size = C * esz K := by
     simp only [Array.size_append, Array.size_empty, size_zeroCells, hzs, hsz, Nat.zero_add, ← Nat.add_mul]
     congr 1
     omega
    unfold OWc
    exact .inr ⟨w.heap.size, C, _, [], rfl, h1, h2, Nat.zero_le _, hle, rfl, by unfold at7; rfl⟩
   ·simp only [List.nil_append, List.mem_singleton] at hb
    subst hb
    exact ⟨by simp, fun h => Nat.lt_irrefl _ (hF _ h), .inr (Nat.le_refl _)⟩
end Go.Proofs.AM
