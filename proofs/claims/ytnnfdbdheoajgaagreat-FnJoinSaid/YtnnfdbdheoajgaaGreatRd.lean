/- Lemmas of the proof (Rd), on an abstract machine. Conditions: none. -/
import Derived.Test.YtnnfdbdheoajgaaGreatLk
import Derived.Carry
import Derived.OpenShut
set_option linter.unusedVariables false
namespace Go.Proofs.AM
open Go.RowKit
inductive Ty where
 | int
 | u8
 | bool
 | str
 | sl (e : Ty)
 | st (fs : List Ty)
mutual
def Ty.size : Ty → Nat
 | .int => 1
 | .u8 => 1
 | .bool => 1
 | .str => 1
 | .sl _ => 1
 | .st fs => lE7 fs
def lE7 : List Ty → Nat
 | [] => 0
 | f :: fs => f.size + lE7 fs
end
mutual
def lF7 : Ty → List T → Prop
 | .int, cs => ∃ n, cs = [.v (.int .i64 n)] ∧ -9223372036854775808 ≤ n ∧ n ≤ 9223372036854775807
 | .u8, cs => ∃ n, cs = [.v (.int .u8 n)] ∧ 0 ≤ n ∧ n ≤ 255
 | .bool, cs => ∃ b, cs = [.v (.bool b)]
 | .str, cs => ∃ s, cs = [.v (.string s)] ∧ s.size ≤ maxLen
 | .sl e, cs => ∃ rows, cs = [.sl false e.size rows] ∧ rows.length ≤ maxLen ∧ ∀ r ∈ rows, lF7 e r
 | .st fs, cs => Cj7 fs cs
def Cj7 : List Ty → List T → Prop
 | [], cs => cs = []
 | f :: fs, cs => ∃ a b, cs = a ++ b ∧ lF7 f a ∧ Cj7 fs b
end
section
variable (P : Program)
mutual
def xB7 : Ty → TypeId → Bool
 | .int, t => (match P.underlying t with | some (.int .i64) => true | _ => false)
 | .u8, t => (match P.underlying t with | some (.int .u8) => true | _ => false)
 | .bool, t => (match P.underlying t with | some .bool => true | _ => false)
 | .str, t => (match P.underlying t with | some .string => true | _ => false)
 | .sl e', t => (match P.underlying t with | some (.slice e) => xB7 e' e && P.cellsOf e == e'.size && decide (0 < e'.size) | _ => false)
 | .st fs', t => (match P.underlying t with | some (.struct fs) => xC7 fs' 0 fs.toList && P.cellsOf t == lE7 fs' | _ => false)
def xC7 : List Ty → Nat → List Field → Bool
 | [], _, [] => true
 | f' :: fs', off, f :: fs => f.offset == off && P.cellsOf f.type == f'.size && xB7 f' f.type && xC7 fs' (off + f'.size) fs
 | _, _, _ => false
end
end
def RCs (F : Nat → Prop) (w : World) : List T → List Value → Prop
 | [], us => us = []
 | c :: cs, us => ∃ u us', us = u :: us' ∧ ROc F w c u ∧ RCs F w cs us'
section
variable {P : Program} {w : World} {F : Nat → Prop} {H : Type} {enc : TypeId × Value → H}
theorem nI7 : ∀ {as bs : List T} {us vs : List Value}, RCs F w as us → RCs F w bs vs → RCs F w (as ++ bs) (us ++ vs)
 | [], bs, us, vs, h, h' => by
  simp only [RCs] at h
  subst h
  exact h'
 | a :: as, bs, us, vs, h, h' => by
  simp only [RCs] at h
  obtain ⟨u, us', rfl, h1, h2⟩ := h
  exact ⟨u, us' ++ vs, rfl, h1, nI7 h2 h'⟩
theorem qz7 {ad : Addr} : ∀ {cs : List T} {us : List Value} {p : Nat}, RCs F w cs us → (∀ i u, us[i]? = some u → w.cell? (ad.add (p + i)) = some u) → aO7 F w ad p cs
 | [], us, p, h, hc => by simp [aO7]
 | c :: cs, us, p, h, hc => by
  simp only [RCs] at h
  obtain ⟨u, us', rfl, h1, h2⟩ := h
  simp only [aO7]
  refine ⟨⟨u, by simpa using hc 0 u rfl, h1⟩, qz7 h2 fun i v hv => ?_⟩
  have := hc (i + 1) v (by simpa using hv)
  rwa [show p + (i + 1) = p + 1 + i by omega] at this
mutual
theorem xD7 : ∀ (t : Ty) {cs : List T}, lF7 t cs → cs.length = t.size
 | .int, cs, h => by simp only [lF7] at h; obtain ⟨n, rfl, _⟩ := h; rfl
 | .u8, cs, h => by simp only [lF7] at h; obtain ⟨n, rfl, _⟩ := h; rfl
 | .bool, cs, h => by simp only [lF7] at h; obtain ⟨n, rfl⟩ := h; rfl
 | .str, cs, h => by simp only [lF7] at h; obtain ⟨n, rfl, _⟩ := h; rfl
 | .sl e, cs, h => by simp only [lF7] at h; obtain ⟨n, rfl, _⟩ := h; rfl
 | .st fs, cs, h => by simp only [lF7] at h; exact t67 fs h
theorem t67 : ∀ (fs : List Ty) {cs : List T}, Cj7 fs cs → cs.length = lE7 fs
 | [], cs, h => by simp only [Cj7] at h; subst h; rfl
 | f :: fs, cs, h => by
  simp only [Cj7] at h
  obtain ⟨a, b, rfl, h1, h2⟩ := h
  simp [lE7, xD7 f h1, t67 fs h2]
end
theorem xE7 {e : Ty} {es : Nat} {a : Addr} (hF : F a.block) (h0 : e.size = es) : ∀ {n : Nat} {i : Nat} {f : Nat → Option (DataW H × List MemPlace)} {rs : List (DataW H × List MemPlace)}, (List.range' i n).mapM f = some rs →
  (∀ j x, i ≤ j → j < i + n → f j = some x → x ∈ rs → ∃ cs us, lF7 e cs ∧ RCs F w cs us ∧ ∀ k u, us[k]? = some u → w.cell? ((a.add (j * es)).add k) = some u) →
  ∃ rows : List (List T), rows.length = n ∧ (∀ r ∈ rows, lF7 e r) ∧ aI7 F w es (some a) i rows
 | 0, i, f, rs, h, hr => ⟨[], rfl, by simp, by simp [aI7]⟩
 | n + 1, i, f, rs, h, hr => by
  rw [List.range'_succ, List.mapM_cons] at h
  cases h1 : f i with
  | none => simp [h1] at h
  | some x =>
   cases h2 : (List.range' (i + 1) n).mapM f with
   | none => simp [h1, h2] at h
   | some xs =>
    simp [h1, h2] at h
    subst h
    obtain ⟨cs, us, g1, g2, g3⟩ := hr i x (Nat.le_refl _) (by omega) h1 (by simp)
    obtain ⟨rows, k1, k2, k3⟩ := xE7 hF h0 (n := n) (i := i + 1) h2 (fun j y hj1 hj2 hy hm => hr j y (by omega) (by omega) hy (by simp [hm]))
    refine ⟨cs :: rows, by simp [k1], fun r hr' => ?_, ?_⟩
    ·rcases List.mem_cons.1 hr' with rfl | hr'
     ·exact g1
     ·exact k2 r hr'
    ·simp only [aI7]
     refine ⟨by rw [← h0]; exact xD7 e g1, ⟨a, rfl, hF, qz7 g2 fun k u hu => ?_⟩, k3⟩
     have := g3 k u hu
     rwa [ww7] at this
mutual
theorem NO7 : ∀ (ty : Ty) {fuel : Nat} {t : TypeId} {cs : List Value} {d : DataW H} {ps : List MemPlace}, xB7 P ty t = true → DataW.trod enc P w 0 (fun _ => true) true fuel t cs = some (d, ps) → (∀ x, x ∈ ps → F x.block) → ∃ ts, lF7 ty ts ∧ RCs F w ts cs
 | .int, 0, t, cs, d, ps, hk, h, hF => by simp [DataW.trod] at h
 | .int, fuel + 1, t, cs, d, ps, hk, h, hF => by
  simp only [xB7] at hk
  split at hk
  ·rename_i ht
   unfold DataW.trod at h
   rw [ht] at h
   split at h <;> simp_all
   rename_i k1 k2 n hk1
   have hk2 : k1 = .i64 := hk1.symm
   subst hk2
   have h2 := h.1.2
   refine ⟨[.v (.int .i64 n)], ?_, ?_⟩
   ·simp only [lF7]
    simp only [Lit.wf, Bool.and_eq_true, decide_eq_true_eq] at h2
    refine ⟨n, rfl, ?_, ?_⟩
    ·have := h2.1; rw [show IntKind.i64.min = -9223372036854775808 from rfl] at this; exact this
    ·have := h2.2; rw [show IntKind.i64.max = 9223372036854775807 from rfl] at this; exact this
   ·simp [RCs, ROc, Value.oneCell']
  ·cases hk
 | .u8, 0, t, cs, d, ps, hk, h, hF => by simp [DataW.trod] at h
 | .u8, fuel + 1, t, cs, d, ps, hk, h, hF => by
  simp only [xB7] at hk
  split at hk
  ·rename_i ht
   unfold DataW.trod at h
   rw [ht] at h
   split at h <;> simp_all
   rename_i k1 k2 n hk1
   have hk2 : k1 = .u8 := hk1.symm
   subst hk2
   have h2 := h.1.2
   refine ⟨[.v (.int .u8 n)], ?_, ?_⟩
   ·simp only [lF7]
    simp only [Lit.wf, Bool.and_eq_true, decide_eq_true_eq] at h2
    refine ⟨n, rfl, ?_, ?_⟩
    ·have := h2.1; rw [show IntKind.u8.min = 0 from rfl] at this; exact this
    ·have := h2.2; rw [show IntKind.u8.max = 255 from rfl] at this; exact this
   ·simp [RCs, ROc, Value.oneCell']
  ·cases hk
 | .bool, 0, t, cs, d, ps, hk, h, hF => by simp [DataW.trod] at h
 | .bool, fuel + 1, t, cs, d, ps, hk, h, hF => by
  simp only [xB7] at hk
  split at hk
  ·rename_i ht
   unfold DataW.trod at h
   rw [ht] at h
   split at h <;> simp_all
   rename_i b
   exact ⟨[.v (.bool b)], by simp [lF7], by simp [RCs, ROc, Value.oneCell']⟩
  ·cases hk
 | .str, 0, t, cs, d, ps, hk, h, hF => by simp [DataW.trod] at h
 | .str, fuel + 1, t, cs, d, ps, hk, h, hF => by
  simp only [xB7] at hk
  split at hk
  ·rename_i ht
   unfold DataW.trod at h
   rw [ht] at h
   split at h <;> simp_all
   rename_i b
   exact ⟨[.v (.string b)], by simp only [lF7]; exact ⟨b, rfl, h.1⟩, by simp [RCs, ROc, Value.oneCell']⟩
  ·cases hk
 | .sl e', 0, t, cs, d, ps, hk, h, hF => by simp [DataW.trod] at h
 | .sl e', fuel + 1, t, cs, d, ps, hk, h, hF => by
  simp only [xB7] at hk
  split at hk
  ·rename_i e ht
   simp only [Bool.and_eq_true, beq_iff_eq, decide_eq_true_eq] at hk
   obtain ⟨⟨k1, k2⟩, k3⟩ := hk
   unfold DataW.trod at h
   rw [ht] at h
   split at h
   all_goals try (simp_all; done)
   ·refine ⟨[.sl false e'.size []], by simp only [lF7]; exact ⟨[], rfl, Nat.zero_le _, by simp⟩, ?_⟩
    simp only [RCs]
    refine ⟨_, [], rfl, ?_, rfl⟩
    simp only [ROc]
    exact ⟨none, 0, 0, rfl, Nat.le_refl _, by simp [aI7]⟩
   ·rename_i e1 a len cap he1
    simp only [Option.some.injEq, TypeDesc.slice.injEq] at he1
    subst he1
    split at h
    ·rename_i hcond
     obtain ⟨_, hlc, hcap⟩ := hcond
     rw [Option.bind_eq_some_iff] at h
     obtain ⟨elems, h1, h2⟩ := h
     rw [Option.map_eq_some_iff] at h2
     obtain ⟨rest, h3, h4⟩ := h2
     cases h4
     have hlen : elems.length = len := by simpa using mapM_some_length h1
     by_cases hl0 : len = 0
     ·subst hl0
      refine ⟨[.sl false e'.size []], by simp only [lF7]; exact ⟨[], rfl, Nat.zero_le _, by simp⟩, ?_⟩
      simp only [RCs]
      refine ⟨_, [], rfl, ?_, rfl⟩
      simp only [ROc]
      exact ⟨some a, cap, 0, rfl, Nat.zero_le _, by simp [aI7]⟩
     ·have hFa : F a.block := by
       have hpos : 0 < (elems.length + rest.length) * P.cellsOf e := Nat.mul_pos (by omega) (by omega)
       refine hF (.cell a.block (a.off + 0)) (List.mem_append_left _ ?_)
       unfold MemPlace.row
       rw [List.mem_map]
       exact ⟨0, by simp; omega, rfl⟩
      rw [List.range_eq_range'] at h1
      obtain ⟨rows, g1, g2, g3⟩ := xE7 (F := F) (w := w) (e := e') hFa k2.symm h1 (fun j x hj1 hj2 hx hm => by
       rw [Option.bind_eq_some_iff] at hx
       obtain ⟨cs', c1, c2⟩ := hx
       obtain ⟨_, c4, c5⟩ := World.cells?_some c1
       obtain ⟨ts, d1, d2⟩ := NO7 e' (d := x.1) (ps := x.2) k1 (by simpa using c2) (fun y hy => hF y (List.mem_append_right _ (List.mem_flatMap.2 ⟨x, List.mem_append_left _ hm, hy⟩)))
       refine ⟨ts, cs', d1, d2, fun k u hu => ?_⟩
       have hkl : k < cs'.length := (List.getElem?_eq_some_iff.1 hu).1
       rw [c5 k (by omega), hu])
      refine ⟨[.sl false e'.size rows], by simp only [lF7]; exact ⟨rows, rfl, by omega, g2⟩, ?_⟩
      simp only [RCs]
      refine ⟨_, [], rfl, ?_, rfl⟩
      simp only [ROc]
      exact ⟨some a, cap, P.cellsOf e, by rw [g1], by omega, g3⟩
    ·cases h
  ·cases hk
 | .st fs', 0, t, cs, d, ps, hk, h, hF => by simp [DataW.trod] at h
 | .st fs', fuel + 1, t, cs, d, ps, hk, h, hF => by
  simp only [xB7] at hk
  split at hk
  ·rename_i fs ht
   simp only [Bool.and_eq_true, beq_iff_eq] at hk
   unfold DataW.trod at h
   rw [ht] at h
   split at h
   all_goals try (simp_all; done)
   rename_i fs1 hfs1
   simp only [Option.some.injEq, TypeDesc.struct.injEq] at hfs1
   subst hfs1
   split at h
   ·rename_i hlen
    rw [Option.map_eq_some_iff] at h
    obtain ⟨xs, h1, h2⟩ := h
    cases h2
    obtain ⟨ts, g1, g2⟩ := Hk7 fs' (off := 0) hk.1 h1 (by omega) hF
    refine ⟨ts, by simp only [lF7]; exact g1, ?_⟩
    rw [List.drop_zero, ← hk.2, ← hlen, List.take_length] at g2
    exact g2
   ·cases h
  ·cases hk
theorem Hk7 : ∀ (fs' : List Ty) {fuel off : Nat} {fs : List Field} {cs : List Value} {xs : List (DataW H × List MemPlace)}, xC7 P fs' off fs = true → (fs.mapM fun f => DataW.trod enc P w 0 (fun _ => true) true fuel f.type ((cs.drop f.offset).take (P.cellsOf f.type))) = some xs → off + lE7 fs' ≤ cs.length → (∀ x, x ∈ xs.flatMap (·.2) → F x.block) → ∃ ts, Cj7 fs' ts ∧ RCs F w ts ((cs.drop off).take (lE7 fs'))
 | [], fuel, off, fs, cs, xs, hk, h, hl, hF => ⟨[], by simp [Cj7], by simp [RCs, lE7]⟩
 | f' :: fs', fuel, off, [], cs, xs, hk, h, hl, hF => by simp [xC7] at hk
 | f' :: fs', fuel, off, f :: fs, cs, xs, hk, h, hl, hF => by
  simp only [xC7, Bool.and_eq_true, beq_iff_eq] at hk
  obtain ⟨⟨⟨k1, k2⟩, k3⟩, k4⟩ := hk
  rw [List.mapM_cons] at h
  cases h1 : DataW.trod enc P w 0 (fun _ => true) true fuel f.type ((cs.drop f.offset).take (P.cellsOf f.type)) with
  | none => simp [h1] at h
  | some x =>
   cases h2 : fs.mapM (fun f => DataW.trod enc P w 0 (fun _ => true) true fuel f.type ((cs.drop f.offset).take (P.cellsOf f.type))) with
   | none => simp [h1, h2] at h
   | some ys =>
    simp [h1, h2] at h
    subst h
    simp only [lE7] at hl
    obtain ⟨a, g1, g2⟩ := NO7 f' (d := x.1) (ps := x.2) k3 (by simpa using h1) (fun y hy => hF y (by simp [hy]))
    obtain ⟨b, g3, g4⟩ := Hk7 fs' k4 h2 (by omega) (fun y hy => hF y (by simp only [List.flatMap_cons, List.mem_append]; exact .inr hy))
    refine ⟨a ++ b, by simp only [Cj7]; exact ⟨a, b, rfl, g1, g3⟩, ?_⟩
    rw [k1, k2] at g2
    have e1 : (cs.drop off).take (lE7 (f' :: fs')) = (cs.drop off).take f'.size ++ (cs.drop (off + f'.size)).take (lE7 fs') := by
     rw [← List.drop_drop, ← List.take_add]
     rfl
    rw [e1]
    exact nI7 g2 g4
end
end
end Go.Proofs.AM
