/- A part of the proof of 'FnExactPackSizeSaid' (Rd): lemmas on an abstract machine for the program's functions. Conditions: none. -/
import Derived.Test.YthimhbjbpeheoaaLk
import Derived.Carry
import Derived.OpenShut
set_option linter.unusedVariables false
namespace Go.Proofs.AM
open Go.RowKit
inductive Ty where
  | int
  | bool
  | str
  | sl (e : Ty)
  | st (fs : List Ty)
mutual
def Ty.size : Ty → Nat
  | .int => 1
  | .bool => 1
  | .str => 1
  | .sl _ => 1
  | .st fs => sizes fs
def sizes : List Ty → Nat
  | [] => 0
  | f :: fs => f.size + sizes fs
end
mutual
def FitT : Ty → List T → Prop
  | .int, cs => ∃ n, cs = [.v (.int .i64 n)] ∧ -9223372036854775808 ≤ n ∧ n ≤ 9223372036854775807
  | .bool, cs => ∃ b, cs = [.v (.bool b)]
  | .str, cs => ∃ s, cs = [.v (.string s)] ∧ s.size ≤ maxLen
  | .sl e, cs => ∃ rows, cs = [.sl false e.size rows] ∧ rows.length ≤ maxLen ∧ ∀ r ∈ rows, FitT e r
  | .st fs, cs => FitF fs cs
def FitF : List Ty → List T → Prop
  | [], cs => cs = []
  | f :: fs, cs => ∃ a b, cs = a ++ b ∧ FitT f a ∧ FitF fs b
end
section
variable (P : Program)
mutual
def tyOk : Ty → TypeId → Bool
  | .int, t => (match P.underlying t with | some (.int .i64) => true | _ => false)
  | .bool, t => (match P.underlying t with | some .bool => true | _ => false)
  | .str, t => (match P.underlying t with | some .string => true | _ => false)
  | .sl e', t => (match P.underlying t with | some (.slice e) => tyOk e' e && P.cellsOf e == e'.size && decide (0 < e'.size) | _ => false)
  | .st fs', t => (match P.underlying t with | some (.struct fs) => fldOk fs' 0 fs.toList && P.cellsOf t == sizes fs' | _ => false)
def fldOk : List Ty → Nat → List Field → Bool
  | [], _, [] => true
  | f' :: fs', off, f :: fs => f.offset == off && P.cellsOf f.type == f'.size && tyOk f' f.type && fldOk fs' (off + f'.size) fs
  | _, _, _ => false
end
end
def RCs (F : Nat → Prop) (w : World) : List T → List Value → Prop
  | [], us => us = []
  | c :: cs, us => ∃ u us', us = u :: us' ∧ ROc F w c u ∧ RCs F w cs us'
section
variable {P : Program} {w : World} {F : Nat → Prop} {H : Type} {enc : TypeId × Value → H}
theorem RCs_append : ∀ {as bs : List T} {us vs : List Value}, RCs F w as us → RCs F w bs vs → RCs F w (as ++ bs) (us ++ vs)
  | [], bs, us, vs, h, h' => by
    simp only [RCs] at h
    subst h
    exact h'
  | a :: as, bs, us, vs, h, h' => by
    simp only [RCs] at h
    obtain ⟨u, us', rfl, h1, h2⟩ := h
    exact ⟨u, us' ++ vs, rfl, h1, RCs_append h2 h'⟩
theorem RCs_cells {ad : Addr} : ∀ {cs : List T} {us : List Value} {p : Nat}, RCs F w cs us → (∀ i u, us[i]? = some u → w.cell? (ad.add (p + i)) = some u) → ROcells F w ad p cs
  | [], us, p, h, hc => by simp [ROcells]
  | c :: cs, us, p, h, hc => by
    simp only [RCs] at h
    obtain ⟨u, us', rfl, h1, h2⟩ := h
    simp only [ROcells]
    refine ⟨⟨u, by simpa using hc 0 u rfl, h1⟩, RCs_cells h2 fun i v hv => ?_⟩
    have := hc (i + 1) v (by simpa using hv)
    rwa [show p + (i + 1) = p + 1 + i by omega] at this
theorem RCs_len : ∀ {cs : List T} {us : List Value}, RCs F w cs us → us.length = cs.length
  | [], us, h => by simp only [RCs] at h; subst h; rfl
  | c :: cs, us, h => by
    simp only [RCs] at h
    obtain ⟨u, us', rfl, h1, h2⟩ := h
    simp [RCs_len h2]
mutual
theorem Fit_len : ∀ (t : Ty) {cs : List T}, FitT t cs → cs.length = t.size
  | .int, cs, h => by simp only [FitT] at h; obtain ⟨n, rfl, _⟩ := h; rfl
  | .bool, cs, h => by simp only [FitT] at h; obtain ⟨n, rfl⟩ := h; rfl
  | .str, cs, h => by simp only [FitT] at h; obtain ⟨n, rfl, _⟩ := h; rfl
  | .sl e, cs, h => by simp only [FitT] at h; obtain ⟨n, rfl, _⟩ := h; rfl
  | .st fs, cs, h => by simp only [FitT] at h; exact FitF_len fs h
theorem FitF_len : ∀ (fs : List Ty) {cs : List T}, FitF fs cs → cs.length = sizes fs
  | [], cs, h => by simp only [FitF] at h; subst h; rfl
  | f :: fs, cs, h => by
    simp only [FitF] at h
    obtain ⟨a, b, rfl, h1, h2⟩ := h
    simp [sizes, Fit_len f h1, FitF_len fs h2]
end
theorem rows_of {e : Ty} {es : Nat} {a : Addr} (hF : F a.block) (h0 : e.size = es) : ∀ {n : Nat} {i : Nat} {f : Nat → Option (DataW H × List MemPlace)} {rs : List (DataW H × List MemPlace)}, (List.range' i n).mapM f = some rs →
    (∀ j x, i ≤ j → j < i + n → f j = some x → x ∈ rs → ∃ cs us, FitT e cs ∧ RCs F w cs us ∧ ∀ k u, us[k]? = some u → w.cell? ((a.add (j * es)).add k) = some u) →
    ∃ rows : List (List T), rows.length = n ∧ (∀ r ∈ rows, FitT e r) ∧ ROrows F w es (some a) i rows
  | 0, i, f, rs, h, hr => ⟨[], rfl, by simp, by simp [ROrows]⟩
  | n + 1, i, f, rs, h, hr => by
    rw [List.range'_succ, List.mapM_cons] at h
    cases h1 : f i with
    | none => simp [h1] at h
    | some x =>
      cases h2 : (List.range' (i + 1) n).mapM f with
      | none => simp [h1, h2] at h
      | some xs =>
        simp [h1, h2] at h
        subst h
        obtain ⟨cs, us, g1, g2, g3⟩ := hr i x (Nat.le_refl _) (by omega) h1 (by simp)
        obtain ⟨rows, k1, k2, k3⟩ := rows_of hF h0 (n := n) (i := i + 1) h2 (fun j y hj1 hj2 hy hm => hr j y (by omega) (by omega) hy (by simp [hm]))
        refine ⟨cs :: rows, by simp [k1], fun r hr' => ?_, ?_⟩
        · rcases List.mem_cons.1 hr' with rfl | hr'
          · exact g1
          · exact k2 r hr'
        · simp only [ROrows]
          refine ⟨by rw [← h0]; exact Fit_len e g1, ⟨a, rfl, hF, RCs_cells g2 fun k u hu => ?_⟩, k3⟩
          have := g3 k u hu
          rwa [add_add] at this
mutual
theorem read : ∀ (ty : Ty) {fuel : Nat} {t : TypeId} {cs : List Value} {d : DataW H} {ps : List MemPlace}, tyOk P ty t = true → DataW.trod enc P w 0 (fun _ => true) true fuel t cs = some (d, ps) → (∀ x, x ∈ ps → F x.block) → ∃ ts, FitT ty ts ∧ RCs F w ts cs
  | .int, 0, t, cs, d, ps, hk, h, hF => by simp [DataW.trod] at h
  | .int, fuel + 1, t, cs, d, ps, hk, h, hF => by
    simp only [tyOk] at hk
    split at hk
    · rename_i ht
      unfold DataW.trod at h
      rw [ht] at h
      split at h <;> simp_all
      rename_i k1 k2 n hk1
      have hk2 : k1 = .i64 := hk1.symm
      subst hk2
      have h2 := h.1.2
      refine ⟨[.v (.int .i64 n)], ?_, ?_⟩
      · simp only [FitT]
        simp only [Lit.wf, Bool.and_eq_true, decide_eq_true_eq] at h2
        refine ⟨n, rfl, ?_, ?_⟩
        · have := h2.1; rw [show IntKind.i64.min = -9223372036854775808 from rfl] at this; exact this
        · have := h2.2; rw [show IntKind.i64.max = 9223372036854775807 from rfl] at this; exact this
      · simp [RCs, ROc, Value.oneCell']
    · cases hk
  | .bool, 0, t, cs, d, ps, hk, h, hF => by simp [DataW.trod] at h
  | .bool, fuel + 1, t, cs, d, ps, hk, h, hF => by
    simp only [tyOk] at hk
    split at hk
    · rename_i ht
      unfold DataW.trod at h
      rw [ht] at h
      split at h <;> simp_all
      rename_i b
      exact ⟨[.v (.bool b)], by simp [FitT], by simp [RCs, ROc, Value.oneCell']⟩
    · cases hk
  | .str, 0, t, cs, d, ps, hk, h, hF => by simp [DataW.trod] at h
  | .str, fuel + 1, t, cs, d, ps, hk, h, hF => by
    simp only [tyOk] at hk
    split at hk
    · rename_i ht
      unfold DataW.trod at h
      rw [ht] at h
      split at h <;> simp_all
      rename_i b
      exact ⟨[.v (.string b)], by simp only [FitT]; exact ⟨b, rfl, h.1⟩, by simp [RCs, ROc, Value.oneCell']⟩
    · cases hk
  | .sl e', 0, t, cs, d, ps, hk, h, hF => by simp [DataW.trod] at h
  | .sl e', fuel + 1, t, cs, d, ps, hk, h, hF => by
    simp only [tyOk] at hk
    split at hk
    · rename_i e ht
      simp only [Bool.and_eq_true, beq_iff_eq, decide_eq_true_eq] at hk
      obtain ⟨⟨k1, k2⟩, k3⟩ := hk
      unfold DataW.trod at h
      rw [ht] at h
      split at h
      all_goals try (simp_all; done)
      · refine ⟨[.sl false e'.size []], by simp only [FitT]; exact ⟨[], rfl, Nat.zero_le _, by simp⟩, ?_⟩
        simp only [RCs]
        refine ⟨_, [], rfl, ?_, rfl⟩
        simp only [ROc]
        exact ⟨none, 0, 0, rfl, Nat.le_refl _, by simp [ROrows]⟩
      · rename_i e1 a len cap he1
        simp only [Option.some.injEq, TypeDesc.slice.injEq] at he1
        subst he1
        split at h
        · rename_i hcond
          obtain ⟨_, hlc, hcap⟩ := hcond
          rw [Option.bind_eq_some_iff] at h
          obtain ⟨elems, h1, h2⟩ := h
          rw [Option.map_eq_some_iff] at h2
          obtain ⟨rest, h3, h4⟩ := h2
          cases h4
          have hlen : elems.length = len := by simpa using mapM_some_length h1
          by_cases hl0 : len = 0
          · subst hl0
            refine ⟨[.sl false e'.size []], by simp only [FitT]; exact ⟨[], rfl, Nat.zero_le _, by simp⟩, ?_⟩
            simp only [RCs]
            refine ⟨_, [], rfl, ?_, rfl⟩
            simp only [ROc]
            exact ⟨some a, cap, 0, rfl, Nat.zero_le _, by simp [ROrows]⟩
          · have hFa : F a.block := by
              have hpos : 0 < (elems.length + rest.length) * P.cellsOf e := Nat.mul_pos (by omega) (by omega)
              refine hF (.cell a.block (a.off + 0)) (List.mem_append_left _ ?_)
              unfold MemPlace.row
              rw [List.mem_map]
              exact ⟨0, by simp; omega, rfl⟩
            rw [List.range_eq_range'] at h1
            obtain ⟨rows, g1, g2, g3⟩ := rows_of (F := F) (w := w) (e := e') hFa k2.symm h1 (fun j x hj1 hj2 hx hm => by
              rw [Option.bind_eq_some_iff] at hx
              obtain ⟨cs', c1, c2⟩ := hx
              obtain ⟨_, c4, c5⟩ := World.cells?_some c1
              obtain ⟨ts, d1, d2⟩ := read e' (d := x.1) (ps := x.2) k1 (by simpa using c2) (fun y hy => hF y (List.mem_append_right _ (List.mem_flatMap.2 ⟨x, List.mem_append_left _ hm, hy⟩)))
              refine ⟨ts, cs', d1, d2, fun k u hu => ?_⟩
              have hkl : k < cs'.length := (List.getElem?_eq_some_iff.1 hu).1
              rw [c5 k (by omega), hu])
            refine ⟨[.sl false e'.size rows], by simp only [FitT]; exact ⟨rows, rfl, by omega, g2⟩, ?_⟩
            simp only [RCs]
            refine ⟨_, [], rfl, ?_, rfl⟩
            simp only [ROc]
            exact ⟨some a, cap, P.cellsOf e, by rw [g1], by omega, g3⟩
        · cases h
    · cases hk
  | .st fs', 0, t, cs, d, ps, hk, h, hF => by simp [DataW.trod] at h
  | .st fs', fuel + 1, t, cs, d, ps, hk, h, hF => by
    simp only [tyOk] at hk
    split at hk
    · rename_i fs ht
      simp only [Bool.and_eq_true, beq_iff_eq] at hk
      unfold DataW.trod at h
      rw [ht] at h
      split at h
      all_goals try (simp_all; done)
      rename_i fs1 hfs1
      simp only [Option.some.injEq, TypeDesc.struct.injEq] at hfs1
      subst hfs1
      split at h
      · rename_i hlen
        rw [Option.map_eq_some_iff] at h
        obtain ⟨xs, h1, h2⟩ := h
        cases h2
        obtain ⟨ts, g1, g2⟩ := readF fs' (off := 0) hk.1 h1 (by omega) hF
        refine ⟨ts, by simp only [FitT]; exact g1, ?_⟩
        rw [List.drop_zero, ← hk.2, ← hlen, List.take_length] at g2
        exact g2
      · cases h
    · cases hk
theorem readF : ∀ (fs' : List Ty) {fuel off : Nat} {fs : List Field} {cs : List Value} {xs : List (DataW H × List MemPlace)}, fldOk P fs' off fs = true → (fs.mapM fun f => DataW.trod enc P w 0 (fun _ => true) true fuel f.type ((cs.drop f.offset).take (P.cellsOf f.type))) = some xs → off + sizes fs' ≤ cs.length → (∀ x, x ∈ xs.flatMap (·.2) → F x.block) → ∃ ts, FitF fs' ts ∧ RCs F w ts ((cs.drop off).take (sizes fs'))
  | [], fuel, off, fs, cs, xs, hk, h, hl, hF => ⟨[], by simp [FitF], by simp [RCs, sizes]⟩
  | f' :: fs', fuel, off, [], cs, xs, hk, h, hl, hF => by simp [fldOk] at hk
  | f' :: fs', fuel, off, f :: fs, cs, xs, hk, h, hl, hF => by
    simp only [fldOk, Bool.and_eq_true, beq_iff_eq] at hk
    obtain ⟨⟨⟨k1, k2⟩, k3⟩, k4⟩ := hk
    rw [List.mapM_cons] at h
    cases h1 : DataW.trod enc P w 0 (fun _ => true) true fuel f.type ((cs.drop f.offset).take (P.cellsOf f.type)) with
    | none => simp [h1] at h
    | some x =>
      cases h2 : fs.mapM (fun f => DataW.trod enc P w 0 (fun _ => true) true fuel f.type ((cs.drop f.offset).take (P.cellsOf f.type))) with
      | none => simp [h1, h2] at h
      | some ys =>
        simp [h1, h2] at h
        subst h
        simp only [sizes] at hl
        obtain ⟨a, g1, g2⟩ := read f' (d := x.1) (ps := x.2) k3 (by simpa using h1) (fun y hy => hF y (by simp [hy]))
        obtain ⟨b, g3, g4⟩ := readF fs' k4 h2 (by omega) (fun y hy => hF y (by simp only [List.flatMap_cons, List.mem_append]; exact .inr hy))
        refine ⟨a ++ b, by simp only [FitF]; exact ⟨a, b, rfl, g1, g3⟩, ?_⟩
        rw [k1, k2] at g2
        have e1 : (cs.drop off).take (sizes (f' :: fs')) = (cs.drop off).take f'.size ++ (cs.drop (off + f'.size)).take (sizes fs') := by
          rw [← List.drop_drop, ← List.take_add]
          rfl
        rw [e1]
        exact RCs_append g2 g4
end
end
end Go.Proofs.AM
