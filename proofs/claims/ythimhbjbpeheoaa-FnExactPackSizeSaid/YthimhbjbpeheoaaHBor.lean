/- A part of the proof of 'FnExactPackSizeSaid' (HBor): lemmas on an abstract machine for the program's functions. Conditions: none. -/
import Derived.Test.YthimhbjbpeheoaaHApp
set_option linter.unusedVariables false
set_option linter.unusedSimpArgs false
namespace Go.Proofs.AM
open Go.RowKit
variable {P : Program} {tb : Tab} {F F' K : Nat → Prop} {w : World}
mutual
theorem erR_len : ∀ {rows rows' : Rows}, erR rows = some rows' → rows'.length = rows.length
  | [], rows', h => by simp only [erR, Option.some.injEq] at h; subst h; rfl
  | c :: cs, rows', h => by
    simp only [erR] at h
    split at h
    · rename_i x xs h1 h2
      cases h
      simp [erR_len h2]
    · cases h
theorem erL_len : ∀ {cs cs' : List T}, erL cs = some cs' → cs'.length = cs.length
  | [], rows', h => by simp only [erL, Option.some.injEq] at h; subst h; rfl
  | c :: cs, rows', h => by
    simp only [erL] at h
    split at h
    · rename_i x xs h1 h2
      cases h
      simp [erL_len h2]
    · cases h
end
mutual
theorem erT_sound (hF : ∀ k, F k → F' k) : ∀ (c : T) {c' : T} {u : Value} {fp : List Nat}, erT c = some c' → OWc tb F w c u fp → (∀ k ∈ fp, F' k) → ROc F' w c' u
  | .v x, c', u, fp, h, r, hf => by
    simp only [erT, Option.some.injEq] at h
    subst h
    simp only [OWc] at r
    simp only [ROc]
    exact ⟨r.1, r.2.1⟩
  | .sl true k rows, c', u, fp, h, r, hf => by
    simp only [erT] at h
    obtain ⟨rows', h1, rfl⟩ := Option.map_eq_some_iff.1 h
    have hlen := erR_len h1
    simp only [OWc] at r
    simp only [ROc]
    rcases r with ⟨rfl, rfl, _⟩ | ⟨g, cap, cur, fp', rfl, h2, h3, h4, h5, rfl, h7⟩
    · simp only [erR, Option.some.injEq] at h1
      subst h1
      exact ⟨none, 0, 0, rfl, Nat.le_refl _, by simp [ROrows]⟩
    · refine ⟨some ⟨g, 0, none⟩, cap, esz k, by rw [hlen], by omega, ?_⟩
      have := erR_sound hF (off := 0) rows (i := 0) h1 h7 (fun q hq => hf q (by simp [hq])) h2 (hf g (by simp))
      simpa using this
  | .sl false k rows, c', u, fp, h, r, hf => by
    simp only [erT] at h
    obtain ⟨rows', h1, rfl⟩ := Option.map_eq_some_iff.1 h
    simp only [OWc] at r
    simp only [ROc]
    obtain ⟨_, A, cap, e, h2, h3, h4⟩ := r
    have hlen := erR_len h1
    exact ⟨A, cap, e, by rw [hlen]; exact h2, by omega, erR_ro hF rows h1 h4⟩
  | .al .., c', u, fp, h, r, hf => by simp [erT] at h
  | .junk, c', u, fp, h, r, hf => by simp [erT] at h
theorem erL_sound (hF : ∀ k, F k → F' k) {g off : Nat} {cur : Array Value} {ty : TypeId} : ∀ (cs : List T) {p : Nat} {cs' : List T} {fp : List Nat}, erL cs = some cs' → OWcells tb F w cur (off + p) cs fp → (∀ k ∈ fp, F' k) → w.heap[g]? = some (.cells cur ty (0, 0)) → ROcells F' w ⟨g, off, none⟩ p cs'
  | [], p, cs', fp, h, r, hf, hg => by
    simp only [erL, Option.some.injEq] at h
    subst h
    simp [ROcells]
  | c :: cs, p, cs', fp, h, r, hf, hg => by
    simp only [erL] at h
    split at h
    · rename_i x xs h1 h2
      cases h
      simp only [OWcells] at r
      obtain ⟨f1, f2, u, rfl, r1, r2, r3⟩ := r
      simp only [ROcells]
      refine ⟨⟨u, ?_, erT_sound hF c h1 r2 (fun k hk => hf k (by simp [hk]))⟩, erL_sound hF cs h2 (by rwa [Nat.add_assoc] at r3) (fun k hk => hf k (by simp [hk])) hg⟩
      rw [add_mk, cell_of_row w g _ cur _ _ hg]
      exact r1
    · cases h
theorem erR_sound (hF : ∀ k, F k → F' k) {g off k : Nat} {cur : Array Value} {ty : TypeId} : ∀ (rows : Rows) {i : Nat} {rows' : Rows} {fp : List Nat}, erR rows = some rows' → OWrows tb F w cur k (off + i) rows fp → (∀ k ∈ fp, F' k) → w.heap[g]? = some (.cells cur ty (0, 0)) → F' g → ROrows F' w (esz k) (some ⟨g, off * esz k, none⟩) i rows'
  | [], i, rows', fp, h, r, hf, hg, hg' => by
    simp only [erR, Option.some.injEq] at h
    subst h
    simp [ROrows]
  | c :: cs, i, rows', fp, h, r, hf, hg, hg' => by
    simp only [erR] at h
    split at h
    · rename_i x xs h1 h2
      cases h
      simp only [OWrows] at r
      obtain ⟨f1, f2, rfl, r1, r2, r3⟩ := r
      simp only [ROrows]
      refine ⟨by rw [erL_len h1]; exact r1, ⟨_, rfl, hg', erL_sound hF c h1 (by rwa [Nat.add_mul] at r2) (fun k hk => hf k (by simp [hk])) hg⟩, erR_sound hF cs h2 (by rwa [Nat.add_assoc] at r3) (fun k hk => hf k (by simp [hk])) hg hg'⟩
    · cases h
theorem erT_ro (hF : ∀ k, F k → F' k) : ∀ (c : T) {c' : T} {u : Value}, erT c = some c' → ROc F w c u → ROc F' w c' u
  | .v x, c', u, h, r => by
    simp only [erT, Option.some.injEq] at h
    subst h
    simpa only [ROc] using r
  | .sl own k rows, c', u, h, r => by
    simp only [erT] at h
    obtain ⟨rows', h1, rfl⟩ := Option.map_eq_some_iff.1 h
    simp only [ROc] at r ⊢
    obtain ⟨A, cap, e, h2, h3, h4⟩ := r
    have hlen := erR_len h1
    exact ⟨A, cap, e, by rw [hlen]; exact h2, by omega, erR_ro hF rows h1 h4⟩
  | .al .., c', u, h, r => by simp [erT] at h
  | .junk, c', u, h, r => by simp [erT] at h
theorem erL_ro (hF : ∀ k, F k → F' k) {ad : Addr} : ∀ (cs : List T) {p : Nat} {cs' : List T}, erL cs = some cs' → ROcells F w ad p cs → ROcells F' w ad p cs'
  | [], p, cs', h, r => by
    simp only [erL, Option.some.injEq] at h
    subst h
    simp [ROcells]
  | c :: cs, p, cs', h, r => by
    simp only [erL] at h
    split at h
    · rename_i x xs h1 h2
      cases h
      simp only [ROcells] at r ⊢
      obtain ⟨⟨u, r1, r2⟩, r3⟩ := r
      exact ⟨⟨u, r1, erT_ro hF c h1 r2⟩, erL_ro hF cs h2 r3⟩
    · cases h
theorem erR_ro (hF : ∀ k, F k → F' k) {e : Nat} {A : Option Addr} : ∀ (rows : Rows) {i : Nat} {rows' : Rows}, erR rows = some rows' → ROrows F w e A i rows → ROrows F' w e A i rows'
  | [], i, rows', h, r => by
    simp only [erR, Option.some.injEq] at h
    subst h
    simp [ROrows]
  | c :: cs, i, rows', h, r => by
    simp only [erR] at h
    split at h
    · rename_i x xs h1 h2
      cases h
      simp only [ROrows] at r ⊢
      obtain ⟨r1, ⟨ad, r2, r3, r4⟩, r5⟩ := r
      exact ⟨by rw [erL_len h1]; exact r1, ⟨ad, r2, hF _ r3, erL_ro hF c h1 r4⟩, erR_ro hF cs h2 r5⟩
    · cases h
end
theorem ref_ro {o : Heap} {fps : Nat → List Nat} {fl : List Nat} (hr : HRel tb F K o fps fl w) (hF : ∀ k, F k → F' k) {n : Nat} (hown : ∀ k, k ∈ fps n → F' k) {e : Ent} (he : o n = some e) {b : Option Nat} {cap off len k : Nat} (h1 : e.b = b) (h2 : e.k = k) (h3 : off + len ≤ e.rows.length) {rows' : Rows}
    (h4 : erR ((e.rows.drop off).take len) = some rows') {u : Value} (hu : Hdr b k off len cap u) : ∃ A cap e, u = .slice A rows'.length cap ∧ rows'.length ≤ cap ∧ ROrows F' w e A 0 rows' := by
  subst h1
  subst h2
  have hlen := erR_len h4
  have hl2 : ((e.rows.drop off).take len).length = len := by rw [List.length_take, List.length_drop]; omega
  rw [hl2] at hlen
  obtain ⟨A, rfl, hc, hb, hA⟩ := hu
  refine ⟨A, cap - off, esz e.k, by rw [hlen], by omega, ?_⟩
  by_cases h0 : len = 0
  · subst h0
    simp only [List.take_zero, erR, Option.some.injEq] at h4
    subst h4
    simp [ROrows]
  · rcases hA with rfl | hA
    · have hE := hr.ents n e he
      unfold OWe at hE
      cases heb : e.b with
      | none =>
        rw [heb] at hE
        rw [hE.1] at h3
        simp at h3
        omega
      | some g =>
        rw [heb] at hE
        obtain ⟨cur, f0, e1, e2, e3, e4, e5, e6⟩ := hE
        rw [← List.take_append_drop off e.rows] at e6
        obtain ⟨fA, f1, rfl, hA1, hA2⟩ := OWrows_append.1 e6
        rw [← List.take_append_drop len (e.rows.drop off)] at hA2
        obtain ⟨fM, fB, rfl, hM, hB⟩ := OWrows_append.1 hA2
        have hlo : (e.rows.take off).length = off := by rw [List.length_take]; omega
        rw [hlo] at hM
        simp only [Nat.zero_add] at hM
        exact erR_sound hF _ (i := 0) h4 (by simpa using hM) (fun q hq => hown q (by rw [e5]; simp [hq])) e1 (hown g (by rw [e5]; simp))
    · omega
theorem borT_sound {o o' : Heap} {fps : Nat → List Nat} {fl : List Nat} (hr : HRel tb F K o fps fl w) (hF : ∀ k, F k → F' k) (hown : ∀ n k, k ∈ fps n → F' k) {c c' : T} {u : Value} {fp : List Nat} (h : (borT c).run o = some (c', o')) (r : OWc tb F w c u fp) (hf : ∀ k ∈ fp, F' k) : o' = o ∧ ROc F' w c' u := by
  cases c with
  | al n b cap off len k =>
    simp only [borT, run_askb, run_needb, run_orFail, Bool.and_eq_true, decide_eq_true_eq, Bool.not_eq_true'] at h
    obtain ⟨e, he, ⟨⟨⟨q1, q2⟩, q3⟩, q4⟩, h, rfl⟩ := h
    obtain ⟨rows', h1, rfl⟩ := Option.map_eq_some_iff.1 h
    simp only [OWc] at r
    refine ⟨rfl, ?_⟩
    simp only [ROc]
    exact ref_ro hr hF (hown _) he q1 q2 q3 h1 r.2
  | _ =>
    simp only [borT, run_orFail] at h
    exact ⟨h.2.symm, erT_sound hF _ h.1 r hf⟩
theorem borTs_sound {o o' : Heap} {fps : Nat → List Nat} {fl : List Nat} (hr : HRel tb F K o fps fl w) (hF : ∀ k, F k → F' k) (hown : ∀ n k, k ∈ fps n → F' k) {g off : Nat} {cur : Array Value} {ty : TypeId} (hg : w.heap[g]? = some (.cells cur ty (0, 0))) : ∀ {cs cs' : List T} {p : Nat} {fp : List Nat}, (borTs cs).run o = some (cs', o') → OWcells tb F w cur (off + p) cs fp → (∀ k ∈ fp, F' k) → o' = o ∧ ROcells F' w ⟨g, off, none⟩ p cs'
  | [], cs', p, fp, h, r, hf => by
    simp only [borTs, run_ret2] at h
    obtain ⟨rfl, rfl⟩ := h
    exact ⟨rfl, by simp [ROcells]⟩
  | c :: cs, cs', p, fp, h, r, hf => by
    simp only [borTs] at h
    obtain ⟨x, o1, h1, h⟩ := run_bind.1 h
    obtain ⟨xs, o2, h2, h3⟩ := run_bind.1 h
    simp only [run_ret2] at h3
    obtain ⟨rfl, rfl⟩ := h3
    simp only [OWcells] at r
    obtain ⟨f1, f2, u, rfl, r1, r2, r3⟩ := r
    obtain ⟨rfl, k1⟩ := borT_sound hr hF hown h1 r2 (fun k hk => hf k (by simp [hk]))
    obtain ⟨rfl, k2⟩ := borTs_sound hr hF hown hg h2 (by rwa [Nat.add_assoc] at r3) (fun k hk => hf k (by simp [hk]))
    refine ⟨rfl, ?_⟩
    simp only [ROcells]
    refine ⟨⟨u, ?_, k1⟩, k2⟩
    rw [add_mk, cell_of_row w g _ cur _ _ hg]
    exact r1
def noio : AV → Bool
  | .io .. => false
  | .pio .. => false
  | _ => true
mutual
theorem bor_sound {o : Heap} {fps : Nat → List Nat} {fl : List Nat} (hr : HRel tb F K o fps fl w) (hF : ∀ k, F k → F' k) : ∀ (x : AV) {y : AV} {o' : Heap} {u : Value}, (frz x = true ∨ ∀ n k, k ∈ fps n → F' k) → (bor x).run o = some (y, o') → RelV tb F w x u → o' = o ∧ RelV tb F' w y u ∧ noio y = true ∧ ∀ bs, parA bs y = y
  | .v x, y, o', u, hown, h, r => by
    simp only [bor, run_ret2] at h
    obtain ⟨rfl, rfl⟩ := h
    exact ⟨rfl, by simpa only [RelV] using r, rfl, fun _ => rfl⟩
  | .ro rows, y, o', u, hown, h, r => by
    simp only [bor, run_ret2] at h
    obtain ⟨rfl, rfl⟩ := h
    exact ⟨rfl, RelV_keep (fun _ _ => rfl) hF _ _ r, rfl, fun _ => rfl⟩
  | .nil, y, o', u, hown, h, r => by
    simp only [bor, run_ret2] at h
    obtain ⟨rfl, rfl⟩ := h
    simp only [RelV] at r ⊢
    exact ⟨trivial, ⟨none, 0, 0, r, Nat.le_refl _, by simp [ROrows]⟩, rfl, fun _ => rfl⟩
  | .ref n b cap off len k, y, o', u, hown, h, r => by
    simp only [bor, run_askb, run_needb, run_orFail, Bool.and_eq_true, decide_eq_true_eq, Bool.not_eq_true'] at h
    obtain ⟨e, he, ⟨⟨⟨q1, q2⟩, q3⟩, q4⟩, h, rfl⟩ := h
    obtain ⟨rows', h1, rfl⟩ := Option.map_eq_some_iff.1 h
    simp only [RelV] at r ⊢
    exact ⟨trivial, ref_ro hr hF (hown.resolve_left (by simp [frz]) _) he q1 q2 q3 h1 r, rfl, fun _ => rfl⟩
  | .ptr n b k rr c, y, o', u, hown, h, r => by
    simp only [bor, run_askb, run_needb, Bool.and_eq_true, decide_eq_true_eq] at h
    obtain ⟨e, he, ⟨⟨q1, q2⟩, q3⟩, h⟩ := h
    obtain ⟨cs, o1, h1, h⟩ := run_bind.1 h
    simp only [run_ret2] at h
    obtain ⟨rfl, rfl⟩ := h
    simp only [RelV] at r ⊢
    obtain ⟨g, rfl, rfl⟩ := r
    have hown' := hown.resolve_left (by simp [frz])
    have hE := hr.ents n e he
    unfold OWe at hE
    rw [q1] at hE
    obtain ⟨cur, f0, e1, e2, e3, e4, e5, e6⟩ := hE
    have hs := mem_split_at e.rows rr [] q3
    rw [hs, List.append_assoc] at e6
    obtain ⟨fA, f1, rfl, hA1, hA2⟩ := OWrows_append.1 e6
    obtain ⟨fM, fB, rfl, hM, hB⟩ := OWrows_append.1 hA2
    have hlo : (e.rows.take rr).length = rr := by rw [List.length_take]; omega
    rw [hlo] at hM
    simp only [Nat.zero_add, OWrows] at hM
    obtain ⟨fr1, fr2, rfl, hrl, hcells, rfl⟩ := hM
    rw [← List.take_append_drop c (e.rows.getD rr [])] at hcells
    obtain ⟨fa, fb, rfl, ha, hb⟩ := OWcells_append.1 hcells
    by_cases hc : c ≤ (e.rows.getD rr []).length
    · have hla : ((e.rows.getD rr []).take c).length = c := by rw [List.length_take]; omega
      rw [hla] at hb
      obtain ⟨rfl, k1⟩ := borTs_sound hr hF hown' e1 (off := rr * esz k + c) (p := 0) h1 (by rw [q2] at hb; simpa using hb) (fun q hq => hown' n q (by rw [e5]; simp [hq]))
      exact ⟨rfl, ⟨_, rfl, hown' n g (by rw [e5]; simp), k1⟩, rfl, fun _ => rfl⟩
    · rw [List.drop_eq_nil_of_le (by omega)] at h1
      simp only [borTs, run_ret2] at h1
      obtain ⟨rfl, rfl⟩ := h1
      exact ⟨rfl, ⟨_, rfl, hown' n g (by rw [e5]; simp), by simp [ROcells]⟩, rfl, fun _ => rfl⟩
  | .rptr cs, y, o', u, hown, h, r => by
    simp only [bor, run_ret2] at h
    obtain ⟨rfl, rfl⟩ := h
    exact ⟨rfl, RelV_keep (fun _ _ => rfl) hF _ _ r, rfl, fun _ => rfl⟩
  | .agg cs, y, o', u, hown, h, r => by
    simp only [bor] at h
    obtain ⟨xs, o1, h1, h⟩ := run_bind.1 h
    simp only [run_ret2] at h
    obtain ⟨rfl, rfl⟩ := h
    simp only [RelV] at r ⊢
    obtain ⟨us, rfl, r⟩ := r
    obtain ⟨rfl, k1, k2⟩ := bors_sound hr hF cs (by simpa only [frz] using hown) h1 r
    exact ⟨rfl, ⟨us, rfl, k1⟩, rfl, fun bs => by simp only [parA, (k2 bs).1]⟩
  | .fn f cs, y, o', u, hown, h, r => by
    simp only [bor] at h
    obtain ⟨xs, o1, h1, h⟩ := run_bind.1 h
    simp only [run_ret2] at h
    obtain ⟨rfl, rfl⟩ := h
    simp only [RelV] at r ⊢
    obtain ⟨us, rfl, r⟩ := r
    obtain ⟨rfl, k1, k2⟩ := bors_sound hr hF cs (by simpa only [frz] using hown) h1 r
    exact ⟨rfl, ⟨us, rfl, k1⟩, rfl, fun _ => rfl⟩
  | .tup cs, y, o', u, hown, h, r => by simp [bor, run_fail] at h
  | .junk, y, o', u, hown, h, r => by simp [bor, run_fail] at h
  | .io .., y, o', u, hown, h, r => by simp [bor, run_fail] at h
  | .pio .., y, o', u, hown, h, r => by simp [bor, run_fail] at h
theorem bors_sound {o : Heap} {fps : Nat → List Nat} {fl : List Nat} (hr : HRel tb F K o fps fl w) (hF : ∀ k, F k → F' k) : ∀ (xs : List AV) {ys : List AV} {o' : Heap} {us : List Value}, (frzs xs = true ∨ ∀ n k, k ∈ fps n → F' k) → (bors xs).run o = some (ys, o') → RelL tb F w xs us → o' = o ∧ RelL tb F' w ys us ∧ ∀ bs, ys.map (parC bs) = ys ∧ ys.map (parA bs) = ys
  | [], ys, o', us, hown, h, r => by
    simp only [bors, run_ret2] at h
    obtain ⟨rfl, rfl⟩ := h
    exact ⟨rfl, by simpa only [RelL] using r, fun _ => ⟨rfl, rfl⟩⟩
  | x :: xs, ys, o', us, hown, h, r => by
    simp only [bors] at h
    obtain ⟨y, o1, h1, h⟩ := run_bind.1 h
    obtain ⟨zs, o2, h2, h3⟩ := run_bind.1 h
    simp only [run_ret2] at h3
    obtain ⟨rfl, rfl⟩ := h3
    simp only [RelL] at r
    obtain ⟨u, us', rfl, r1, r2⟩ := r
    obtain ⟨rfl, k1, k2, k3⟩ := bor_sound hr hF x (by
      rcases hown with h | h
      · simp only [frzs, Bool.and_eq_true] at h; exact .inl h.1
      · exact .inr h) h1 r1
    obtain ⟨rfl, k4, k5⟩ := bors_sound hr hF xs (by
      rcases hown with h | h
      · simp only [frzs, Bool.and_eq_true] at h; exact .inl h.2
      · exact .inr h) h2 r2
    refine ⟨rfl, by simp only [RelL]; exact ⟨u, us', rfl, k1, k4⟩, fun bs => ?_⟩
    rw [List.map_cons, List.map_cons, (k5 bs).1, (k5 bs).2, k3 bs]
    refine ⟨?_, rfl⟩
    congr 1
    cases y <;> first | rfl | (cases k2)
end
end Go.Proofs.AM
