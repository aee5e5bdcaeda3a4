/- A part of the proof of 'FnExactPackSizeSaid' (HRel): lemmas on an abstract machine for the program's functions. Conditions: none. -/
import Derived.Test.YthimhbjbpeheoaaEvp
set_option linter.unusedVariables false
set_option linter.unusedSimpArgs false
namespace Go.Proofs.AM
open Go.RowKit
variable {P : Program} {tb : Tab} {F K : Nat → Prop} {w : World}
structure HRel (tb : Tab) (F K : Nat → Prop) (o : Heap) (fps : Nat → List Nat) (fl : List Nat) (w : World) : Prop where
  kp : ∀ k, F k → K k
  ents : ∀ n e, o n = some e → OWe tb F w e (fps n)
  nil : ∀ n, o n = Option.none → fps n = []
  nd : ∀ n, (fps n).Nodup
  dj : ∀ n m b, n ≠ m → b ∈ fps n → b ∉ fps m
  lv : ∀ n b, b ∈ fps n → b < w.heap.size ∧ ¬ K b
  fnd : fl.Nodup
  fdj : ∀ n b, b ∈ fl → b ∉ fps n
  flv : ∀ b, b ∈ fl → b < w.heap.size ∧ ¬ K b
def updF (fps : Nat → List Nat) (n : Nat) (f : List Nat) : Nat → List Nat := fun m => if m = n then f else fps m
theorem updF_same (fps : Nat → List Nat) (n : Nat) (f : List Nat) : updF fps n f n = f := by simp [updF]
theorem updF_ne (fps : Nat → List Nat) {n m : Nat} (f : List Nat) (h : m ≠ n) : updF fps n f m = fps m := by simp [updF, h]
theorem upd_same (o : Heap) (n : Nat) (e : Option Ent) : upd o n e n = e := by simp [upd]
theorem upd_ne (o : Heap) {n m : Nat} (e : Option Ent) (h : m ≠ n) : upd o n e m = o m := by simp [upd, h]
section
variable {o : Heap} {fps : Nat → List Nat} {fl : List Nat}
theorem HRel.sub {fl' : List Nat} (h : HRel tb F K o fps fl w) (hs : ∀ b, b ∈ fl' → b ∈ fl) (hn : fl'.Nodup) : HRel tb F K o fps fl' w :=
  ⟨h.kp, h.ents, h.nil, h.nd, h.dj, h.lv, hn, fun n b hb => h.fdj n b (hs b hb), fun b hb => h.flv b (hs b hb)⟩
theorem HRel.perm {fl' : List Nat} (h : HRel tb F K o fps fl w) (hp : fl'.Perm fl) : HRel tb F K o fps fl' w :=
  h.sub (fun b hb => hp.mem_iff.1 hb) (hp.nodup_iff.2 h.fnd)
theorem HRel.take (h : HRel tb F K o fps fl w) (n : Nat) : HRel tb F K (upd o n none) (updF fps n []) (fps n ++ fl) w where
  kp := h.kp
  ents := fun m e he => by
    by_cases hm : m = n
    · subst hm; rw [upd_same] at he; cases he
    · rw [upd_ne _ _ hm] at he; rw [updF_ne _ _ hm]; exact h.ents m e he
  nil := fun m he => by
    by_cases hm : m = n
    · subst hm; rw [updF_same]
    · rw [upd_ne _ _ hm] at he; rw [updF_ne _ _ hm]; exact h.nil m he
  nd := fun m => by
    by_cases hm : m = n
    · subst hm; rw [updF_same]; exact List.nodup_nil
    · rw [updF_ne _ _ hm]; exact h.nd m
  dj := fun m m' b hmm hb => by
    by_cases hm : m = n
    · subst hm; rw [updF_same] at hb; cases hb
    · rw [updF_ne _ _ hm] at hb
      by_cases hm' : m' = n
      · subst hm'; rw [updF_same]; simp
      · rw [updF_ne _ _ hm']; exact h.dj m m' b hmm hb
  lv := fun m b hb => by
    by_cases hm : m = n
    · subst hm; rw [updF_same] at hb; cases hb
    · rw [updF_ne _ _ hm] at hb; exact h.lv m b hb
  fnd := by
    rw [List.nodup_append]
    exact ⟨h.nd n, h.fnd, fun a ha b hb hab => h.fdj n b hb (hab ▸ ha)⟩
  fdj := fun m b hb => by
    by_cases hm : m = n
    · subst hm; rw [updF_same]; simp
    · rw [updF_ne _ _ hm]
      rcases List.mem_append.1 hb with hb | hb
      · exact h.dj n m b (Ne.symm hm) hb
      · exact h.fdj m b hb
  flv := fun b hb => by
    rcases List.mem_append.1 hb with hb | hb
    · exact h.lv n b hb
    · exact h.flv b hb
theorem HRel.put {e : Ent} {f : List Nat} (h : HRel tb F K o fps (f ++ fl) w) (n : Nat) (he : OWe tb F w e f) : HRel tb F K (upd o n (some e)) (updF fps n f) fl w where
  kp := h.kp
  ents := fun m e' he' => by
    by_cases hm : m = n
    · subst hm; rw [upd_same] at he'; cases he'; rw [updF_same]; exact he
    · rw [upd_ne _ _ hm] at he'; rw [updF_ne _ _ hm]; exact h.ents m e' he'
  nil := fun m he' => by
    by_cases hm : m = n
    · subst hm; rw [upd_same] at he'; cases he'
    · rw [upd_ne _ _ hm] at he'; rw [updF_ne _ _ hm]; exact h.nil m he'
  nd := fun m => by
    by_cases hm : m = n
    · subst hm; rw [updF_same]; exact (List.nodup_append.1 h.fnd).1
    · rw [updF_ne _ _ hm]; exact h.nd m
  dj := fun m m' b hmm hb => by
    by_cases hm : m = n
    · subst hm
      rw [updF_same] at hb
      rw [updF_ne _ _ (Ne.symm hmm)]
      exact h.fdj m' b (List.mem_append_left _ hb)
    · rw [updF_ne _ _ hm] at hb
      by_cases hm' : m' = n
      · subst hm'; rw [updF_same]; exact fun hc => h.fdj m b (List.mem_append_left _ hc) hb
      · rw [updF_ne _ _ hm']; exact h.dj m m' b hmm hb
  lv := fun m b hb => by
    by_cases hm : m = n
    · subst hm; rw [updF_same] at hb; exact h.flv b (List.mem_append_left _ hb)
    · rw [updF_ne _ _ hm] at hb; exact h.lv m b hb
  fnd := (List.nodup_append.1 h.fnd).2.1
  fdj := fun m b hb => by
    by_cases hm : m = n
    · subst hm; rw [updF_same]; exact fun hc => (List.nodup_append.1 h.fnd).2.2 b hc b hb rfl
    · rw [updF_ne _ _ hm]; exact h.fdj m b (List.mem_append_right _ hb)
  flv := fun b hb => h.flv b (List.mem_append_right _ hb)
theorem HRel.step {w' : World} (h : HRel tb F K o fps fl w) (hs : w.heap.size ≤ w'.heap.size) (hF : ∀ k, F k → w'.heap[k]? = w.heap[k]?) (ho : ∀ n k, k ∈ fps n → w'.heap[k]? = w.heap[k]?) : HRel tb F K o fps fl w' :=
  ⟨h.kp, fun n e he => OWe_keep hF (fun _ h => h) (fun k hk => ho n k hk) (h.ents n e he), h.nil, h.nd, h.dj, fun n b hb => ⟨Nat.lt_of_lt_of_le (h.lv n b hb).1 hs, (h.lv n b hb).2⟩, h.fnd, h.fdj,
   fun b hb => ⟨Nat.lt_of_lt_of_le (h.flv b hb).1 hs, (h.flv b hb).2⟩⟩
theorem HRel.alloc (h : HRel tb F K o fps fl w) (ob : Obj) (hF : ∀ k, K k → k < w.heap.size) : HRel tb F K o fps (w.heap.size :: fl) (w.alloc ob) := by
  have h1 := h.step (w' := w.alloc ob) (by simp) (fun k hk => Below.heap_alloc w ob k (hF k (h.kp k hk))) (fun n k hk => Below.heap_alloc w ob k (h.lv n k hk).1)
  refine ⟨h1.kp, h1.ents, h1.nil, h1.nd, h1.dj, h1.lv, ?_, ?_, ?_⟩
  · rw [List.nodup_cons]
    exact ⟨fun hc => by have := (h.flv _ hc).1; omega, h.fnd⟩
  · intro n b hb
    rcases List.mem_cons.1 hb with rfl | hb
    · exact fun hc => by have := (h.lv n _ hc).1; omega
    · exact h.fdj n b hb
  · intro b hb
    rcases List.mem_cons.1 hb with rfl | hb
    · exact ⟨by simp, fun hc => by have := hF _ hc; omega⟩
    · exact h1.flv b hb
end
theorem OWc_one : ∀ {c : T} {u : Value} {fp : List Nat}, OWc tb F w c u fp → u.oneCell' = true
  | .v x, u, fp, h => by simp only [OWc] at h; rw [h.1]; exact h.2.1
  | .sl true k rows, u, fp, h => by
    simp only [OWc] at h
    rcases h with ⟨_, rfl, _⟩ | ⟨g, cap, cur, fp', rfl, _⟩ <;> rfl
  | .sl false k rows, u, fp, h => by
    simp only [OWc] at h
    obtain ⟨_, A, cap, e, rfl, _⟩ := h
    rfl
  | .al .., u, fp, h => by
    simp only [OWc, Hdr] at h
    obtain ⟨_, A, rfl, _⟩ := h
    rfl
  | .junk, u, fp, h => by simp only [OWc] at h; exact h.2
theorem OWrows_append {cur : Array Value} {k : Nat} : ∀ {as bs : List (List T)} {i : Nat} {fp : List Nat}, OWrows tb F w cur k i (as ++ bs) fp ↔ ∃ f1 f2, fp = f1 ++ f2 ∧ OWrows tb F w cur k i as f1 ∧ OWrows tb F w cur k (i + as.length) bs f2
  | [], bs, i, fp => by
    simp only [List.nil_append, OWrows, List.length_nil, Nat.add_zero]
    exact ⟨fun h => ⟨[], fp, rfl, rfl, h⟩, fun ⟨f1, f2, h1, h2, h3⟩ => by subst h2; subst h1; exact h3⟩
  | a :: as, bs, i, fp => by
    simp only [List.cons_append, OWrows, List.length_cons]
    constructor
    · rintro ⟨f1, f2, rfl, h1, h2, h3⟩
      obtain ⟨f3, f4, rfl, h4, h5⟩ := OWrows_append.1 h3
      exact ⟨f1 ++ f3, f4, by simp, ⟨f1, f3, rfl, h1, h2, h4⟩, by rwa [show i + (as.length + 1) = i + 1 + as.length by omega]⟩
    · rintro ⟨f1, f2, rfl, ⟨f3, f4, rfl, h1, h2, h4⟩, h5⟩
      exact ⟨f3, f4 ++ f2, by simp, h1, h2, OWrows_append.2 ⟨f4, f2, rfl, h4, by rwa [show i + 1 + as.length = i + (as.length + 1) by omega]⟩⟩
theorem OWcells_append {cur : Array Value} : ∀ {as bs : List T} {p : Nat} {fp : List Nat}, OWcells tb F w cur p (as ++ bs) fp ↔ ∃ f1 f2, fp = f1 ++ f2 ∧ OWcells tb F w cur p as f1 ∧ OWcells tb F w cur (p + as.length) bs f2
  | [], bs, p, fp => by
    simp only [List.nil_append, OWcells, List.length_nil, Nat.add_zero]
    exact ⟨fun h => ⟨[], fp, rfl, rfl, h⟩, fun ⟨f1, f2, h1, h2, h3⟩ => by subst h2; subst h1; exact h3⟩
  | a :: as, bs, p, fp => by
    simp only [List.cons_append, OWcells, List.length_cons]
    constructor
    · rintro ⟨f1, f2, u, rfl, h1, h2, h3⟩
      obtain ⟨f3, f4, rfl, h4, h5⟩ := OWcells_append.1 h3
      exact ⟨f1 ++ f3, f4, by simp, ⟨f1, f3, u, rfl, h1, h2, h4⟩, by rwa [show p + (as.length + 1) = p + 1 + as.length by omega]⟩
    · rintro ⟨f1, f2, rfl, ⟨f3, f4, u, rfl, h1, h2, h4⟩, h5⟩
      exact ⟨f3, f4 ++ f2, u, by simp, h1, h2, OWcells_append.2 ⟨f4, f2, rfl, h4, by rwa [show p + 1 + as.length = p + (as.length + 1) by omega]⟩⟩
theorem OWcells_cur {cur cur' : Array Value} : ∀ {cs : List T} {p : Nat} {fp : List Nat}, (∀ q, p ≤ q → q < p + cs.length → cur'[q]? = cur[q]?) → OWcells tb F w cur p cs fp → OWcells tb F w cur' p cs fp
  | [], p, fp, h, r => by simpa [OWcells] using r
  | c :: cs, p, fp, h, r => by
    simp only [OWcells] at r ⊢
    obtain ⟨f1, f2, u, rfl, h1, h2, h3⟩ := r
    exact ⟨f1, f2, u, rfl, by rw [h p (Nat.le_refl _) (by simp)]; exact h1, h2, OWcells_cur (fun q hq hq' => h q (by omega) (by simp; omega)) h3⟩
theorem OWrows_cur {cur cur' : Array Value} {k : Nat} : ∀ {rows : List (List T)} {i : Nat} {fp : List Nat}, (∀ q, i * esz k ≤ q → q < (i + rows.length) * esz k → cur'[q]? = cur[q]?) → OWrows tb F w cur k i rows fp → OWrows tb F w cur' k i rows fp
  | [], i, fp, h, r => by simpa [OWrows] using r
  | c :: cs, i, fp, h, r => by
    simp only [OWrows] at r ⊢
    obtain ⟨f1, f2, rfl, h1, h2, h3⟩ := r
    refine ⟨f1, f2, rfl, h1, OWcells_cur (fun q hq hq' => h q hq ?_) h2, OWrows_cur (fun q hq hq' => h q ?_ ?_) h3⟩
    · rw [h1] at hq'
      have : (i + 1) * esz k ≤ (i + (c :: cs).length) * esz k := Nat.mul_le_mul_right _ (by simp)
      rw [Nat.add_mul, Nat.one_mul] at this
      omega
    · rw [Nat.add_mul] at hq; omega
    · rw [show i + (c :: cs).length = i + 1 + cs.length by simp; omega]; exact hq'
theorem OWrows_take {cur : Array Value} {k : Nat} {rows : List (List T)} {i : Nat} {fp : List Nat} (n : Nat) (h : OWrows tb F w cur k i rows fp) : ∃ f1 f2, fp = f1 ++ f2 ∧ OWrows tb F w cur k i (rows.take n) f1 := by
  rw [← List.take_append_drop n rows] at h
  obtain ⟨f1, f2, rfl, h1, h2⟩ := OWrows_append.1 h
  exact ⟨f1, f2, rfl, h1⟩
theorem OWrows_len {cur : Array Value} {k : Nat} : ∀ {rows : List (List T)} {i : Nat} {fp : List Nat}, OWrows tb F w cur k i rows fp → ∀ r ∈ rows, r.length = esz k
  | [], i, fp, h, r, hr => by simp at hr
  | x :: xs, i, fp, h, r, hr => by
    simp only [OWrows] at h
    obtain ⟨f1, f2, rfl, h1, h2, h3⟩ := h
    rcases List.mem_cons.1 hr with rfl | hr
    · exact h1
    · exact OWrows_len h3 r hr
def OWl (tb : Tab) (F : Nat → Prop) (w : World) : List T → List Value → List Nat → Prop
  | [], us, fp => us = [] ∧ fp = []
  | c :: cs, us, fp => ∃ u us' f1 f2, us = u :: us' ∧ fp = f1 ++ f2 ∧ OWc tb F w c u f1 ∧ OWl tb F w cs us' f2
theorem OWl_length : ∀ {cs : List T} {us : List Value} {fp : List Nat}, OWl tb F w cs us fp → us.length = cs.length
  | [], us, fp, h => by simp only [OWl] at h; simp [h.1]
  | c :: cs, us, fp, h => by
    simp only [OWl] at h
    obtain ⟨u, us', f1, f2, rfl, rfl, h1, h2⟩ := h
    simp [OWl_length h2]
theorem OWl_one : ∀ {cs : List T} {us : List Value} {fp : List Nat}, OWl tb F w cs us fp → ∀ u ∈ us, u.oneCell' = true
  | [], us, fp, h, u, hu => by simp only [OWl] at h; simp [h.1] at hu
  | c :: cs, us, fp, h, u, hu => by
    simp only [OWl] at h
    obtain ⟨v, us', f1, f2, rfl, rfl, h1, h2⟩ := h
    rcases List.mem_cons.1 hu with rfl | hu
    · exact OWc_one h1
    · exact OWl_one h2 u hu
theorem OWl_cells {cur : Array Value} : ∀ {cs : List T} {us : List Value} {p : Nat} {fp : List Nat}, OWl tb F w cs us fp → (∀ j u, us[j]? = some u → cur[p + j]? = some u) → OWcells tb F w cur p cs fp
  | [], us, p, fp, h, hc => by simp only [OWl] at h; simp [OWcells, h.2]
  | c :: cs, us, p, fp, h, hc => by
    simp only [OWl] at h
    obtain ⟨u, us', f1, f2, rfl, rfl, h1, h2⟩ := h
    simp only [OWcells]
    exact ⟨f1, f2, u, rfl, by simpa using hc 0 u (by simp), h1, OWl_cells h2 (fun j v hj => by have := hc (j + 1) v (by simpa using hj); rwa [show p + (j + 1) = p + 1 + j by omega] at this)⟩
theorem OWcells_l {cur : Array Value} : ∀ {cs : List T} {p : Nat} {fp : List Nat}, OWcells tb F w cur p cs fp → ∃ us, OWl tb F w cs us fp ∧ ∀ j u, us[j]? = some u → cur[p + j]? = some u
  | [], p, fp, h => by simp only [OWcells] at h; exact ⟨[], by simp [OWl, h], by simp⟩
  | c :: cs, p, fp, h => by
    simp only [OWcells] at h
    obtain ⟨f1, f2, u, rfl, h1, h2, h3⟩ := h
    obtain ⟨us, h4, h5⟩ := OWcells_l h3
    refine ⟨u :: us, ⟨u, us, f1, f2, rfl, rfl, h2, h4⟩, fun j v hj => ?_⟩
    cases j with
    | zero => simp at hj; subst hj; simpa using h1
    | succ j => simp at hj; have := h5 j v hj; rwa [show p + (j + 1) = p + 1 + j by omega]
theorem OWl_append : ∀ {as bs : List T} {us vs : List Value} {f g : List Nat}, OWl tb F w as us f → OWl tb F w bs vs g → OWl tb F w (as ++ bs) (us ++ vs) (f ++ g)
  | [], bs, us, vs, f, g, h, h' => by simp only [OWl] at h; simpa [h.1, h.2] using h'
  | a :: as, bs, us, vs, f, g, h, h' => by
    simp only [OWl] at h
    obtain ⟨u, us', f1, f2, rfl, rfl, h1, h2⟩ := h
    simp only [List.cons_append, OWl, List.append_assoc]
    exact ⟨u, us' ++ vs, f1, f2 ++ g, rfl, rfl, h1, OWl_append h2 h'⟩
theorem setAt_spec {α : Type} : ∀ (ys : List α) (xs : List α) (p : Nat), p + ys.length ≤ xs.length → setAt xs p ys = xs.take p ++ ys ++ xs.drop (p + ys.length)
  | [], xs, p, h => by simp [setAt]
  | y :: ys, xs, p, h => by
    simp only [List.length_cons] at h
    simp only [setAt]
    rw [setAt_spec ys _ (p + 1) (by simp; omega)]
    have hp : p < xs.length := by omega
    rw [List.take_set, List.drop_set]
    have h1 : (if p < p + 1 + ys.length then xs.drop (p + 1 + ys.length) else (xs.drop (p + 1 + ys.length)).set (p - (p + 1 + ys.length)) y) = xs.drop (p + 1 + ys.length) := by rw [if_pos (by omega)]
    rw [h1]
    have h2 : (xs.take (p + 1)).set p y = xs.take p ++ [y] := by
      rw [List.take_succ_eq_append_getElem hp, List.set_append_right _ _ (by simp; omega)]
      simp [Nat.min_eq_left (Nat.le_of_lt hp)]
    rw [h2]
    simp [Nat.add_assoc, Nat.add_comm 1]
end Go.Proofs.AM
