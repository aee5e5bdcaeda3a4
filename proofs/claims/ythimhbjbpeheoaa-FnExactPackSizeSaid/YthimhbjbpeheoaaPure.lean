/- A part of the proof of 'FnExactPackSizeSaid' (Pure): lemmas on an abstract machine for the program's functions. Conditions: none. -/
import Derived.Test.YthimhbjbpeheoaaChk
import Derived.Laws.StructEq
import Derived.RowKit3
set_option linter.unusedVariables false
set_option linter.unusedSimpArgs false
namespace Go.Proofs.AM
open Go.RowKit
variable {P : Program} {tb : Tab} {F : Nat → Prop} {w : World}
def RelT (tb : Tab) (F : Nat → Prop) (w : World) (t : Tm) (a : Act) : Prop := ∀ i, RelV tb F w (t i) (a.tmps.getD i undef)
theorem RelT_keep {w' : World} {F' : Nat → Prop} (h : ∀ k, F k → w'.heap[k]? = w.heap[k]?) (hF : ∀ k, F k → F' k) {t : Tm} {a : Act} (r : RelT tb F w t a) : RelT tb F' w' t a := fun i => RelV_keep h hF _ _ (r i)
theorem RelT_put {t : Tm} {a : Act} {d : Option Nat} {x : AV} {u : Value} (r : RelT tb F w t a) (hd : ∀ n, d = some n → n < a.tmps.size) (hx : RelV tb F w x u) : RelT tb F w (updT t d x) (a.put d u) := by
  intro i
  cases d with
  | none => exact r i
  | some n =>
    have hn := hd n rfl
    simp only [updT, Act.put]
    by_cases h : i = n
    · subst h
      simp [Array.getD_eq_getD_getElem?, Array.getElem?_setIfInBounds, hn]
      exact hx
    · rw [if_neg h]
      have := r i
      simp only [Array.getD_eq_getD_getElem?] at this ⊢
      rw [Array.getElem?_setIfInBounds_ne (by omega)]
      exact this
theorem od_sound {t : Tm} {a : Act} (r : RelT tb F w t a) {o : Operand} {d : Od} (h : chkOd tb o d = true) : RelV tb F w (ev t d) (a.eval o) := by
  unfold chkOd at h
  split at h
  · simp at h; subst h; exact r _
  · have := cval_eq h
    subst this
    rename_i v u
    simp only [ev, Act.eval]
    unfold cval at h
    split at h <;> first
      | (simp [ofConst, RelV]; done)
      | (cases h; done)
  · simp at h
    simp only [ev, Act.eval, RelV]
    exact ⟨[], by rw [h], by simp [RelL]⟩
  · have := cval_eq h
    subst this
    simp only [ev, Act.eval, RelV]
    exact ⟨none, 0, 0, rfl, Nat.le_refl _, by simp [ROrows]⟩
  · cases h
theorem ods_sound {t : Tm} {a : Act} (r : RelT tb F w t a) : ∀ {os : List Operand} {ds : List Od}, chkOds tb os ds = true → RelL tb F w (ds.map (ev t)) (os.map a.eval)
  | [], [], _ => by simp [RelL]
  | o :: os, d :: ds, h => by
    simp only [chkOds, Bool.and_eq_true] at h
    simp only [List.map_cons, RelL]
    exact ⟨_, _, rfl, od_sound r h.1, ods_sound r h.2⟩
  | [], _ :: _, h => by simp [chkOds] at h
  | _ :: _, [], h => by simp [chkOds] at h
theorem RelL_length : ∀ {xs : List AV} {us : List Value}, RelL tb F w xs us → us.length = xs.length
  | [], us, h => by simp [RelL] at h; simp [h]
  | x :: xs, us, h => by
    simp only [RelL] at h
    obtain ⟨u, us', rfl, _, h2⟩ := h
    simp [RelL_length h2]
theorem RelL_get : ∀ {xs : List AV} {us : List Value} (i : Nat) (x : AV), RelL tb F w xs us → xs[i]? = some x → ∃ u, us[i]? = some u ∧ RelV tb F w x u
  | [], us, i, x, h, hx => by simp at hx
  | y :: xs, us, i, x, h, hx => by
    simp only [RelL] at h
    obtain ⟨u, us', rfl, h1, h2⟩ := h
    cases i with
    | zero => simp at hx; subst hx; exact ⟨u, by simp, h1⟩
    | succ i => simp at hx; simpa using RelL_get i x h2 hx
theorem RelL_append : ∀ {xs ys : List AV} {us vs : List Value}, RelL tb F w xs us → RelL tb F w ys vs → RelL tb F w (xs ++ ys) (us ++ vs)
  | [], ys, us, vs, h, h' => by simp [RelL] at h; simpa [h] using h'
  | x :: xs, ys, us, vs, h, h' => by
    simp only [RelL] at h
    obtain ⟨u, us', rfl, h1, h2⟩ := h
    simp only [List.cons_append, RelL]
    exact ⟨_, _, rfl, h1, RelL_append h2 h'⟩
theorem RelL_take : ∀ {xs : List AV} {us : List Value} (n : Nat), RelL tb F w xs us → RelL tb F w (xs.take n) (us.take n)
  | xs, us, 0, h => by simp [RelL]
  | [], us, n + 1, h => by simp [RelL] at h; simp [h, RelL]
  | x :: xs, us, n + 1, h => by
    simp only [RelL] at h
    obtain ⟨u, us', rfl, h1, h2⟩ := h
    simp only [List.take_succ_cons, RelL]
    exact ⟨_, _, rfl, h1, RelL_take n h2⟩
theorem RelL_drop : ∀ {xs : List AV} {us : List Value} (n : Nat), RelL tb F w xs us → RelL tb F w (xs.drop n) (us.drop n)
  | xs, us, 0, h => by simpa using h
  | [], us, n + 1, h => by simp [RelL] at h; simp [h, RelL]
  | x :: xs, us, n + 1, h => by
    simp only [RelL] at h
    obtain ⟨u, us', rfl, h1, h2⟩ := h
    simpa using RelL_drop n h2
theorem RelL_set : ∀ {xs : List AV} {us : List Value} (i : Nat) {x : AV} {u : Value}, RelL tb F w xs us → RelV tb F w x u → RelL tb F w (xs.set i x) (us.set i u)
  | [], us, i, x, u, h, h' => by simp [RelL] at h; simp [h, RelL]
  | y :: xs, us, i, x, u, h, h' => by
    simp only [RelL] at h
    obtain ⟨v, us', rfl, h1, h2⟩ := h
    cases i with
    | zero => simp only [List.set_cons_zero, RelL]; exact ⟨_, _, rfl, h', h2⟩
    | succ i => simp only [List.set_cons_succ, RelL]; exact ⟨_, _, rfl, h1, RelL_set i h2 h'⟩
theorem binOp_run {op : BinOp} {a b v : Value} (h : pbin op a b = some v) (t : TypeId) (x y : Operand) (w : World) :
    ((do eqGuard op t x y a b; binOp op t a b) : Sem Value).run P w = .ok v w := by
  unfold pbin at h
  split at h <;> (try (split at h)) <;> (try cases h) <;> (try (rename_i hc; (try obtain ⟨hc, hz⟩ := hc); (try subst hc))) <;>
    simp_all [eqGuard, binOp, Op.intArith, Op.intCmp, Op.stringOp, Op.intDiv, Op.intBits, Op.shift, IntKind.max, IntKind.signed, IntKind.bits] <;> omega
theorem eq1_run {k : Nat} {a b : Value} {r : Bool} (h : eq1 k a b = some r) {t : TypeId} (ht : eqK P t k = true) (d : Nat) (w : World) : (Op.equalIn (d + 1) t a b).run P w = .ok r w := by
  unfold eqK at ht
  unfold eq1 at h
  split at h
  · split at h
    · rename_i k a k' b hkk
      cases h
      subst hkk
      split at ht <;> simp at ht
      rename_i k' hk'
      exact run_equalIn_int w d t k k' a b hk'
    · cases h
  · cases h
    split at ht <;> simp at ht
    rename_i hb
    exact run_equalIn_bool' w d t _ _ hb
  · cases h
    split at ht <;> simp at ht
    rename_i hs
    rw [run_equalIn_string w d t _ _ hs, beq_toListBytes]
  · cases h
theorem eqL_run (xs ys : Array Value) (d : Nat) (w : World) : ∀ (ks : List Nat) (as bs : List AV) (fs : List Field) (i : Nat) (us vs : List Value) (r : Bool), eqL ks as bs = some r → eqFs P i fs ks = true →
    RelL tb F w as us → RelL tb F w bs vs → (∀ j u, us[j]? = some u → xs[i + j]? = some u) → (∀ j u, vs[j]? = some u → ys[i + j]? = some u) → (Op.eqFields (d + 1) xs ys fs).run P w = .ok r w
  | [], as, bs, fs, i, us, vs, r, h, hf, _, _, _, _ => by
    cases fs with
    | nil =>
      unfold eqL at h
      split at h <;> simp_all [Op.eqFields]
    | cons f fs => simp [eqFs] at hf
  | k :: ks, as, bs, fs, i, us, vs, r, h, hf, ha, hb, hx, hy => by
    cases fs with
    | nil => simp [eqFs] at hf
    | cons f fs =>
      cases as with
      | nil => simp [eqL] at h
      | cons a as => cases bs with
      | nil => cases a <;> simp [eqL] at h
      | cons b bs =>
        cases a with
        | v a => cases b with
          | v b =>
            simp only [eqL] at h
            simp only [eqFs, Bool.and_eq_true, bne_iff_ne, beq_iff_eq] at hf
            obtain ⟨⟨⟨hn, hk⟩, ho⟩, hf⟩ := hf
            split at h
            · rename_i p q hp hq
              cases h
              simp only [RelL, RelV] at ha hb
              obtain ⟨u, us', rfl, rfl, ha⟩ := ha
              obtain ⟨v, vs', rfl, rfl, hb⟩ := hb
              have e1 := eq1_run hp hk d w
              have hagg : (isAgg f.type).run P w = .ok false w := by
                unfold isAgg
                rw [Sem.run_bind]
                unfold eqK at hk
                split at hk <;> (try simp at hk) <;> (rename_i hu; rw [run_underlying hu w]; simp)
              have p1 : (part f.type xs f.offset).run P w = .ok u w := by
                have := hx 0 u (by simp)
                simp only [Nat.add_zero] at this
                simp [part, Sem.run_bind, hagg, ho, this]
              have p2 : (part f.type ys f.offset).run P w = .ok v w := by
                have := hy 0 v (by simp)
                simp only [Nat.add_zero] at this
                simp [part, Sem.run_bind, hagg, ho, this]
              have ih := eqL_run xs ys d w ks as bs fs (i + 1) us' vs' q hq hf ha hb (fun j z hj => by have := hx (j + 1) z (by simpa using hj); rwa [show i + (j + 1) = i + 1 + j by omega] at this)
                (fun j z hj => by have := hy (j + 1) z (by simpa using hj); rwa [show i + (j + 1) = i + 1 + j by omega] at this)
              simp only [Op.eqFields, if_pos hn, Sem.run_bind, p1, p2, e1, Result.andThen_ok]
              cases p
              · simp
              · simpa using ih
            · cases h
          | _ => simp [eqL] at h
        | _ => simp [eqL] at h
theorem eqs_run {agg neg : Bool} {ks : List Nat} {a b : AV} {r : Bool} (h : eqAV agg ks a b = some r) {t : TypeId} (ht : eqT P t agg ks = true) {u v : Value} (ha : RelV tb F w a u) (hb : RelV tb F w b v) (x y : Operand) :
    ((do eqGuard (if neg then .neq else .eql) t x y u v; binOp (if neg then .neq else .eql) t u v) : Sem Value).run P w = .ok (.bool (if neg then !r else r)) w := by
  unfold eqAV at h
  split at h
  · rename_i a b
    split at h
    · rename_i k
      simp only [RelV] at ha hb
      subst ha
      subst hb
      simp only [eqT, Bool.false_eq_true, if_false] at ht
      have e1 := eq1_run h ht 9999 w
      cases neg <;> (unfold eq1 at h; split at h <;> (try split at h) <;> (try cases h) <;> simp_all [eqGuard, binOp, Op.equal, Op.maxDepth, Op.intCmp, Op.stringOp, beq_toListBytes])
      all_goals rfl
    · cases h
  · rename_i as bs
    split at h
    · rename_i hagg
      simp only [eqT, hagg, if_true] at ht
      split at ht
      · rename_i fs hfs
        simp only [Bool.and_eq_true, Bool.not_eq_true'] at ht
        obtain ⟨⟨hs, hg⟩, hf⟩ := ht
        simp only [RelV] at ha hb
        obtain ⟨us, rfl, ha⟩ := ha
        obtain ⟨vs, rfl, hb⟩ := hb
        have hfo : P.fieldsOf t = fs := by simp [Program.fieldsOf, hfs]
        have e1 := eqL_run us.toArray vs.toArray 9998 w ks as bs fs.toList 0 us vs r h hf ha hb (fun j u hj => by simpa using hj) (fun j u hj => by simpa using hj)
        have e2 := run_equalIn_struct (P := P) w 9999 t us.toArray vs.toArray (by rw [hfo]; exact hfs) hs
        rw [hfo, e1] at e2
        cases neg
        · simp only [Bool.false_eq_true, if_false, Sem.run_bind, run_eqGuard_agg w .eql t x y _ _ hg, Result.andThen_ok, run_eql_struct, e2]
        · simp only [if_true, Sem.run_bind, run_eqGuard_agg w .neq t x y _ _ hg, Result.andThen_ok, run_neq_struct, e2]
      · cases ht
    · cases h
  · cases h
end Go.Proofs.AM
