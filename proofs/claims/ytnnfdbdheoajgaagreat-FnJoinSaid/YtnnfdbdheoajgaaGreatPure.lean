/- Lemmas of the proof (Pure), on an abstract machine. Conditions: none. -/
import Derived.Test.YtnnfdbdheoajgaaGreatChk
import Derived.Laws.StructEq
import Derived.RowKit3
set_option linter.unusedVariables false
set_option linter.unusedSimpArgs false
namespace Go.Proofs.AM
open Go.RowKit
variable {P : Program} {tb : Tab} {F : Nat → Prop} {w : World}
structure eR7 (tb : Tab) (F : Nat → Prop) (w : World) (t : Tm) (a : Act) : Prop where
 v : ∀ i, ay7 tb F w (t i) (a.tmps.getD i undef)
 gl : GlOk tb F w
theorem k77 {w' : World} {F' : Nat → Prop} (h : ∀ k, F k → w'.heap[k]? = w.heap[k]?) (hF : ∀ k, F k → F' k) {t : Tm} {a : Act} (r : eR7 tb F w t a) : eR7 tb F' w' t a := ⟨fun i => co7 h hF _ _ (r.v i), r.gl.keep h hF⟩
theorem tu7 {t : Tm} {a : Act} {d : Option Nat} {x : AV} {u : Value} (r : eR7 tb F w t a) (hd : ∀ n, d = some n → n < a.tmps.size) (hx : ay7 tb F w x u) : eR7 tb F w (aG7 t d x) (a.put d u) := by
 refine ⟨fun i => ?_, r.gl⟩
 cases d with
 | none => exact r.v i
 | some n =>
  have hn := hd n rfl
  simp only [aG7, Act.put]
  by_cases h : i = n
  ·subst h
   simp [Array.getD_eq_getD_getElem?, Array.getElem?_setIfInBounds, hn]
   exact hx
  ·rw [if_neg h]
   have := r.v i
   simp only [Array.getD_eq_getD_getElem?] at this ⊢
   rw [Array.getElem?_setIfInBounds_ne (by omega)]
   exact this
theorem k97 {x : AV} {u : Value} (h : ay7 tb F w x u) : ay7 tb F w (wk7 x) u := by
 unfold wk7
 split
 ·simp only [ay7] at h ⊢
  obtain ⟨h1, h2, e, h3⟩ := h
  exact ⟨_, _, e, h1, h2, h3⟩
 ·exact h
theorem la7 : ∀ {xs : List AV} {us : List Value}, aW7 tb F w xs us → aW7 tb F w (xs.map wk7) us
 | [], us, h => by simpa only [List.map_nil, aW7] using h
 | x :: xs, us, h => by
  simp only [List.map_cons, aW7] at h ⊢
  obtain ⟨u, us', rfl, h1, h2⟩ := h
  exact ⟨u, us', rfl, k97 h1, la7 h2⟩
theorem sr7 {x : AV} {u : Value} (h : ay7 tb F w x u) : ay7 tb F w (CE7 x) u := by
 unfold CE7
 split
 ·simp only [ay7] at h ⊢
  obtain ⟨us, h1, h2⟩ := h
  exact ⟨us, h1, la7 h2⟩
 ·exact k97 h
theorem ws7 : ∀ {xs ys : List ByteArray}, xs.map (·.data.toList) = ys.map (·.data.toList) → xs = ys
 | [], [], _ => rfl
 | x :: xs, y :: ys, h => by
  simp only [List.map_cons, List.cons.injEq] at h
  rw [ByteArray.ext (Array.ext' h.1), ws7 h.2]
 | [], _ :: _, h => by simp at h
 | _ :: _, [], h => by simp at h
theorem aC7 {t : Tm} {a : Act} (r : eR7 tb F w t a) {o : Operand} {d : Od} (h : bC7 tb o d = true) : ay7 tb F w (ev t d) (a.eval o) := by
 unfold bC7 at h
 split at h
 ·simp at h; subst h; exact r.v _
 ·have := k67 h
  subst this
  rename_i v u
  simp only [ev, Act.eval]
  unfold BM7 at h
  split at h <;> first
   | (simp [wj7, ay7]; done)
   | (cases h; done)
 ·simp at h
  simp only [ev, Act.eval, ay7]
  exact ⟨[], by rw [h], by simp [aW7]⟩
 ·simp at h; subst h; exact sr7 (r.v _)
 ·have := k67 h
  subst this
  simp only [ev, Act.eval, ay7]
  exact ⟨none, 0, 0, rfl, Nat.le_refl _, by simp [aI7]⟩
 ·have := k67 h
  subst this
  simp only [ev, Act.eval, ay7]
 ·rename_i n ss
  simp only [Bool.and_eq_true, beq_iff_eq, List.any_eq_true, decide_eq_true_eq] at h
  obtain ⟨⟨g, ss'⟩, hm, h1, h2⟩ := h
  simp only at h1 h2
  have e : ss' = ss := ws7 h2
  subst h1 e
  obtain ⟨k1, k2⟩ := r.gl.gs _ _ hm
  simp only [ev, ay7, Act.eval]
  exact ⟨_, rfl, k1, k2⟩
 ·cases h
theorem id7 {t : Tm} {a : Act} (r : eR7 tb F w t a) : ∀ {os : List Operand} {ds : List Od}, jQ7 tb os ds = true → aW7 tb F w (ds.map (ev t)) (os.map a.eval)
 | [], [], _ => by simp [aW7]
 | o :: os, d :: ds, h => by
  simp only [jQ7, Bool.and_eq_true] at h
  simp only [List.map_cons, aW7]
  exact ⟨_, _, rfl, aC7 r h.1, id7 r h.2⟩
 | [], _ :: _, h => by simp [jQ7] at h
 | _ :: _, [], h => by simp [jQ7] at h
theorem c97 : ∀ {xs : List AV} {us : List Value}, aW7 tb F w xs us → us.length = xs.length
 | [], us, h => by simp [aW7] at h; simp [h]
 | x :: xs, us, h => by
  simp only [aW7] at h
  obtain ⟨u, us', rfl, _, h2⟩ := h
  simp [c97 h2]
theorem tv7 : ∀ {xs : List AV} {us : List Value} (i : Nat) (x : AV), aW7 tb F w xs us → xs[i]? = some x → ∃ u, us[i]? = some u ∧ ay7 tb F w x u
 | [], us, i, x, h, hx => by simp at hx
 | y :: xs, us, i, x, h, hx => by
  simp only [aW7] at h
  obtain ⟨u, us', rfl, h1, h2⟩ := h
  cases i with
  | zero => simp at hx; subst hx; exact ⟨u, by simp, h1⟩
  | succ i => simp at hx; simpa using tv7 i x h2 hx
theorem hz7 : ∀ {xs ys : List AV} {us vs : List Value}, aW7 tb F w xs us → aW7 tb F w ys vs → aW7 tb F w (xs ++ ys) (us ++ vs)
 | [], ys, us, vs, h, h' => by simp [aW7] at h; simpa [h] using h'
 | x :: xs, ys, us, vs, h, h' => by
  simp only [aW7] at h
  obtain ⟨u, us', rfl, h1, h2⟩ := h
  simp only [List.cons_append, aW7]
  exact ⟨_, _, rfl, h1, hz7 h2 h'⟩
theorem pK7 : ∀ {xs : List AV} {us : List Value} (n : Nat), aW7 tb F w xs us → aW7 tb F w (xs.take n) (us.take n)
 | xs, us, 0, h => by simp [aW7]
 | [], us, n + 1, h => by simp [aW7] at h; simp [h, aW7]
 | x :: xs, us, n + 1, h => by
  simp only [aW7] at h
  obtain ⟨u, us', rfl, h1, h2⟩ := h
  simp only [List.take_succ_cons, aW7]
  exact ⟨_, _, rfl, h1, pK7 n h2⟩
theorem pL7 : ∀ {xs : List AV} {us : List Value} (n : Nat), aW7 tb F w xs us → aW7 tb F w (xs.drop n) (us.drop n)
 | xs, us, 0, h => by simpa using h
 | [], us, n + 1, h => by simp [aW7] at h; simp [h, aW7]
 | x :: xs, us, n + 1, h => by
  simp only [aW7] at h
  obtain ⟨u, us', rfl, h1, h2⟩ := h
  simpa using pL7 n h2
theorem tw7 : ∀ {xs : List AV} {us : List Value} (i : Nat) {x : AV} {u : Value}, aW7 tb F w xs us → ay7 tb F w x u → aW7 tb F w (xs.set i x) (us.set i u)
 | [], us, i, x, u, h, h' => by simp [aW7] at h; simp [h, aW7]
 | y :: xs, us, i, x, u, h, h' => by
  simp only [aW7] at h
  obtain ⟨v, us', rfl, h1, h2⟩ := h
  cases i with
  | zero => simp only [List.set_cons_zero, aW7]; exact ⟨_, _, rfl, h', h2⟩
  | succ i => simp only [List.set_cons_succ, aW7]; exact ⟨_, _, rfl, h1, tw7 i h2 h'⟩
theorem wt7 {op : BinOp} {a b v : Value} (h : sm7 op a b = some v) (t : TypeId) (x y : Operand) (w : World) :
  ((do eqGuard op t x y a b; binOp op t a b) : Sem Value).run P w = .ok v w := by
 unfold sm7 at h
 split at h <;> (try (split at h)) <;> (try cases h) <;> (try (rename_i hc; (try obtain ⟨hc, hz⟩ := hc); (try subst hc))) <;>
  simp_all [eqGuard, binOp, Op.intArith, Op.intCmp, Op.stringOp, Op.intDiv, Op.intBits, Op.shift, IntKind.max, IntKind.signed, IntKind.bits] <;> omega
theorem wu7 {k : Nat} {a b : Value} {r : Bool} (h : eq1 k a b = some r) {t : TypeId} (ht : eqK P t k = true) (d : Nat) (w : World) : (Op.equalIn (d + 1) t a b).run P w = .ok r w := by
 unfold eqK at ht
 unfold eq1 at h
 split at h
 ·split at h
  ·rename_i k a k' b hkk
   cases h
   subst hkk
   split at ht <;> simp at ht
   rename_i k' hk'
   exact run_equalIn_int w d t k k' a b hk'
  ·cases h
 ·cases h
  split at ht <;> simp at ht
  rename_i hb
  exact run_equalIn_bool' w d t _ _ hb
 ·cases h
  split at ht <;> simp at ht
  rename_i hs
  rw [run_equalIn_string w d t _ _ hs, beq_toListBytes]
 ·cases h
theorem wv7 (xs ys : Array Value) (d : Nat) (w : World) : ∀ (ks : List Nat) (as bs : List AV) (fs : List Field) (i : Nat) (us vs : List Value) (r : Bool), eqL ks as bs = some r → FM7 P i fs ks = true →
  aW7 tb F w as us → aW7 tb F w bs vs → (∀ j u, us[j]? = some u → xs[i + j]? = some u) → (∀ j u, vs[j]? = some u → ys[i + j]? = some u) → (Op.eqFields (d + 1) xs ys fs).run P w = .ok r w
 | [], as, bs, fs, i, us, vs, r, h, hf, _, _, _, _ => by
  cases fs with
  | nil =>
   unfold eqL at h
   split at h <;> simp_all [Op.eqFields]
  | cons f fs => simp [FM7] at hf
 | k :: ks, as, bs, fs, i, us, vs, r, h, hf, ha, hb, hx, hy => by
  cases fs with
  | nil => simp [FM7] at hf
  | cons f fs =>
   cases as with
   | nil => simp [eqL] at h
   | cons a as => cases bs with
   | nil => cases a <;> simp [eqL] at h
   | cons b bs =>
    cases a with
    | v a => cases b with
     | v b =>
      simp only [eqL] at h
      simp only [FM7, Bool.and_eq_true, bne_iff_ne, beq_iff_eq] at hf
      obtain ⟨⟨⟨hn, hk⟩, ho⟩, hf⟩ := hf
      split at h
      ·rename_i p q hp hq
       cases h
       simp only [aW7, ay7] at ha hb
       obtain ⟨u, us', rfl, rfl, ha⟩ := ha
       obtain ⟨v, vs', rfl, rfl, hb⟩ := hb
       have e1 := wu7 hp hk d w
       have hagg : (isAgg f.type).run P w = .ok false w := by
        unfold isAgg
        rw [Sem.run_bind]
        unfold eqK at hk
        split at hk <;> (try simp at hk) <;> (rename_i hu; rw [run_underlying hu w]; simp)
       have p1 : (part f.type xs f.offset).run P w = .ok u w := by
        have := hx 0 u (by simp)
        simp only [Nat.add_zero] at this
        simp [part, Sem.run_bind, hagg, ho, this]
       have p2 : (part f.type ys f.offset).run P w = .ok v w := by
        have := hy 0 v (by simp)
        simp only [Nat.add_zero] at this
        simp [part, Sem.run_bind, hagg, ho, this]
       have ih := wv7 xs ys d w ks as bs fs (i + 1) us' vs' q hq hf ha hb (fun j z hj => by have := hx (j + 1) z (by simpa using hj); rwa [show i + (j + 1) = i + 1 + j by omega] at this)
        (fun j z hj => by have := hy (j + 1) z (by simpa using hj); rwa [show i + (j + 1) = i + 1 + j by omega] at this)
       simp only [Op.eqFields, if_pos hn, Sem.run_bind, p1, p2, e1, Result.andThen_ok]
       cases p
       ·simp
       ·simpa using ih
      ·cases h
     | _ => simp [eqL] at h
    | _ => simp [eqL] at h
theorem CI7 {agg neg : Bool} {ks : List Nat} {a b : AV} {r : Bool} (h : FK7 agg ks a b = some r) {t : TypeId} (ht : eqT P t agg ks = true) {u v : Value} (ha : ay7 tb F w a u) (hb : ay7 tb F w b v) (x y : Operand) :
  ((do eqGuard (if neg then .neq else .eql) t x y u v; binOp (if neg then .neq else .eql) t u v) : Sem Value).run P w = .ok (.bool (if neg then !r else r)) w := by
 unfold FK7 at h
 split at h
 ·rename_i a b
  split at h
  ·rename_i k
   simp only [ay7] at ha hb
   subst ha
   subst hb
   simp only [eqT, Bool.false_eq_true, if_false] at ht
   have e1 := wu7 h ht 9999 w
   cases neg <;> (unfold eq1 at h; split at h <;> (try split at h) <;> (try cases h) <;> simp_all [eqGuard, binOp, Op.equal, Op.maxDepth, Op.intCmp, Op.stringOp, beq_toListBytes])
   all_goals rfl
  ·cases h
 ·rename_i as bs
  split at h
  ·rename_i hagg
   simp only [eqT, hagg, if_true] at ht
   split at ht
   ·rename_i fs hfs
    simp only [Bool.and_eq_true, Bool.not_eq_true'] at ht
    obtain ⟨⟨hs, hg⟩, hf⟩ := ht
    simp only [ay7] at ha hb
    obtain ⟨us, rfl, ha⟩ := ha
    obtain ⟨vs, rfl, hb⟩ := hb
    have hfo : P.fieldsOf t = fs := by simp [Program.fieldsOf, hfs]
    have e1 := wv7 us.toArray vs.toArray 9998 w ks as bs fs.toList 0 us vs r h hf ha hb (fun j u hj => by simpa using hj) (fun j u hj => by simpa using hj)
    have e2 := run_equalIn_struct (P := P) w 9999 t us.toArray vs.toArray (by rw [hfo]; exact hfs) hs
    rw [hfo, e1] at e2
    cases neg
    ·simp only [Bool.false_eq_true, if_false, Sem.run_bind, run_eqGuard_agg w .eql t x y _ _ hg, Result.andThen_ok, run_eql_struct, e2]
    ·simp only [if_true, Sem.run_bind, run_eqGuard_agg w .neq t x y _ _ hg, Result.andThen_ok, run_neq_struct, e2]
   ·cases ht
  ·cases h
 ·cases h
end Go.Proofs.AM
