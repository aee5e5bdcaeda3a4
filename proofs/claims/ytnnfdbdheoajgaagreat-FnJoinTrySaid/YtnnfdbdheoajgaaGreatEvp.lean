/- Lemmas of the proof (Evp), on an abstract machine. Conditions: none. -/
import Derived.Test.YtnnfdbdheoajgaaGreatPure
import Derived.Lib.MinMax
set_option linter.unusedVariables false
set_option linter.unusedSimpArgs false
namespace Go.Proofs.AM
open Go.RowKit
variable {P : Program} {tb : Tab} {F : Nat → Prop} {w : World}
theorem wg7 (a : Addr) (p q : Nat) : (a.add p).add q = a.add (p + q) := by
 unfold Addr.add
 by_cases hp : p = 0 <;> by_cases hq : q = 0 <;> simp [hp, hq, Nat.add_assoc]
theorem gf7 (g o p : Nat) : (⟨g, o, none⟩ : Addr).add p = ⟨g, o + p, none⟩ := by
 unfold Addr.add
 by_cases hp : p = 0 <;> simp [hp]
theorem mK7 {e : Nat} {A : Option Addr} : ∀ {rows : List (List T)} {i j : Nat} {r : List T}, aC7 F w e A i rows → rows[j]? = some r → r.length = e ∧ ∃ ad, A = some ad ∧ F ad.block ∧ aJ7 F w ad ((i + j) * e) r
 | [], i, j, r, h, hj => by simp at hj
 | x :: xs, i, j, r, h, hj => by
  simp only [aC7] at h
  obtain ⟨h1, h2, h3⟩ := h
  cases j with
  | zero => simp at hj; subst hj; exact ⟨h1, by simpa using h2⟩
  | succ j =>
   simp at hj
   have := mK7 h3 hj
   rwa [show i + (j + 1) = i + 1 + j by omega]
theorem dt7 (ad : Addr) (p : Nat) : ∀ (cs : List T) (q : Nat), aJ7 F w ad (p + q) cs → aJ7 F w (ad.add p) q cs
 | [], q, _ => by simp [aJ7]
 | c :: cs, q, h => by
  simp only [aJ7] at h ⊢
  obtain ⟨⟨u, h1, h2⟩, h3⟩ := h
  exact ⟨⟨u, by rw [wg7]; exact h1, h2⟩, dt7 ad p cs (q + 1) (by rwa [show p + (q + 1) = p + q + 1 by omega])⟩
theorem jD7 (ad : Addr) : ∀ (n : Nat) (cs : List T) (p : Nat), aJ7 F w ad p cs → aJ7 F w ad (p + n) (cs.drop n)
 | 0, cs, p, h => by simpa using h
 | n + 1, [], p, h => by simp [aJ7]
 | n + 1, c :: cs, p, h => by
  simp only [aJ7] at h
  have := jD7 ad n cs (p + 1) h.2
  rw [List.drop_succ_cons]
  rwa [show p + (n + 1) = p + 1 + n by omega]
theorem jE7 (ad : Addr) : ∀ (n : Nat) (cs : List T) (p : Nat), aJ7 F w ad p cs → aJ7 F w ad p (cs.take n)
 | 0, cs, p, h => by simp [aJ7]
 | n + 1, [], p, h => by simp [aJ7]
 | n + 1, c :: cs, p, h => by
  simp only [aJ7] at h
  rw [List.take_succ_cons]
  simp only [aJ7]
  exact ⟨h.1, jE7 ad n cs (p + 1) h.2⟩
theorem jF7 : ∀ {cs : List T} {xs : List AV}, me7 cs = some xs → xs.length = cs.length
 | [], xs, h => by simp [me7] at h; subst h; rfl
 | c :: cs, xs, h => by
  simp only [me7] at h
  split at h
  ·rename_i h2; cases h; simp [jF7 h2]
  ·cases h
theorem hk7 {e : Nat} {A : Option Addr} : ∀ (n : Nat) (rows : List (List T)) (i : Nat), aC7 F w e A i rows → aC7 F w e A (i + n) (rows.drop n)
 | 0, rows, i, h => by simpa using h
 | n + 1, [], i, h => by simp [aC7]
 | n + 1, c :: cs, i, h => by
  simp only [aC7] at h
  have := hk7 n cs (i + 1) h.2.2
  rw [List.drop_succ_cons]
  rwa [show i + (n + 1) = i + 1 + n by omega]
theorem e47 {e : Nat} {A : Option Addr} : ∀ (n : Nat) (rows : List (List T)) (i : Nat), aC7 F w e A i rows → aC7 F w e A i (rows.take n)
 | 0, rows, i, h => by simp [aC7]
 | n + 1, [], i, h => by simp [aC7]
 | n + 1, c :: cs, i, h => by
  simp only [aC7] at h
  rw [List.take_succ_cons]
  simp only [aC7]
  exact ⟨h.1, h.2.1, e47 n cs (i + 1) h.2.2⟩
theorem gg7 {e : Nat} {ad : Addr} (n : Nat) : ∀ (rows : List (List T)) (i : Nat), aC7 F w e (some ad) (n + i) rows → aC7 F w e (some (ad.add (n * e))) i rows
 | [], i, _ => by simp [aC7]
 | r :: rs, i, h => by
  simp only [aC7] at h ⊢
  obtain ⟨h1, ⟨a, h2, h3, h4⟩, h5⟩ := h
  cases h2
  refine ⟨h1, ⟨_, rfl, by rw [hO7]; exact h3, ?_⟩, gg7 n rs (i + 1) (by rwa [show n + (i + 1) = n + i + 1 by omega])⟩
  refine dt7 ad (n * e) r (i * e) ?_
  rwa [← Nat.add_mul]
theorem kM7 (ad : Addr) : ∀ {cs : List T} {xs : List AV} {p : Nat}, me7 cs = some xs → aJ7 F w ad p cs → ∃ us : List Value, (∀ j u, us[j]? = some u → w.cell? (ad.add (p + j)) = some u) ∧ aS7 tb F w xs us
 | [], xs, p, h, _ => by simp [me7] at h; subst h; exact ⟨[], by simp, by simp [aS7]⟩
 | c :: cs, xs, p, h, hr => by
  simp only [me7] at h
  split at h
  ·rename_i x xs hx hxs
   cases h
   simp only [aJ7] at hr
   obtain ⟨⟨u, h1, h2⟩, h3⟩ := hr
   obtain ⟨us, h4, h5⟩ := kM7 ad hxs h3
   refine ⟨u :: us, fun j v hj => ?_, ?_⟩
   ·cases j with
    | zero => simp at hj; subst hj; simpa using h1
    | succ j => simp at hj; have := h4 j v hj; rwa [show p + (j + 1) = p + 1 + j by omega]
   ·simp only [aS7]
    refine ⟨_, _, rfl, ?_, h5⟩
    unfold PO7 at hx
    split at hx
    ·cases hx; simp only [ROc] at h2; simp [at7, h2.1]
    ·cases hx
     simp only [ROc] at h2
     simpa [at7] using h2
    ·cases hx
  ·cases h
theorem hR7 {t : TypeId} {b : Bool} (h : r17 P t = some b) (w : World) : (isAgg t).run P w = .ok b w := by
 unfold r17 at h
 unfold isAgg
 rw [Sem.run_bind]
 cases hd : P.underlying t with
 | none => simp [hd] at h
 | some d =>
  rw [hd] at h
  rw [run_underlying hd w]
  cases d <;> simp_all
theorem bd7 {t : TypeId} {n : Nat} (h : ge7 P t = some n) (w : World) : (sizeOf t).run P w = .ok n w := by
 unfold ge7 at h
 obtain ⟨i, hi, rfl⟩ := Option.map_eq_some_iff.1 h
 simp [sizeOf, typeInfo, hi]
theorem e57 {t : TypeId} {sz : Nat} {agg : Bool} (hs : ge7 P t = some sz) (ha : r17 P t = some agg) (h1 : (agg || sz == 1) = true) (ad : Addr) (us : List Value) (hl : us.length = sz)
  (hc : ∀ j u, us[j]? = some u → w.cell? (ad.add j) = some u) (x : Value) (hx : x = if agg then .agg us.toArray else us.getD 0 undef) : (loadVar t ad).run P w = .ok x w := by
 subst hx
 subst hl
 cases agg
 ·have hl : us.length = 1 := by simpa using h1
  match us, hl with
  | [u], _ =>
   have := hc 0 u (by simp)
   have h0 : ad.add 0 = ad := by simp [Addr.add]
   rw [h0] at this
   simp [loadVar, Sem.run_bind, hR7 ha w, load, Sem.run, this]
 ·have := run_loadCells_list (P := P) w ad us hc
  simp [loadVar, Sem.run_bind, hR7 ha w, bd7 hs w, this]
theorem hS7 {agg : Bool} {xs : List AV} {x : AV} {us : List Value} (h : one agg xs = some x) (hr : aS7 tb F w xs us) : at7 tb F w x (if agg then .agg us.toArray else us.getD 0 undef) := by
 unfold one at h
 split at h
 ·rename_i ha
  cases h
  simp only [ha, if_true, at7]
  exact ⟨us, rfl, hr⟩
 ·rename_i ha
  split at h
  ·cases h
   simp only [aS7] at hr
   obtain ⟨u, us', rfl, h1, rfl⟩ := hr
   simpa [ha] using h1
  ·cases h
theorem n47 {x : Value} (h : x.oneCell' = true) : x.cells = #[x] := by cases x <;> simp_all [Value.oneCell', Value.cells]
theorem gK7 {x : AV} {u : Value} (h : at7 tb F w x u) (hc : (g37 x).all ga7 = true) : ∃ us : List Value, u.cells = us.toArray ∧ aS7 tb F w (g37 x) us := by
 have key : ∀ y, g37 y = [y] → ga7 y = true → at7 tb F w y u → ∃ us : List Value, u.cells = us.toArray ∧ aS7 tb F w (g37 y) us := by
  intro y hy hcy hr
  refine ⟨[u], ?_, by rw [hy]; exact ⟨u, [], rfl, hr, rfl⟩⟩
  cases y <;> simp [ga7] at hcy <;> simp only [at7] at hr
  ·subst hr; exact n47 hcy
  ·obtain ⟨A, cap, e, rfl, _⟩ := hr; rfl
  ·obtain ⟨rfl, _⟩ := hr; rfl
  ·subst hr; rfl
  ·obtain ⟨A, rfl, _⟩ := hr; rfl
 cases x with
 | agg cs =>
  simp only [at7] at h
  obtain ⟨us, rfl, h2⟩ := h
  exact ⟨us, rfl, h2⟩
 | _ => exact key _ rfl (by simpa [g37] using hc) h
theorem iX7 {x : AV} {i : Int} {u : Value} (h : asI x = some i) (hr : at7 tb F w x u) : ∃ k, u = .int k i := by
 unfold asI at h
 split at h
 ·cases h; simp only [at7] at hr; exact ⟨_, hr⟩
 ·cases h
theorem gY7 {t : TypeId} {el : TypeId} (h : r27 P t = some el) : P.underlying t = some (.slice el) := by
 unfold r27 at h
 split at h
 ·cases h; assumption
 ·cases h
theorem wh7 {t : TypeId} (h : isS P t = true) : P.underlying t = some .string := by
 unfold isS at h
 split at h
 ·assumption
 ·cases h
theorem Bq7 {t : TypeId} {i : Nat} {r : TypeId × Nat} (h : zj7 P t i = some r) : ∃ fs f, P.underlying t = some (.struct fs) ∧ fs[i]? = some f ∧ f.type = r.1 ∧ f.offset = r.2 := by
 unfold zj7 at h
 split at h
 ·rename_i fs hu
  obtain ⟨f, hf, rfl⟩ := Option.map_eq_some_iff.1 h
  exact ⟨fs, f, hu, hf, rfl, rfl⟩
 ·cases h
theorem cy7 {t : Tm} {a : Act} (r : dK7 tb F w t a) {o : Option Operand} {d : Option Od} (h : gd7 tb o d = true) {i : Option Int} (hi : ki7 (d.map (ev t)) = some i) :
  (i = none ∧ o.map a.eval = none) ∨ ∃ k n, i = some n ∧ o.map a.eval = some (.int k n) := by
 unfold gd7 at h
 split at h
 ·simp [ki7] at hi; exact .inl ⟨hi.symm, rfl⟩
 ·rename_i o d
  simp only [Option.map_some, ki7] at hi
  obtain ⟨n, hn, rfl⟩ := Option.map_eq_some_iff.1 hi
  obtain ⟨k, hk⟩ := iX7 hn (ar7 r h)
  exact .inr ⟨k, n, rfl, by simp [hk]⟩
 ·cases h
def aK7 (P : Program) (tb : Tab) (F : Nat → Prop) (w : World) (o : Oper) (a : Act) (x : AV) : Prop := ∃ u, (execOp a.eval o).run P w = .ok (.value u) w ∧ at7 tb F w x u
theorem bn7 {s : Sem Value} {v : Value} {w w' : World} (h : s.run P w = .ok v w') : ((do pure (Next.value (← s))) : Sem Next).run P w = .ok (.value v) w' := by simp [Sem.run_bind, h]
theorem d07 {k : IntKind} {n : Int} : at7 tb F w (.v (.int k n)) (.int k n) := by simp [at7]
section
variable {o : Oper} {t : Tm} {a : Act} {x : AV}
theorem Qy7 {y : Od} (hc : aB7 P tb o.op (.mv y) = true) (r : dK7 tb F w t a) (h : evp t (.mv y) = some x) : aK7 P tb F w o a x := by
 simp only [evp, Option.some.injEq] at h
 subst h
 unfold aK7 execOp
 cases ho : o.op <;> rw [ho] at hc <;> simp only [aB7, Bool.false_eq_true] at hc
 all_goals exact ⟨_, rfl, ar7 r hc⟩
theorem Ci7 {y : Od} (hc : aB7 P tb o.op (.nilck y) = true) (r : dK7 tb F w t a) (h : evp t (.nilck y) = some x) : aK7 P tb F w o a x := by
 unfold aK7 execOp
 cases ho : o.op <;> rw [ho] at hc <;> simp only [aB7, Bool.false_eq_true] at hc
 have hr := ar7 r hc
 simp only [evp] at h
 split at h
 ·rename_i he
  cases h
  rw [he] at hr
  have hr' := hr
  simp only [at7] at hr
  obtain ⟨g, _, hu⟩ := hr
  refine ⟨_, ?_, hr'⟩
  simp [hu]
 ·rename_i he
  cases h
  rw [he] at hr
  have hr' := hr
  simp only [at7] at hr
  obtain ⟨ad, hu, _⟩ := hr
  refine ⟨_, ?_, hr'⟩
  simp [hu]
 ·cases h
theorem FG7 {c y z : Od} (hc : aB7 P tb o.op (.pick c y z) = true) (r : dK7 tb F w t a) (h : evp t (.pick c y z) = some x) : aK7 P tb F w o a x := by
 unfold aK7 execOp
 cases ho : o.op <;> rw [ho] at hc <;> simp only [aB7, Bool.false_eq_true, Bool.and_eq_true] at hc
 rename_i c' y' z'
 obtain ⟨⟨h1, h2⟩, h3⟩ := hc
 have r1 := ar7 r h1
 simp only [evp] at h
 split at h
 ·rename_i p he
  cases h
  rw [he] at r1
  simp only [at7] at r1
  cases p
  ·exact ⟨a.eval z', by simp [r1, asBool], by simpa using ar7 r h3⟩
  ·exact ⟨a.eval y', by simp [r1, asBool], by simpa using ar7 r h2⟩
 ·cases h
theorem Mp7 {op : BinOp} {y z : Od} (hc : aB7 P tb o.op (.bin op y z) = true) (r : dK7 tb F w t a) (h : evp t (.bin op y z) = some x) : aK7 P tb F w o a x := by
 unfold aK7 execOp
 cases ho : o.op <;> rw [ho] at hc <;> simp only [aB7, Bool.false_eq_true, Bool.and_eq_true, decide_eq_true_eq] at hc
 rename_i op' ty y' z' ty'
 obtain ⟨⟨⟨rfl, h0⟩, h1⟩, h2⟩ := hc
 have r1 := ar7 r h1
 have r2 := ar7 r h2
 simp only [evp] at h
 split at h
 ·rename_i p q hp hq
  rw [hp] at r1
  rw [hq] at r2
  simp only [at7] at r1 r2
  obtain ⟨v, hv, rfl⟩ := Option.map_eq_some_iff.1 h
  refine ⟨v, bn7 ?_, by simp [at7]⟩
  rw [r1, r2]
  exact wd7 hv ty y' z' w
 ·cases h
theorem Mq7 {neg agg : Bool} {ks : List Nat} {y z : Od} (hc : aB7 P tb o.op (.eqs neg agg ks y z) = true) (r : dK7 tb F w t a) (h : evp t (.eqs neg agg ks y z) = some x) : aK7 P tb F w o a x := by
 unfold aK7 execOp
 cases ho : o.op <;> rw [ho] at hc <;> simp only [aB7, Bool.false_eq_true, Bool.and_eq_true, decide_eq_true_eq] at hc
 rename_i op' ty y' z' ty'
 obtain ⟨⟨⟨rfl, h0⟩, h1⟩, h2⟩ := hc
 simp only [evp] at h
 obtain ⟨p, hp, rfl⟩ := Option.map_eq_some_iff.1 h
 exact ⟨_, bn7 (Ch7 hp h0 (ar7 r h1) (ar7 r h2) y' z'), by simp [at7]⟩
theorem Qz7 {op : UnOp} {y : Od} (hc : aB7 P tb o.op (.un op y) = true) (r : dK7 tb F w t a) (h : evp t (.un op y) = some x) : aK7 P tb F w o a x := by
 unfold aK7 execOp
 cases ho : o.op <;> rw [ho] at hc <;> simp only [aB7, Bool.false_eq_true, Bool.and_eq_true, decide_eq_true_eq] at hc
 obtain ⟨rfl, h1⟩ := hc
 have r1 := ar7 r h1
 simp only [evp] at h
 split at h
 ·rename_i p hp
  rw [hp] at r1
  simp only [at7] at r1
  obtain ⟨v, hv, rfl⟩ := Option.map_eq_some_iff.1 h
  refine ⟨v, bn7 ?_, by simp [at7]⟩
  rw [r1]
  unfold pun at hv
  split at hv
  ·cases hv; simp [Op.unary, Op.intArith]
  ·cases hv; simp [Op.unary]
  ·cases hv
 ·cases h
theorem FH7 {k : IntKind} {y : Od} (hc : aB7 P tb o.op (.conv k y) = true) (r : dK7 tb F w t a) (h : evp t (.conv k y) = some x) : aK7 P tb F w o a x := by
 unfold aK7 execOp
 cases ho : o.op <;> rw [ho] at hc <;> simp only [aB7, Bool.false_eq_true, Bool.and_eq_true] at hc
 rename_i s d y'
 obtain ⟨h0, h1⟩ := hc
 have r1 := ar7 r h1
 simp only [evp] at h
 split at h
 ·rename_i k' n hp
  rw [hp] at r1
  simp only [at7] at r1
  cases h
  split at h0
  ·rename_i k1 k2 e1 e2
   have := of_decide_eq_true h0
   subst this
   refine ⟨_, bn7 ?_, d07⟩
   rw [r1]
   simp [convert, run_underlying e1, run_underlying e2, Conv.intToInt]
  ·cases h0
 ·cases h
theorem Mr7 {s : Bool} {y : Od} (hc : aB7 P tb o.op (.len s y) = true) (r : dK7 tb F w t a) (h : evp t (.len s y) = some x) : aK7 P tb F w o a x := by
 unfold aK7 execOp
 cases ho : o.op <;> rw [ho] at hc <;> simp only [aB7, Bool.false_eq_true, Bool.and_eq_true] at hc
 rename_i c
 split at hc
 ·rename_i y' ty h1 h2 h3
  simp only [Bool.and_eq_true] at hc
  obtain ⟨h0, h4⟩ := hc
  have r1 := ar7 r h4
  have hr : ∀ v, (Builtin.len_ c.argTypes o.type #[a.eval y']).run P w = .ok v w → (do let d ← resolve a.eval c o.type; invoke d.target d.args : Sem Next).run P w = .ok (.value v) w := by
   intro v hv
   have ha : c.args.map a.eval = #[a.eval y'] := by
    apply Array.ext'
    simp [h2]
   simp [resolve, h1, invoke, builtin, ha, hv]
  have ht : c.argTypes = #[ty] := by apply Array.ext'; simpa using h3
  have hsl : ∀ A n cap, a.eval y' = .slice A n cap → (r27 P ty).isSome = true → (Builtin.len_ c.argTypes o.type #[a.eval y']).run P w = .ok (.int .i64 n) w := by
   intro A n cap hu he
   obtain ⟨el, hel⟩ := Option.isSome_iff_exists.1 he
   simp [Builtin.len_, ht, hu, run_underlying (gY7 hel), goInt]
  simp only [evp] at h
  split at h
  ·rename_i s' he
   cases h
   rw [he] at r1
   simp only [at7] at r1
   simp only [if_true] at h0
   refine ⟨_, hr (.int .i64 s'.size) ?_, d07⟩
   simp [Builtin.len_, ht, r1, run_underlying (wh7 h0), goInt]
  ·rename_i rows he
   cases h
   rw [he] at r1
   simp only [at7] at r1
   obtain ⟨A, cap, e, hu, _⟩ := r1
   exact ⟨_, hr _ (hsl A _ cap hu (by simpa using h0)), d07⟩
  ·rename_i A cap rows he
   cases h
   rw [he] at r1
   simp only [at7] at r1
   obtain ⟨hu, _⟩ := r1
   exact ⟨_, hr _ (hsl A _ cap hu (by simpa using h0)), d07⟩
  ·rename_i he
   cases h
   rw [he] at r1
   simp only [at7] at r1
   exact ⟨_, hr _ (hsl none 0 0 r1 (by simpa using h0)), d07⟩
  ·rename_i n b cap off len k he
   cases h
   rw [he] at r1
   simp only [at7, Hdr] at r1
   obtain ⟨A, hu, _⟩ := r1
   exact ⟨_, hr _ (hsl A _ _ hu (by simpa using h0)), d07⟩
  ·cases h
 ·cases hc
theorem Ms7 {y z : Od} (hc : aB7 P tb o.op (.mxi y z) = true) (r : dK7 tb F w t a) (h : evp t (.mxi y z) = some x) : aK7 P tb F w o a x := by
 unfold aK7 execOp
 cases ho : o.op <;> rw [ho] at hc <;> simp only [aB7, Bool.false_eq_true, Bool.and_eq_true] at hc
 rename_i c
 split at hc
 ·rename_i y' z' h1 h2
  simp only [Bool.and_eq_true] at hc
  have r1 := ar7 r hc.1
  have r2 := ar7 r hc.2
  simp only [evp] at h
  split at h
  ·rename_i k m k' n e1 e2
   rw [e1] at r1
   rw [e2] at r2
   simp only [at7] at r1 r2
   split at h
   ·cases h
    have ha : c.args.map a.eval = #[.int k m, .int k' n] := by
     apply Array.ext'
     simp [h2, r1, r2]
    exact ⟨.int k (max m n), by simp [resolve, h1, invoke, builtin, ha, Go.Lib.run_max_ints], d07⟩
   ·cases h
  ·cases h
 ·cases hc
theorem kN7 {ty el : TypeId} {e : Nat} (h1 : r27 P ty = some el) (h2 : ge7 P el = some e) (ad : Addr) (len cap : Nat) (k : IntKind) (i : Int) (h0 : 0 ≤ i) (hi : i.toNat < len) :
  (Instr.indexAt ty (.slice (some ad) len cap) (.int k i)).run P w = .ok (.pointer (some (ad.add (i.toNat * e)))) w := by
 have hlt : i < len := by omega
 simp [Instr.indexAt, asIntOf, run_underlying (gY7 h1), bd7 h2, h0, hlt]
theorem Cj7 {e : Nat} {y z : Od} (hc : aB7 P tb o.op (.iaddr e y z) = true) (r : dK7 tb F w t a) (h : evp t (.iaddr e y z) = some x) : aK7 P tb F w o a x := by
 unfold aK7 execOp
 cases ho : o.op <;> rw [ho] at hc <;> simp only [aB7, Bool.false_eq_true, Bool.and_eq_true] at hc
 rename_i ty y' z'
 obtain ⟨⟨h0, h1⟩, h2⟩ := hc
 split at h0
 ·rename_i el hel
  have hsz := of_decide_eq_true h0
  have r1 := ar7 r h1
  have r2 := ar7 r h2
  simp only [evp] at h
  split at h
  ·rename_i rows i hx hi
   split at h
   ·rename_i hcond
    obtain ⟨c1, c2, c3⟩ := hcond
    cases h
    obtain ⟨k, hk⟩ := iX7 hi r2
    rw [hx] at r1
    simp only [at7] at r1
    obtain ⟨A, cap, e', hu, hcap, hro⟩ := r1
    have hget : rows[i.toNat]? = some (rows.getD i.toNat []) := by simp [c2]
    obtain ⟨g1, ad, rfl, g2, g3⟩ := mK7 hro hget
    have he : e' = e := by rw [← g1, c3]
    subst he
    refine ⟨_, bn7 (by rw [hu, hk]; exact kN7 hel hsz ad _ _ k i c1 c2), ?_⟩
    simp only [at7]
    refine ⟨_, rfl, by rw [hO7]; exact g2, dt7 ad _ _ 0 ?_⟩
    simpa using g3
   ·cases h
  ·rename_i n b cap off len k i hx hi
   split at h
   ·rename_i hcond
    obtain ⟨c1, c2, c3⟩ := hcond
    cases h
    obtain ⟨k', hk⟩ := iX7 hi r2
    rw [hx] at r1
    simp only [at7, Hdr] at r1
    obtain ⟨A, hu, hcap, hb, hA⟩ := r1
    have hA' : A = b.map (fun g => (⟨g, off * esz k, none⟩ : Addr)) := by
     rcases hA with hA | hA
     ·exact hA
     ·omega
    cases b with
    | none => have := hb rfl; omega
    | some g =>
     simp only [Option.map_some] at hA'
     subst hA'
     refine ⟨_, bn7 (by rw [hu, hk]; exact kN7 hel hsz _ _ _ k' i c1 c2), ?_⟩
     simp only [at7]
     refine ⟨g, rfl, ?_⟩
     rw [gf7, c3, Nat.add_mul]
     simp
   ·cases h
  ·cases h
 ·cases h0
theorem mi7 {f : Field} {n : Nat} (h : ge7 P f.type = some n) (hn : n ≠ 0) (ad : Addr) : (fieldPlace ad f).run P w = .ok (ad.add f.offset) w := by
 simp [fieldPlace, bd7 h, hn]
theorem Ck7 {off : Nat} {y : Od} (hc : aB7 P tb o.op (.faddr off y) = true) (r : dK7 tb F w t a) (h : evp t (.faddr off y) = some x) : aK7 P tb F w o a x := by
 unfold aK7 execOp
 cases ho : o.op <;> rw [ho] at hc <;> simp only [aB7, Bool.false_eq_true, Bool.and_eq_true] at hc
 rename_i ty y' i
 obtain ⟨h0, h1⟩ := hc
 split at h0
 ·rename_i ft off' hf
  simp only [Bool.and_eq_true, decide_eq_true_eq] at h0
  obtain ⟨rfl, hsz⟩ := h0
  obtain ⟨fs, f, hu, hfs, hft, hoff⟩ := Bq7 hf
  simp only at hft hoff
  have r1 := ar7 r h1
  have hrun : ∀ ad, a.eval y' = .pointer (some ad) → (Instr.fieldAt ty (a.eval y') i).run P w = .ok (.pointer (some (ad.add off'))) w := by
   intro ad had
   cases hs : ge7 P ft with
   | none => simp [hs] at hsz
   | some n =>
    simp [hs] at hsz
    have := mi7 (P := P) (w := w) (f := f) (by rw [hft]; exact hs) hsz ad
    simp [Instr.fieldAt, run_underlying hu, hfs, had, Instr.sureAddr, this, hoff]
  simp only [evp] at h
  split at h
  ·rename_i cs hx
   cases h
   rw [hx] at r1
   simp only [at7] at r1
   obtain ⟨ad, hu', g1, g2⟩ := r1
   refine ⟨_, bn7 (hrun ad hu'), ?_⟩
   simp only [at7]
   refine ⟨_, rfl, by rw [hO7]; exact g1, dt7 ad off' _ 0 ?_⟩
   have := jD7 ad off' cs 0 g2
   simpa using this
  ·rename_i n b k rr c hx
   cases h
   rw [hx] at r1
   simp only [at7] at r1
   obtain ⟨g, rfl, hu'⟩ := r1
   refine ⟨_, bn7 (hrun _ hu'), ?_⟩
   simp only [at7]
   refine ⟨g, rfl, ?_⟩
   rw [gf7, Nat.add_assoc]
  ·cases h
 ·cases h0
theorem Mt7 {off sz : Nat} {agg : Bool} {y : Od} (hc : aB7 P tb o.op (.fld off sz agg y) = true) (r : dK7 tb F w t a) (h : evp t (.fld off sz agg y) = some x) : aK7 P tb F w o a x := by
 unfold aK7 execOp
 cases ho : o.op <;> rw [ho] at hc <;> simp only [aB7, Bool.false_eq_true, Bool.and_eq_true] at hc
 rename_i ty y' i
 obtain ⟨h0, h1⟩ := hc
 split at h0
 ·rename_i ft off' hf
  simp only [Bool.and_eq_true, decide_eq_true_eq] at h0
  obtain ⟨⟨⟨rfl, hsz⟩, hagg⟩, hone⟩ := h0
  obtain ⟨fs, f, hu, hfs, hft, hoff⟩ := Bq7 hf
  simp only at hft hoff
  have r1 := ar7 r h1
  simp only [evp] at h
  split at h
  ·rename_i cs hx
   split at h
   ·rename_i hle
    rw [hx] at r1
    simp only [at7] at r1
    obtain ⟨us, hu', hrl⟩ := r1
    have hlen := cZ7 hrl
    have hrl2 := pg7 sz (ph7 off' hrl)
    refine ⟨_, bn7 ?_, hS7 h hrl2⟩
    cases agg
    ·have hs1 : sz = 1 := by simpa using hone
     subst hs1
     have hlt : off' < us.length := by omega
     simp [Instr.field, run_underlying hu, hfs, hu', asAgg, part, hft, hoff, hR7 hagg, hlt, List.getElem?_drop]
    ·have e1 : us.toArray.extract off' (off' + sz) = ((us.drop off').take sz).toArray := by
      apply Array.ext'
      simp
     simp [Instr.field, run_underlying hu, hfs, hu', asAgg, part, hft, hoff, hR7 hagg, bd7 hsz]
   ·cases h
  ·cases h
 ·cases h0
theorem FI7 {y z : Od} (hc : aB7 P tb o.op (.sidx y z) = true) (r : dK7 tb F w t a) (h : evp t (.sidx y z) = some x) : aK7 P tb F w o a x := by
 unfold aK7 execOp
 cases ho : o.op <;> rw [ho] at hc <;> simp only [aB7, Bool.false_eq_true, Bool.and_eq_true] at hc
 rename_i ty y' z'
 obtain ⟨⟨h0, h1⟩, h2⟩ := hc
 have r1 := ar7 r h1
 have r2 := ar7 r h2
 simp only [evp] at h
 split at h
 ·rename_i s i hx hi
  rw [hx] at r1
  simp only [at7] at r1
  obtain ⟨k, hk⟩ := iX7 hi r2
  split at h
  ·rename_i hlt
   split at h
   ·rename_i h0'
    cases h
    refine ⟨_, bn7 ?_, d07⟩
    rw [r1, hk]
    simp [Instr.index, asIntOf, run_underlying (wh7 h0), h0', hlt]
   ·cases h
  ·cases h
 ·cases h
theorem bD7 {k : IntKind} {i : Int} {y : Nat} (h0 : 0 ≤ i) (h1 : i ≤ y) (c : BoundsCode) : (Instr.sliceBound (.int k i) y c).run P w = .ok i.toNat w := by
 simp [Instr.sliceBound, asIntOf, h0, h1]
theorem bF7 (isl : Bool) {len cap : Nat} {lo hi : Option Value} {l h : Option Int} (hl : (l = none ∧ lo = none) ∨ ∃ k n, l = some n ∧ lo = some (.int k n)) (hh : (h = none ∧ hi = none) ∨ ∃ k n, h = some n ∧ hi = some (.int k n))
  (hcap : len ≤ cap) (h0 : 0 ≤ l.getD 0) (h1 : l.getD 0 ≤ h.getD len) (h2 : h.getD len ≤ cap) :
  (Instr.sliceBounds isl len cap lo hi none).run P w = .ok ((l.getD 0).toNat, (h.getD len).toNat, cap) w := by
 rcases hh with ⟨rfl, rfl⟩ | ⟨k, n, rfl, rfl⟩
 ·rcases hl with ⟨rfl, rfl⟩ | ⟨k', m, rfl, rfl⟩
  ·simp [Instr.sliceBounds]
  ·simp only [Option.getD_some, Option.getD_none] at *
   simp [Instr.sliceBounds, bD7 h0 h1]
 ·simp only [Option.getD_some] at *
  have hn : 0 ≤ n := by omega
  rcases hl with ⟨rfl, rfl⟩ | ⟨k', m, rfl, rfl⟩
  ·simp [Instr.sliceBounds, bD7 hn h2]
  ·simp only [Option.getD_some] at *
   have h3 : m ≤ (n.toNat : Int) := by omega
   simp [Instr.sliceBounds, bD7 hn h2, bD7 h0 h3]
theorem Mu7 {y : Od} {lo hi : Option Od} (hc : aB7 P tb o.op (.ssl y lo hi) = true) (r : dK7 tb F w t a) (h : evp t (.ssl y lo hi) = some x) : aK7 P tb F w o a x := by
 unfold aK7 execOp
 cases ho : o.op <;> rw [ho] at hc <;> simp only [aB7, Bool.false_eq_true, Bool.and_eq_true] at hc
 rename_i ty y' lo' hi' mx
 obtain ⟨⟨⟨⟨h0, hm⟩, h1⟩, h2⟩, h3⟩ := hc
 have hm' : mx = none := by simpa using hm
 subst hm'
 have r1 := ar7 r h1
 simp only [evp] at h
 split at h
 ·rename_i s l hh hx hl hh'
  rw [hx] at r1
  simp only [at7] at r1
  split at h
  ·rename_i hcond
   obtain ⟨c1, c2, c3⟩ := hcond
   cases h
   have b := bF7 (P := P) (w := w) false (len := s.size) (cap := s.size) (cy7 r h2 hl) (cy7 r h3 hh') (Nat.le_refl _) c1 c2 c3
   refine ⟨.string (s.extract (l.getD 0).toNat (hh.getD s.size).toNat), bn7 ?_, by simp [at7]⟩
   rw [r1]
   simp [Instr.sliceAt, Instr.slice, run_underlying (wh7 h0), b]
  ·cases h
 ·cases h
theorem Mv7 {e : Nat} {y : Od} {lo hi : Option Od} (hc : aB7 P tb o.op (.sls e y lo hi) = true) (r : dK7 tb F w t a) (h : evp t (.sls e y lo hi) = some x) : aK7 P tb F w o a x := by
 unfold aK7 execOp
 cases ho : o.op <;> rw [ho] at hc <;> simp only [aB7, Bool.false_eq_true, Bool.and_eq_true] at hc
 rename_i ty y' lo' hi' mx
 obtain ⟨⟨⟨⟨h0, hm⟩, h1⟩, h2⟩, h3⟩ := hc
 split at h0
 ·rename_i el hel
  have hsz := of_decide_eq_true h0
  have hm' : mx = none := by simpa using hm
  subst hm'
  have r1 := ar7 r h1
  have run : ∀ (A : Option Addr) (len cap l m : Nat), a.eval y' = .slice A len cap → (Instr.sliceBounds true len cap (lo'.map a.eval) (hi'.map a.eval) none).run P w = .ok (l, m, cap) w →
    (Instr.sliceAt ty (a.eval y') (lo'.map a.eval) (hi'.map a.eval) ((none : Option Operand).map a.eval)).run P w = .ok (.slice (if cap = l then A else A.map (·.add (l * e))) (m - l) (cap - l)) w := by
   intro A len cap l m hu hb
   simp [Instr.sliceAt, Instr.slice, run_underlying (gY7 hel), hu, hb, bd7 hsz]
  simp only [evp] at h
  split at h
  ·rename_i rows l hh hx hl hh'
   rw [hx] at r1
   simp only [at7] at r1
   obtain ⟨A, cap, e', hu, hcap, hro⟩ := r1
   split at h
   ·rename_i hcond
    obtain ⟨⟨c1, c2, c3⟩, c4⟩ := hcond
    cases h
    have b := bF7 (P := P) (w := w) true (len := rows.length) (cap := cap) (cy7 r h2 hl) (cy7 r h3 hh') hcap c1 c2 (by omega)
    refine ⟨_, bn7 (run A _ _ _ _ hu b), ?_⟩
    simp only [at7]
    have hlen : ((rows.take (hh.getD rows.length).toNat).drop (l.getD 0).toNat).length = (hh.getD rows.length).toNat - (l.getD 0).toNat := by
     rw [List.length_drop, List.length_take]; omega
    have hro2 := hk7 (l.getD 0).toNat _ 0 (e47 (hh.getD rows.length).toNat rows 0 hro)
    by_cases hcl : cap = (l.getD 0).toNat
    ·refine ⟨A, _, e', by rw [if_pos hcl, hlen], by rw [hlen]; omega, ?_⟩
     have hnil : (rows.take (hh.getD rows.length).toNat).drop (l.getD 0).toNat = [] := by
      apply List.eq_nil_of_length_eq_zero
      rw [hlen]; omega
     rw [hnil]
     simp [aC7]
    ·refine ⟨A.map (·.add ((l.getD 0).toNat * e)), _, e', by rw [if_neg hcl, hlen], by rw [hlen]; omega, ?_⟩
     by_cases hnil : (rows.take (hh.getD rows.length).toNat).drop (l.getD 0).toNat = []
     ·rw [hnil]; simp [aC7]
     ·cases A with
      | none =>
       exfalso
       generalize hq : (rows.take (hh.getD rows.length).toNat).drop (l.getD 0).toNat = q at hro2 hnil
       cases q with
       | nil => exact hnil rfl
       | cons q qs => simp only [aC7] at hro2; obtain ⟨_, ⟨ad, h', _⟩, _⟩ := hro2; cases h'
      | some ad =>
       have hee : e' = e := by
        cases rows with
        | nil => simp at hnil
        | cons q qs =>
         simp only [aC7] at hro
         simp at c4
         rw [← hro.1, c4]
       subst hee
       refine gg7 (l.getD 0).toNat _ 0 ?_
       simpa using hro2
   ·cases h
  ·rename_i A cap rows hh hx hl hh'
   rw [hx] at r1
   simp only [at7] at r1
   obtain ⟨hu, hcap, e', hro⟩ := r1
   split at h
   ·rename_i hcond
    obtain ⟨c2, c3⟩ := hcond
    cases h
    have b := bF7 (P := P) (w := w) true (len := rows.length) (cap := cap) (cy7 r h2 hl) (cy7 r h3 hh') hcap (by simp) (by simpa using c2) (by omega)
    refine ⟨_, bn7 (run A _ _ _ _ hu b), ?_⟩
    simp only [at7]
    have hA : (if cap = ((none : Option Int).getD 0).toNat then A else A.map (·.add (((none : Option Int).getD 0).toNat * e))) = A := by
     split
     ·rfl
     ·cases A with
      | none => rfl
      | some ad => simp [Addr.add]
    refine ⟨?_, by rw [List.length_take]; omega, e', e47 _ rows 0 hro⟩
    rw [hA, List.length_take]
    simp only [Option.getD_none, Int.toNat_zero, Nat.sub_zero]
    congr 1
    omega
   ·cases h
  ·rename_i A cap rows l hh hx hl hh'
   rw [hx] at r1
   simp only [at7] at r1
   obtain ⟨hu, hcap, e', hro⟩ := r1
   split at h
   ·rename_i hcond
    obtain ⟨⟨c1, c2, c3⟩, c4⟩ := hcond
    cases h
    have b := bF7 (P := P) (w := w) true (len := rows.length) (cap := cap) (cy7 r h2 hl) (cy7 r h3 hh') hcap c1 c2 (by omega)
    refine ⟨_, bn7 (run A _ _ _ _ hu b), ?_⟩
    simp only [at7, Option.getD_some]
    have hlen : ((rows.take (hh.getD rows.length).toNat).drop l.toNat).length = (hh.getD rows.length).toNat - l.toNat := by
     rw [List.length_drop, List.length_take]; omega
    have hro2 := hk7 l.toNat _ 0 (e47 (hh.getD rows.length).toNat rows 0 hro)
    refine ⟨by rw [hlen], by rw [hlen]; omega, e', ?_⟩
    by_cases hcl : cap = l.toNat
    ·have hnil : (rows.take (hh.getD rows.length).toNat).drop l.toNat = [] := by
      apply List.eq_nil_of_length_eq_zero
      rw [hlen]; omega
     rw [hnil]
     simp [aC7]
    ·rw [if_neg hcl]
     by_cases hnil : (rows.take (hh.getD rows.length).toNat).drop l.toNat = []
     ·rw [hnil]; simp [aC7]
     ·cases A with
      | none =>
       exfalso
       generalize hq : (rows.take (hh.getD rows.length).toNat).drop l.toNat = q at hro2 hnil
       cases q with
       | nil => exact hnil rfl
       | cons q qs => simp only [aC7] at hro2; obtain ⟨_, ⟨ad, h', _⟩, _⟩ := hro2; cases h'
      | some ad =>
       have hee : e' = e := by
        cases rows with
        | nil => simp at hnil
        | cons q qs =>
         simp only [aC7] at hro
         simp at c4
         rw [← hro.1, c4]
       subst hee
       refine gg7 l.toNat _ 0 ?_
       simpa using hro2
   ·cases h
  ·rename_i n b cap off len k l hh hx hl hh'
   rw [hx] at r1
   simp only [at7, Hdr] at r1
   obtain ⟨A, hu, hcap, hb, hA⟩ := r1
   split at h
   ·rename_i hcond
    obtain ⟨rfl, c1, c2, c3⟩ := hcond
    cases h
    have bb := bF7 (P := P) (w := w) true (len := len) (cap := cap - off) (cy7 r h2 hl) (cy7 r h3 hh') (by omega) c1 c2 (by omega)
    refine ⟨_, bn7 (run A _ _ _ _ hu bb), ?_⟩
    simp only [at7, Hdr]
    refine ⟨_, by congr 1; omega, by omega, hb, ?_⟩
    by_cases hcl : cap - off = (l.getD 0).toNat
    ·by_cases hz : off + (l.getD 0).toNat = 0
     ·left
      rw [if_pos hcl]
      rcases hA with rfl | hA
      ·rw [show off + (l.getD 0).toNat = off by omega]
      ·omega
     ·exact .inr (by omega)
    ·left
     rw [if_neg hcl]
     rcases hA with rfl | hA
     ·cases b with
      | none => rfl
      | some g => simp only [Option.map_some]; rw [gf7, Nat.add_mul]
     ·omega
   ·cases h
  ·cases h
 ·cases h0
theorem Mw7 {e : Nat} {y lo hi mx : Od} (hc : aB7 P tb o.op (.sl3 e y lo hi mx) = true) (r : dK7 tb F w t a) (h : evp t (.sl3 e y lo hi mx) = some x) : aK7 P tb F w o a x := by
 unfold aK7 execOp
 cases ho : o.op <;> rw [ho] at hc <;> simp only [aB7, Bool.false_eq_true, Bool.and_eq_true] at hc
 rename_i ty y' lo' hi' mx'
 obtain ⟨⟨⟨⟨h0, h1⟩, h2⟩, h3⟩, h4⟩ := hc
 split at h0
 ·rename_i el hel
  have hsz := of_decide_eq_true h0
  have r1 := ar7 r h1
  simp only [evp] at h
  split at h
  ·rename_i n b cap off len k l hh m hx hl hh' hm
   split at h
   ·rename_i hcond
    obtain ⟨rfl, c1, c2, c3, c4⟩ := hcond
    cases h
    rw [hx] at r1
    simp only [at7, Hdr] at r1
    obtain ⟨A, hu, hcap, hb, hA⟩ := r1
    have b2 := cy7 r h2 (i := some l) (by simp [ki7, hl])
    have b3 := cy7 r h3 (i := some hh) (by simp [ki7, hh'])
    have b4 := cy7 r h4 (i := some m) (by simp [ki7, hm])
    rcases b2 with ⟨e2, _⟩ | ⟨k2, n2, e2, q2⟩
    ·cases e2
    cases e2
    rcases b3 with ⟨e3, _⟩ | ⟨k3, n3, e3, q3⟩
    ·cases e3
    cases e3
    rcases b4 with ⟨e4, _⟩ | ⟨k4, n4, e4, q4⟩
    ·cases e4
    cases e4
    have d3 : hh ≤ (m.toNat : Int) := by omega
    have d2 : l ≤ (hh.toNat : Int) := by omega
    have d4 : m ≤ ((cap - off : Nat) : Int) := by omega
    have bb : (Instr.sliceBounds true len (cap - off) (some (.int k2 l)) (some (.int k3 hh)) (some (.int k4 m))).run P w = .ok (l.toNat, hh.toNat, m.toNat) w := by
     simp [Instr.sliceBounds, bD7 (P := P) (w := w) (i := m) (by omega) d4, bD7 (P := P) (w := w) (i := hh) (by omega) d3, bD7 (P := P) (w := w) (i := l) c1 d2]
    refine ⟨_, bn7 (v := .slice (if m.toNat = l.toNat then A else A.map (·.add (l.toNat * esz k))) (hh.toNat - l.toNat) (m.toNat - l.toNat)) ?_, by simp [at7]⟩
    simp only [q2, q3, q4]
    simp [Instr.sliceAt, Instr.slice, run_underlying (gY7 hel), hu, bb, bd7 hsz]
   ·cases h
  ·cases h
 ·cases h0
theorem FJ7 {sz : Nat} {agg : Bool} {y : Od} (hc : aB7 P tb o.op (.load sz agg y) = true) (r : dK7 tb F w t a) (h : evp t (.load sz agg y) = some x) : aK7 P tb F w o a x := by
 unfold aK7 execOp
 cases ho : o.op <;> rw [ho] at hc <;> simp only [aB7, Bool.false_eq_true, Bool.and_eq_true, decide_eq_true_eq] at hc
 rename_i ty y'
 obtain ⟨⟨⟨hsz, hagg⟩, hone⟩, h1⟩ := hc
 have r1 := ar7 r h1
 simp only [evp] at h
 split at h
 ·rename_i cs hx
  split at h
  ·rename_i hle
   rw [hx] at r1
   simp only [at7] at r1
   obtain ⟨ad, hu, g1, g2⟩ := r1
   obtain ⟨xs, hxs, hone'⟩ := Option.bind_eq_some_iff.1 h
   have g3 : aJ7 F w ad 0 (cs.take sz) := jE7 ad sz cs 0 g2
   obtain ⟨us, hc', hrl⟩ := kM7 ad hxs g3
   have hlen := cZ7 hrl
   have hlx : xs.length = sz := by
    rw [jF7 hxs, List.length_take]; omega
   refine ⟨_, bn7 ?_, hS7 hone' hrl⟩
   rw [hu]
   simp only [Instr.loadAt, Instr.sureAddr, Sem.run_bind, Sem.run_pure, Result.andThen_ok]
   exact e57 hsz hagg hone ad us (by omega) (by simpa using hc') _ rfl
  ·cases h
 ·cases h
theorem Mx7 {i : Nat} {y : Od} (hc : aB7 P tb o.op (.ext y i) = true) (r : dK7 tb F w t a) (h : evp t (.ext y i) = some x) : aK7 P tb F w o a x := by
 unfold aK7 execOp
 cases ho : o.op <;> rw [ho] at hc <;> simp only [aB7, Bool.false_eq_true, Bool.and_eq_true, decide_eq_true_eq] at hc
 obtain ⟨rfl, h1⟩ := hc
 have r1 := ar7 r h1
 simp only [evp] at h
 split at h
 ·rename_i cs hx
  rw [hx] at r1
  simp only [at7] at r1
  obtain ⟨us, hu, hrl⟩ := r1
  obtain ⟨u, hu2, hr⟩ := ta7 _ _ hrl h
  refine ⟨u, bn7 ?_, hr⟩
  rw [hu]
  simp [Instr.extract, hu2]
 ·cases h
theorem My7 {f : Nat} {ys : List Od} (hc : aB7 P tb o.op (.mkf f ys) = true) (r : dK7 tb F w t a) (h : evp t (.mkf f ys) = some x) : aK7 P tb F w o a x := by
 unfold aK7 execOp
 cases ho : o.op <;> rw [ho] at hc <;> simp only [aB7, Bool.false_eq_true, Bool.and_eq_true] at hc
 rename_i fn first caps
 obtain ⟨⟨h0, h1⟩, h2⟩ := hc
 simp only [evp, Option.some.injEq] at h
 subst h
 split at h0
 ·rename_i g
  simp only [Bool.and_eq_true, decide_eq_true_eq] at h0
  have hf : first = #[] := by simpa using h1
  have := hQ7 r h2
  refine ⟨_, bn7 (v := .func (.func g) #[] (caps.toList.map a.eval).toArray) ?_, ?_⟩
  ·subst hf
   simp only [Instr.makeFunc, Sem.run_pure]
   congr 2
   simp
   apply Array.ext'
   simp
  ·simp only [at7]
   exact ⟨_, by rw [h0.1], this⟩
 ·cases h0
theorem mL7 : ∀ {ys : List AV} {vs : List Value} (p : Nat) {xs : List AV} {us : List Value}, aS7 tb F w xs us → aS7 tb F w ys vs → aS7 tb F w (bL7 xs p ys) (bL7 us p vs)
 | [], vs, p, xs, us, h, h' => by simp [aS7] at h'; subst h'; simpa [bL7] using h
 | y :: ys, vs, p, xs, us, h, h' => by
  simp only [aS7] at h'
  obtain ⟨v, vs', rfl, h1, h2⟩ := h'
  simp only [bL7]
  exact mL7 (p + 1) (tb7 p h h1) h2
theorem iY7 : ∀ (vs : List Value) (j off : Nat) (cells : Array Value), ((vs.zipIdx j).foldl (fun (cs : Array Value) (x : Value × Nat) => cs.setIfInBounds (off + x.2) x.1) cells).toList = bL7 cells.toList (off + j) vs
 | [], j, off, cells => by simp [bL7]
 | v :: vs, j, off, cells => by
  simp only [List.zipIdx_cons, List.foldl_cons, bL7]
  rw [iY7 vs (j + 1) off]
  simp [Nat.add_assoc]
theorem tc7 (place : Nat → Option (Nat × Nat)) {t : Tm} {a : Act} (r : dK7 tb F w t a) : ∀ (os : List (Nat × Operand)) (ds : List (Nat × Nat × Od)) (xs ys : List AV) (us : List Value), gJ7 tb place os ds = true → bld t ds xs = some ys → aS7 tb F w xs us →
  ∃ vs, Instr.fill place us.toArray (os.map fun (i, x) => (i, a.eval x)) = some (vs : List Value).toArray ∧ aS7 tb F w ys vs
 | [], ds, xs, ys, us, hc, hb, h => by
  cases ds with
  | nil => simp [bld] at hb; subst hb; exact ⟨us, by simp [Instr.fill], h⟩
  | cons d ds => simp [gJ7] at hc
 | (i, ox) :: os, ds, xs, ys, us, hc, hb, h => by
  cases ds with
  | nil => simp [gJ7] at hc
  | cons d ds =>
   obtain ⟨off, sz, d⟩ := d
   simp only [gJ7, Bool.and_eq_true, decide_eq_true_eq] at hc
   obtain ⟨⟨hp, h1⟩, h2⟩ := hc
   simp only [bld] at hb
   split at hb
   ·rename_i hcond
    obtain ⟨c1, c2, c3⟩ := hcond
    obtain ⟨vs, hv, hrl⟩ := gK7 (ar7 r h1) c3
    have hl1 := cZ7 hrl
    have hl2 := cZ7 h
    obtain ⟨zs, hz, hz2⟩ := tc7 place r os ds _ ys _ h2 hb (mL7 off h hrl)
    refine ⟨zs, ?_, hz2⟩
    simp only [List.map_cons, Instr.fill, hp, hv]
    rw [if_neg (by simp; omega)]
    rw [← hz]
    congr 1
    apply Array.ext'
    rw [← Array.foldl_toList]
    have := iY7 vs 0 off us.toArray
    simpa using this
   ·cases hb
theorem kO7 : ∀ {vs : List Value} {zs : List AV}, zAV vs zs = true → aS7 tb F w zs vs
 | [], [], _ => by simp [aS7]
 | v :: vs, z :: zs, h => by
  simp only [aS7]
  unfold zAV at h
  split at h
  ·rename_i h1; cases h1
  ·rename_i h1 h2
   cases h1
   cases h2
   exact ⟨_, _, rfl, by simp [at7], kO7 h⟩
  ·rename_i h1 h2
   cases h1
   cases h2
   simp only [Bool.and_eq_true] at h
   exact ⟨_, _, rfl, by simp [at7, kI7 h.1], kO7 h.2⟩
  ·cases h
 | [], _ :: _, h => by simp [zAV] at h
 | v :: vs, [], h => by unfold zAV at h; split at h <;> simp_all
theorem uU7 : ∀ (l : List Field), (∀ f ∈ l, ∃ s, ge7 P f.type = some s) → ((l.toArray.mapM fun f => do pure (f.offset, ← sizeOf f.type) : Sem (Array (Nat × Nat)))).run P w = .ok (l.map fun f => (f.offset, (ge7 P f.type).getD 0)).toArray w := by
 intro l hl
 rw [Array.mapM_eq_mapM_toList]
 have key : ((l.mapM fun f => do pure (f.offset, ← sizeOf f.type) : Sem (List (Nat × Nat)))).run P w = .ok (l.map fun f => (f.offset, (ge7 P f.type).getD 0)) w := by
  induction l with
  | nil => simp
  | cons f l ih =>
   obtain ⟨s, hs⟩ := hl f (by simp)
   have := ih (fun g hg => hl g (by simp [hg]))
   simp only [List.mapM_cons, Sem.run_bind, bd7 hs, Result.andThen_ok, Sem.run_pure, this, List.map_cons, hs, Option.getD_some]
 show ((l.mapM fun f => do pure (f.offset, ← sizeOf f.type) : Sem (List (Nat × Nat))) >>= (pure ∘ List.toArray)).run P w = _
 rw [Sem.run_bind, key]
 simp
theorem Cl7 {z : List AV} {ps : List (Nat × Nat × Od)} (hc : aB7 P tb o.op (.build z ps) = true) (r : dK7 tb F w t a) (h : evp t (.build z ps) = some x) : aK7 P tb F w o a x := by
 unfold aK7 execOp
 cases ho : o.op <;> rw [ho] at hc <;> simp only [aB7, Bool.false_eq_true] at hc
 rename_i ty ps'
 split at hc
 ·rename_i fs vs hu hz
  simp only [Bool.and_eq_true] at hc
  obtain ⟨⟨h1, h2⟩, h3⟩ := hc
  simp only [evp] at h
  obtain ⟨ys, hys, rfl⟩ := Option.map_eq_some_iff.1 h
  unfold zOf at hz
  obtain ⟨z0, hz0, rfl⟩ := Option.map_eq_some_iff.1 hz
  obtain ⟨i0, hi0, hzz⟩ := Option.bind_eq_some_iff.1 hz0
  have hpl := uU7 (P := P) (w := w) fs.toList (fun f hf => by have := List.all_eq_true.1 h3 f hf; exact Option.isSome_iff_exists.1 this)
  obtain ⟨zs, e1, e2⟩ := tc7 (F := F) (w := w) (fun i => (fs[i]?).bind fun f => (ge7 P f.type).map fun s => (f.offset, s)) r ps'.toList ps z ys z0.cells.toList h2 hys (kO7 h1)
  refine ⟨.agg zs.toArray, bn7 ?_, by simp only [at7]; exact ⟨zs, rfl, e2⟩⟩
  have hzr : (zeroValue ty).run P w = .ok z0 w := by simp [zeroValue, typeInfo, hi0, hzz]
  have hf : ∀ (i : Nat), ((fs.toList.map fun f => (f.offset, (ge7 P f.type).getD 0)).toArray)[i]? = (fs[i]?).bind fun f => (ge7 P f.type).map fun s => (f.offset, s) := by
   intro i
   cases hfi : fs[i]? with
   | none => simp [hfi]
   | some f =>
    have hm : f ∈ fs.toList := by
     rw [Array.mem_toList_iff]
     exact Array.mem_of_getElem? hfi
    obtain ⟨s, hs⟩ := Option.isSome_iff_exists.1 (List.all_eq_true.1 h3 f hm)
    simp [hfi, hs]
  have e3 : Instr.fill (fun i => ((fs.toList.map fun f => (f.offset, (ge7 P f.type).getD 0)).toArray)[i]?) z0.cells (ps'.map fun x => (x.1, a.eval x.2)).toList = some zs.toArray := by
   have : (fun (i : Nat) => ((fs.toList.map fun (f : Field) => (f.offset, (ge7 P f.type).getD 0)).toArray)[i]?) = (fun (i : Nat) => (fs[i]?).bind fun (f : Field) => (ge7 P f.type).map fun s => (f.offset, s)) := funext hf
   rw [this, Array.toList_map]
   simpa using e1
  simp only [Instr.build, Sem.run_bind, hzr, Result.andThen_ok, run_underlying hu, hpl, e3, Sem.run_pure]
 ·cases hc
end
end Go.Proofs.AM
