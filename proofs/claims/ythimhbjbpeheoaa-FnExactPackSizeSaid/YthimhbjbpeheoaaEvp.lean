/- A part of the proof of 'FnExactPackSizeSaid' (Evp): lemmas on an abstract machine for the program's functions. Conditions: none. -/
import Derived.Test.YthimhbjbpeheoaaPure
set_option linter.unusedVariables false
set_option linter.unusedSimpArgs false
namespace Go.Proofs.AM
open Go.RowKit
variable {P : Program} {tb : Tab} {F : Nat → Prop} {w : World}
theorem add_add (a : Addr) (p q : Nat) : (a.add p).add q = a.add (p + q) := by
  unfold Addr.add
  by_cases hp : p = 0 <;> by_cases hq : q = 0 <;> simp [hp, hq, Nat.add_assoc]
theorem add_mk (g o p : Nat) : (⟨g, o, none⟩ : Addr).add p = ⟨g, o + p, none⟩ := by
  unfold Addr.add
  by_cases hp : p = 0 <;> simp [hp]
theorem ROrows_get {e : Nat} {A : Option Addr} : ∀ {rows : List (List T)} {i j : Nat} {r : List T}, ROrows F w e A i rows → rows[j]? = some r → r.length = e ∧ ∃ ad, A = some ad ∧ F ad.block ∧ ROcells F w ad ((i + j) * e) r
  | [], i, j, r, h, hj => by simp at hj
  | x :: xs, i, j, r, h, hj => by
    simp only [ROrows] at h
    obtain ⟨h1, h2, h3⟩ := h
    cases j with
    | zero => simp at hj; subst hj; exact ⟨h1, by simpa using h2⟩
    | succ j =>
      simp at hj
      have := ROrows_get h3 hj
      rwa [show i + (j + 1) = i + 1 + j by omega]
theorem ROcells_shift (ad : Addr) (p : Nat) : ∀ (cs : List T) (q : Nat), ROcells F w ad (p + q) cs → ROcells F w (ad.add p) q cs
  | [], q, _ => by simp [ROcells]
  | c :: cs, q, h => by
    simp only [ROcells] at h ⊢
    obtain ⟨⟨u, h1, h2⟩, h3⟩ := h
    exact ⟨⟨u, by rw [add_add]; exact h1, h2⟩, ROcells_shift ad p cs (q + 1) (by rwa [show p + (q + 1) = p + q + 1 by omega])⟩
theorem ROcells_drop (ad : Addr) : ∀ (n : Nat) (cs : List T) (p : Nat), ROcells F w ad p cs → ROcells F w ad (p + n) (cs.drop n)
  | 0, cs, p, h => by simpa using h
  | n + 1, [], p, h => by simp [ROcells]
  | n + 1, c :: cs, p, h => by
    simp only [ROcells] at h
    have := ROcells_drop ad n cs (p + 1) h.2
    rw [List.drop_succ_cons]
    rwa [show p + (n + 1) = p + 1 + n by omega]
theorem ROcells_take (ad : Addr) : ∀ (n : Nat) (cs : List T) (p : Nat), ROcells F w ad p cs → ROcells F w ad p (cs.take n)
  | 0, cs, p, h => by simp [ROcells]
  | n + 1, [], p, h => by simp [ROcells]
  | n + 1, c :: cs, p, h => by
    simp only [ROcells] at h
    rw [List.take_succ_cons]
    simp only [ROcells]
    exact ⟨h.1, ROcells_take ad n cs (p + 1) h.2⟩
theorem roAVs_length : ∀ {cs : List T} {xs : List AV}, roAVs cs = some xs → xs.length = cs.length
  | [], xs, h => by simp [roAVs] at h; subst h; rfl
  | c :: cs, xs, h => by
    simp only [roAVs] at h
    split at h
    · rename_i h2; cases h; simp [roAVs_length h2]
    · cases h
theorem ROrows_drop {e : Nat} {A : Option Addr} : ∀ (n : Nat) (rows : List (List T)) (i : Nat), ROrows F w e A i rows → ROrows F w e A (i + n) (rows.drop n)
  | 0, rows, i, h => by simpa using h
  | n + 1, [], i, h => by simp [ROrows]
  | n + 1, c :: cs, i, h => by
    simp only [ROrows] at h
    have := ROrows_drop n cs (i + 1) h.2.2
    rw [List.drop_succ_cons]
    rwa [show i + (n + 1) = i + 1 + n by omega]
theorem ROrows_take {e : Nat} {A : Option Addr} : ∀ (n : Nat) (rows : List (List T)) (i : Nat), ROrows F w e A i rows → ROrows F w e A i (rows.take n)
  | 0, rows, i, h => by simp [ROrows]
  | n + 1, [], i, h => by simp [ROrows]
  | n + 1, c :: cs, i, h => by
    simp only [ROrows] at h
    rw [List.take_succ_cons]
    simp only [ROrows]
    exact ⟨h.1, h.2.1, ROrows_take n cs (i + 1) h.2.2⟩
theorem ROrows_shift {e : Nat} {ad : Addr} (n : Nat) : ∀ (rows : List (List T)) (i : Nat), ROrows F w e (some ad) (n + i) rows → ROrows F w e (some (ad.add (n * e))) i rows
  | [], i, _ => by simp [ROrows]
  | r :: rs, i, h => by
    simp only [ROrows] at h ⊢
    obtain ⟨h1, ⟨a, h2, h3, h4⟩, h5⟩ := h
    cases h2
    refine ⟨h1, ⟨_, rfl, by rw [add_block]; exact h3, ?_⟩, ROrows_shift n rs (i + 1) (by rwa [show n + (i + 1) = n + i + 1 by omega])⟩
    refine ROcells_shift ad (n * e) r (i * e) ?_
    rwa [← Nat.add_mul]
theorem roAVs_sound (ad : Addr) : ∀ {cs : List T} {xs : List AV} {p : Nat}, roAVs cs = some xs → ROcells F w ad p cs → ∃ us : List Value, (∀ j u, us[j]? = some u → w.cell? (ad.add (p + j)) = some u) ∧ RelL tb F w xs us
  | [], xs, p, h, _ => by simp [roAVs] at h; subst h; exact ⟨[], by simp, by simp [RelL]⟩
  | c :: cs, xs, p, h, hr => by
    simp only [roAVs] at h
    split at h
    · rename_i x xs hx hxs
      cases h
      simp only [ROcells] at hr
      obtain ⟨⟨u, h1, h2⟩, h3⟩ := hr
      obtain ⟨us, h4, h5⟩ := roAVs_sound ad hxs h3
      refine ⟨u :: us, fun j v hj => ?_, ?_⟩
      · cases j with
        | zero => simp at hj; subst hj; simpa using h1
        | succ j => simp at hj; have := h4 j v hj; rwa [show p + (j + 1) = p + 1 + j by omega]
      · simp only [RelL]
        refine ⟨_, _, rfl, ?_, h5⟩
        unfold roAV at hx
        split at hx
        · cases hx; simp only [ROc] at h2; simp [RelV, h2.1]
        · cases hx
          simp only [ROc] at h2
          simpa [RelV] using h2
        · cases hx
    · cases h
theorem isAgg_run {t : TypeId} {b : Bool} (h : aggOf P t = some b) (w : World) : (isAgg t).run P w = .ok b w := by
  unfold aggOf at h
  unfold isAgg
  rw [Sem.run_bind]
  cases hd : P.underlying t with
  | none => simp [hd] at h
  | some d =>
    rw [hd] at h
    rw [run_underlying hd w]
    cases d <;> simp_all
theorem sizeOf_run {t : TypeId} {n : Nat} (h : szOf P t = some n) (w : World) : (sizeOf t).run P w = .ok n w := by
  unfold szOf at h
  obtain ⟨i, hi, rfl⟩ := Option.map_eq_some_iff.1 h
  simp [sizeOf, typeInfo, hi]
theorem loadVar_run {t : TypeId} {sz : Nat} {agg : Bool} (hs : szOf P t = some sz) (ha : aggOf P t = some agg) (h1 : (agg || sz == 1) = true) (ad : Addr) (us : List Value) (hl : us.length = sz)
    (hc : ∀ j u, us[j]? = some u → w.cell? (ad.add j) = some u) (x : Value) (hx : x = if agg then .agg us.toArray else us.getD 0 undef) : (loadVar t ad).run P w = .ok x w := by
  subst hx
  subst hl
  cases agg
  · have hl : us.length = 1 := by simpa using h1
    match us, hl with
    | [u], _ =>
      have := hc 0 u (by simp)
      have h0 : ad.add 0 = ad := by simp [Addr.add]
      rw [h0] at this
      simp [loadVar, Sem.run_bind, isAgg_run ha w, load, Sem.run, this]
  · have := run_loadCells_list (P := P) w ad us hc
    simp [loadVar, Sem.run_bind, isAgg_run ha w, sizeOf_run hs w, this]
theorem one_sound {agg : Bool} {xs : List AV} {x : AV} {us : List Value} (h : one agg xs = some x) (hr : RelL tb F w xs us) : RelV tb F w x (if agg then .agg us.toArray else us.getD 0 undef) := by
  unfold one at h
  split at h
  · rename_i ha
    cases h
    simp only [ha, if_true, RelV]
    exact ⟨us, rfl, hr⟩
  · rename_i ha
    split at h
    · cases h
      simp only [RelL] at hr
      obtain ⟨u, us', rfl, h1, rfl⟩ := hr
      simpa [ha] using h1
    · cases h
theorem oneCell_cells {x : Value} (h : x.oneCell' = true) : x.cells = #[x] := by cases x <;> simp_all [Value.oneCell', Value.cells]
theorem flat_sound {x : AV} {u : Value} (h : RelV tb F w x u) (hc : (flat x).all isCell = true) : ∃ us : List Value, u.cells = us.toArray ∧ RelL tb F w (flat x) us := by
  have key : ∀ y, flat y = [y] → isCell y = true → RelV tb F w y u → ∃ us : List Value, u.cells = us.toArray ∧ RelL tb F w (flat y) us := by
    intro y hy hcy hr
    refine ⟨[u], ?_, by rw [hy]; exact ⟨u, [], rfl, hr, rfl⟩⟩
    cases y <;> simp [isCell] at hcy <;> simp only [RelV] at hr
    · subst hr; exact oneCell_cells hcy
    · obtain ⟨A, cap, e, rfl, _⟩ := hr; rfl
    · subst hr; rfl
    · obtain ⟨A, rfl, _⟩ := hr; rfl
  cases x with
  | agg cs =>
    simp only [RelV] at h
    obtain ⟨us, rfl, h2⟩ := h
    exact ⟨us, rfl, h2⟩
  | _ => exact key _ rfl (by simpa [flat] using hc) h
theorem int_rel {x : AV} {i : Int} {u : Value} (h : asI x = some i) (hr : RelV tb F w x u) : ∃ k, u = .int k i := by
  unfold asI at h
  split at h
  · cases h; simp only [RelV] at hr; exact ⟨_, hr⟩
  · cases h
theorem el_of {t : TypeId} {el : TypeId} (h : elOf P t = some el) : P.underlying t = some (.slice el) := by
  unfold elOf at h
  split at h
  · cases h; assumption
  · cases h
theorem isS_of {t : TypeId} (h : isS P t = true) : P.underlying t = some .string := by
  unfold isS at h
  split at h
  · assumption
  · cases h
theorem fld_of {t : TypeId} {i : Nat} {r : TypeId × Nat} (h : fldOf P t i = some r) : ∃ fs f, P.underlying t = some (.struct fs) ∧ fs[i]? = some f ∧ f.type = r.1 ∧ f.offset = r.2 := by
  unfold fldOf at h
  split at h
  · rename_i fs hu
    obtain ⟨f, hf, rfl⟩ := Option.map_eq_some_iff.1 h
    exact ⟨fs, f, hu, hf, rfl, rfl⟩
  · cases h
theorem opt_rel {t : Tm} {a : Act} (r : RelT tb F w t a) {o : Option Operand} {d : Option Od} (h : chkOpt tb o d = true) {i : Option Int} (hi : asIo (d.map (ev t)) = some i) :
    (i = none ∧ o.map a.eval = none) ∨ ∃ k n, i = some n ∧ o.map a.eval = some (.int k n) := by
  unfold chkOpt at h
  split at h
  · simp [asIo] at hi; exact .inl ⟨hi.symm, rfl⟩
  · rename_i o d
    simp only [Option.map_some, asIo] at hi
    obtain ⟨n, hn, rfl⟩ := Option.map_eq_some_iff.1 hi
    obtain ⟨k, hk⟩ := int_rel hn (od_sound r h)
    exact .inr ⟨k, n, rfl, by simp [hk]⟩
  · cases h
def PureRun (P : Program) (tb : Tab) (F : Nat → Prop) (w : World) (o : Oper) (a : Act) (x : AV) : Prop := ∃ u, (execOp a.eval o).run P w = .ok (.value u) w ∧ RelV tb F w x u
theorem val_run {s : Sem Value} {v : Value} {w w' : World} (h : s.run P w = .ok v w') : ((do pure (Next.value (← s))) : Sem Next).run P w = .ok (.value v) w' := by simp [Sem.run_bind, h]
theorem RelV_int {k : IntKind} {n : Int} : RelV tb F w (.v (.int k n)) (.int k n) := by simp [RelV]
section
variable {o : Oper} {t : Tm} {a : Act} {x : AV}
theorem s_mv {y : Od} (hc : chkOp P tb o.op (.mv y) = true) (r : RelT tb F w t a) (h : evp t (.mv y) = some x) : PureRun P tb F w o a x := by
  simp only [evp, Option.some.injEq] at h
  subst h
  unfold PureRun execOp
  cases ho : o.op <;> rw [ho] at hc <;> simp only [chkOp, Bool.false_eq_true] at hc
  all_goals exact ⟨_, rfl, od_sound r hc⟩
theorem s_nilck {y : Od} (hc : chkOp P tb o.op (.nilck y) = true) (r : RelT tb F w t a) (h : evp t (.nilck y) = some x) : PureRun P tb F w o a x := by
  unfold PureRun execOp
  cases ho : o.op <;> rw [ho] at hc <;> simp only [chkOp, Bool.false_eq_true] at hc
  have hr := od_sound r hc
  simp only [evp] at h
  split at h
  · rename_i he
    cases h
    rw [he] at hr
    have hr' := hr
    simp only [RelV] at hr
    obtain ⟨g, _, hu⟩ := hr
    refine ⟨_, ?_, hr'⟩
    simp [hu]
  · rename_i he
    cases h
    rw [he] at hr
    have hr' := hr
    simp only [RelV] at hr
    obtain ⟨ad, hu, _⟩ := hr
    refine ⟨_, ?_, hr'⟩
    simp [hu]
  · cases h
theorem s_pick {c y z : Od} (hc : chkOp P tb o.op (.pick c y z) = true) (r : RelT tb F w t a) (h : evp t (.pick c y z) = some x) : PureRun P tb F w o a x := by
  unfold PureRun execOp
  cases ho : o.op <;> rw [ho] at hc <;> simp only [chkOp, Bool.false_eq_true, Bool.and_eq_true] at hc
  rename_i c' y' z'
  obtain ⟨⟨h1, h2⟩, h3⟩ := hc
  have r1 := od_sound r h1
  simp only [evp] at h
  split at h
  · rename_i p he
    cases h
    rw [he] at r1
    simp only [RelV] at r1
    cases p
    · exact ⟨a.eval z', by simp [r1, asBool], by simpa using od_sound r h3⟩
    · exact ⟨a.eval y', by simp [r1, asBool], by simpa using od_sound r h2⟩
  · cases h
theorem s_bin {op : BinOp} {y z : Od} (hc : chkOp P tb o.op (.bin op y z) = true) (r : RelT tb F w t a) (h : evp t (.bin op y z) = some x) : PureRun P tb F w o a x := by
  unfold PureRun execOp
  cases ho : o.op <;> rw [ho] at hc <;> simp only [chkOp, Bool.false_eq_true, Bool.and_eq_true, decide_eq_true_eq] at hc
  rename_i op' ty y' z' ty'
  obtain ⟨⟨⟨rfl, h0⟩, h1⟩, h2⟩ := hc
  have r1 := od_sound r h1
  have r2 := od_sound r h2
  simp only [evp] at h
  split at h
  · rename_i p q hp hq
    rw [hp] at r1
    rw [hq] at r2
    simp only [RelV] at r1 r2
    obtain ⟨v, hv, rfl⟩ := Option.map_eq_some_iff.1 h
    refine ⟨v, val_run ?_, by simp [RelV]⟩
    rw [r1, r2]
    exact binOp_run hv ty y' z' w
  · cases h
theorem s_eqs {neg agg : Bool} {ks : List Nat} {y z : Od} (hc : chkOp P tb o.op (.eqs neg agg ks y z) = true) (r : RelT tb F w t a) (h : evp t (.eqs neg agg ks y z) = some x) : PureRun P tb F w o a x := by
  unfold PureRun execOp
  cases ho : o.op <;> rw [ho] at hc <;> simp only [chkOp, Bool.false_eq_true, Bool.and_eq_true, decide_eq_true_eq] at hc
  rename_i op' ty y' z' ty'
  obtain ⟨⟨⟨rfl, h0⟩, h1⟩, h2⟩ := hc
  simp only [evp] at h
  obtain ⟨p, hp, rfl⟩ := Option.map_eq_some_iff.1 h
  exact ⟨_, val_run (eqs_run hp h0 (od_sound r h1) (od_sound r h2) y' z'), by simp [RelV]⟩
theorem s_un {op : UnOp} {y : Od} (hc : chkOp P tb o.op (.un op y) = true) (r : RelT tb F w t a) (h : evp t (.un op y) = some x) : PureRun P tb F w o a x := by
  unfold PureRun execOp
  cases ho : o.op <;> rw [ho] at hc <;> simp only [chkOp, Bool.false_eq_true, Bool.and_eq_true, decide_eq_true_eq] at hc
  obtain ⟨rfl, h1⟩ := hc
  have r1 := od_sound r h1
  simp only [evp] at h
  split at h
  · rename_i p hp
    rw [hp] at r1
    simp only [RelV] at r1
    obtain ⟨v, hv, rfl⟩ := Option.map_eq_some_iff.1 h
    refine ⟨v, val_run ?_, by simp [RelV]⟩
    rw [r1]
    unfold pun at hv
    split at hv
    · cases hv; simp [Op.unary, Op.intArith]
    · cases hv; simp [Op.unary]
    · cases hv
  · cases h
theorem s_conv {k : IntKind} {y : Od} (hc : chkOp P tb o.op (.conv k y) = true) (r : RelT tb F w t a) (h : evp t (.conv k y) = some x) : PureRun P tb F w o a x := by
  unfold PureRun execOp
  cases ho : o.op <;> rw [ho] at hc <;> simp only [chkOp, Bool.false_eq_true, Bool.and_eq_true] at hc
  rename_i s d y'
  obtain ⟨h0, h1⟩ := hc
  have r1 := od_sound r h1
  simp only [evp] at h
  split at h
  · rename_i k' n hp
    rw [hp] at r1
    simp only [RelV] at r1
    cases h
    split at h0
    · rename_i k1 k2 e1 e2
      have := of_decide_eq_true h0
      subst this
      refine ⟨_, val_run ?_, RelV_int⟩
      rw [r1]
      simp [convert, run_underlying e1, run_underlying e2, Conv.intToInt]
    · cases h0
  · cases h
theorem s_len {s : Bool} {y : Od} (hc : chkOp P tb o.op (.len s y) = true) (r : RelT tb F w t a) (h : evp t (.len s y) = some x) : PureRun P tb F w o a x := by
  unfold PureRun execOp
  cases ho : o.op <;> rw [ho] at hc <;> simp only [chkOp, Bool.false_eq_true, Bool.and_eq_true] at hc
  rename_i c
  split at hc
  · rename_i y' ty h1 h2 h3
    simp only [Bool.and_eq_true] at hc
    obtain ⟨h0, h4⟩ := hc
    have r1 := od_sound r h4
    have hr : ∀ v, (Builtin.len_ c.argTypes o.type #[a.eval y']).run P w = .ok v w → (do let d ← resolve a.eval c o.type; invoke d.target d.args : Sem Next).run P w = .ok (.value v) w := by
      intro v hv
      have ha : c.args.map a.eval = #[a.eval y'] := by
        apply Array.ext'
        simp [h2]
      simp [resolve, h1, invoke, builtin, ha, hv]
    have ht : c.argTypes = #[ty] := by apply Array.ext'; simpa using h3
    have hsl : ∀ A n cap, a.eval y' = .slice A n cap → (elOf P ty).isSome = true → (Builtin.len_ c.argTypes o.type #[a.eval y']).run P w = .ok (.int .i64 n) w := by
      intro A n cap hu he
      obtain ⟨el, hel⟩ := Option.isSome_iff_exists.1 he
      simp [Builtin.len_, ht, hu, run_underlying (el_of hel), goInt]
    simp only [evp] at h
    split at h
    · rename_i s' he
      cases h
      rw [he] at r1
      simp only [RelV] at r1
      simp only [if_true] at h0
      refine ⟨_, hr (.int .i64 s'.size) ?_, RelV_int⟩
      simp [Builtin.len_, ht, r1, run_underlying (isS_of h0), goInt]
    · rename_i rows he
      cases h
      rw [he] at r1
      simp only [RelV] at r1
      obtain ⟨A, cap, e, hu, _⟩ := r1
      exact ⟨_, hr _ (hsl A _ cap hu (by simpa using h0)), RelV_int⟩
    · rename_i he
      cases h
      rw [he] at r1
      simp only [RelV] at r1
      exact ⟨_, hr _ (hsl none 0 0 r1 (by simpa using h0)), RelV_int⟩
    · rename_i n b cap off len k he
      cases h
      rw [he] at r1
      simp only [RelV, Hdr] at r1
      obtain ⟨A, hu, _⟩ := r1
      exact ⟨_, hr _ (hsl A _ _ hu (by simpa using h0)), RelV_int⟩
    · cases h
  · cases hc
theorem indexAt_run {ty el : TypeId} {e : Nat} (h1 : elOf P ty = some el) (h2 : szOf P el = some e) (ad : Addr) (len cap : Nat) (k : IntKind) (i : Int) (h0 : 0 ≤ i) (hi : i.toNat < len) :
    (Instr.indexAt ty (.slice (some ad) len cap) (.int k i)).run P w = .ok (.pointer (some (ad.add (i.toNat * e)))) w := by
  have hlt : i < len := by omega
  simp [Instr.indexAt, asIntOf, run_underlying (el_of h1), sizeOf_run h2, h0, hlt]
theorem s_iaddr {e : Nat} {y z : Od} (hc : chkOp P tb o.op (.iaddr e y z) = true) (r : RelT tb F w t a) (h : evp t (.iaddr e y z) = some x) : PureRun P tb F w o a x := by
  unfold PureRun execOp
  cases ho : o.op <;> rw [ho] at hc <;> simp only [chkOp, Bool.false_eq_true, Bool.and_eq_true] at hc
  rename_i ty y' z'
  obtain ⟨⟨h0, h1⟩, h2⟩ := hc
  split at h0
  · rename_i el hel
    have hsz := of_decide_eq_true h0
    have r1 := od_sound r h1
    have r2 := od_sound r h2
    simp only [evp] at h
    split at h
    · rename_i rows i hx hi
      split at h
      · rename_i hcond
        obtain ⟨c1, c2, c3⟩ := hcond
        cases h
        obtain ⟨k, hk⟩ := int_rel hi r2
        rw [hx] at r1
        simp only [RelV] at r1
        obtain ⟨A, cap, e', hu, hcap, hro⟩ := r1
        have hget : rows[i.toNat]? = some (rows.getD i.toNat []) := by simp [c2]
        obtain ⟨g1, ad, rfl, g2, g3⟩ := ROrows_get hro hget
        have he : e' = e := by rw [← g1, c3]
        subst he
        refine ⟨_, val_run (by rw [hu, hk]; exact indexAt_run hel hsz ad _ _ k i c1 c2), ?_⟩
        simp only [RelV]
        refine ⟨_, rfl, by rw [add_block]; exact g2, ROcells_shift ad _ _ 0 ?_⟩
        simpa using g3
      · cases h
    · rename_i n b cap off len k i hx hi
      split at h
      · rename_i hcond
        obtain ⟨c1, c2, c3⟩ := hcond
        cases h
        obtain ⟨k', hk⟩ := int_rel hi r2
        rw [hx] at r1
        simp only [RelV, Hdr] at r1
        obtain ⟨A, hu, hcap, hb, hA⟩ := r1
        have hA' : A = b.map (fun g => (⟨g, off * esz k, none⟩ : Addr)) := by
          rcases hA with hA | hA
          · exact hA
          · omega
        cases b with
        | none => have := hb rfl; omega
        | some g =>
          simp only [Option.map_some] at hA'
          subst hA'
          refine ⟨_, val_run (by rw [hu, hk]; exact indexAt_run hel hsz _ _ _ k' i c1 c2), ?_⟩
          simp only [RelV]
          refine ⟨g, rfl, ?_⟩
          rw [add_mk, c3, Nat.add_mul]
          simp
      · cases h
    · cases h
  · cases h0
theorem fieldPlace_run {f : Field} {n : Nat} (h : szOf P f.type = some n) (hn : n ≠ 0) (ad : Addr) : (fieldPlace ad f).run P w = .ok (ad.add f.offset) w := by
  simp [fieldPlace, sizeOf_run h, hn]
theorem s_faddr {off : Nat} {y : Od} (hc : chkOp P tb o.op (.faddr off y) = true) (r : RelT tb F w t a) (h : evp t (.faddr off y) = some x) : PureRun P tb F w o a x := by
  unfold PureRun execOp
  cases ho : o.op <;> rw [ho] at hc <;> simp only [chkOp, Bool.false_eq_true, Bool.and_eq_true] at hc
  rename_i ty y' i
  obtain ⟨h0, h1⟩ := hc
  split at h0
  · rename_i ft off' hf
    simp only [Bool.and_eq_true, decide_eq_true_eq] at h0
    obtain ⟨rfl, hsz⟩ := h0
    obtain ⟨fs, f, hu, hfs, hft, hoff⟩ := fld_of hf
    simp only at hft hoff
    have r1 := od_sound r h1
    have hrun : ∀ ad, a.eval y' = .pointer (some ad) → (Instr.fieldAt ty (a.eval y') i).run P w = .ok (.pointer (some (ad.add off'))) w := by
      intro ad had
      cases hs : szOf P ft with
      | none => simp [hs] at hsz
      | some n =>
        simp [hs] at hsz
        have := fieldPlace_run (P := P) (w := w) (f := f) (by rw [hft]; exact hs) hsz ad
        simp [Instr.fieldAt, run_underlying hu, hfs, had, Instr.sureAddr, this, hoff]
    simp only [evp] at h
    split at h
    · rename_i cs hx
      cases h
      rw [hx] at r1
      simp only [RelV] at r1
      obtain ⟨ad, hu', g1, g2⟩ := r1
      refine ⟨_, val_run (hrun ad hu'), ?_⟩
      simp only [RelV]
      refine ⟨_, rfl, by rw [add_block]; exact g1, ROcells_shift ad off' _ 0 ?_⟩
      have := ROcells_drop ad off' cs 0 g2
      simpa using this
    · rename_i n b k rr c hx
      cases h
      rw [hx] at r1
      simp only [RelV] at r1
      obtain ⟨g, rfl, hu'⟩ := r1
      refine ⟨_, val_run (hrun _ hu'), ?_⟩
      simp only [RelV]
      refine ⟨g, rfl, ?_⟩
      rw [add_mk, Nat.add_assoc]
    · cases h
  · cases h0
theorem s_fld {off sz : Nat} {agg : Bool} {y : Od} (hc : chkOp P tb o.op (.fld off sz agg y) = true) (r : RelT tb F w t a) (h : evp t (.fld off sz agg y) = some x) : PureRun P tb F w o a x := by
  unfold PureRun execOp
  cases ho : o.op <;> rw [ho] at hc <;> simp only [chkOp, Bool.false_eq_true, Bool.and_eq_true] at hc
  rename_i ty y' i
  obtain ⟨h0, h1⟩ := hc
  split at h0
  · rename_i ft off' hf
    simp only [Bool.and_eq_true, decide_eq_true_eq] at h0
    obtain ⟨⟨⟨rfl, hsz⟩, hagg⟩, hone⟩ := h0
    obtain ⟨fs, f, hu, hfs, hft, hoff⟩ := fld_of hf
    simp only at hft hoff
    have r1 := od_sound r h1
    simp only [evp] at h
    split at h
    · rename_i cs hx
      split at h
      · rename_i hle
        rw [hx] at r1
        simp only [RelV] at r1
        obtain ⟨us, hu', hrl⟩ := r1
        have hlen := RelL_length hrl
        have hrl2 := RelL_take sz (RelL_drop off' hrl)
        refine ⟨_, val_run ?_, one_sound h hrl2⟩
        cases agg
        · have hs1 : sz = 1 := by simpa using hone
          subst hs1
          have hlt : off' < us.length := by omega
          simp [Instr.field, run_underlying hu, hfs, hu', asAgg, part, hft, hoff, isAgg_run hagg, hlt, List.getElem?_drop]
        · have e1 : us.toArray.extract off' (off' + sz) = ((us.drop off').take sz).toArray := by
            apply Array.ext'
            simp
          simp [Instr.field, run_underlying hu, hfs, hu', asAgg, part, hft, hoff, isAgg_run hagg, sizeOf_run hsz]
      · cases h
    · cases h
  · cases h0
theorem s_sidx {y z : Od} (hc : chkOp P tb o.op (.sidx y z) = true) (r : RelT tb F w t a) (h : evp t (.sidx y z) = some x) : PureRun P tb F w o a x := by
  unfold PureRun execOp
  cases ho : o.op <;> rw [ho] at hc <;> simp only [chkOp, Bool.false_eq_true, Bool.and_eq_true] at hc
  rename_i ty y' z'
  obtain ⟨⟨h0, h1⟩, h2⟩ := hc
  have r1 := od_sound r h1
  have r2 := od_sound r h2
  simp only [evp] at h
  split at h
  · rename_i s i hx hi
    rw [hx] at r1
    simp only [RelV] at r1
    obtain ⟨k, hk⟩ := int_rel hi r2
    split at h
    · rename_i hlt
      split at h
      · rename_i h0'
        cases h
        refine ⟨_, val_run ?_, RelV_int⟩
        rw [r1, hk]
        simp [Instr.index, asIntOf, run_underlying (isS_of h0), h0', hlt]
      · cases h
    · cases h
  · cases h
theorem sliceBound_run {k : IntKind} {i : Int} {y : Nat} (h0 : 0 ≤ i) (h1 : i ≤ y) (c : BoundsCode) : (Instr.sliceBound (.int k i) y c).run P w = .ok i.toNat w := by
  simp [Instr.sliceBound, asIntOf, h0, h1]
theorem sliceBounds_run (isl : Bool) {len cap : Nat} {lo hi : Option Value} {l h : Option Int} (hl : (l = none ∧ lo = none) ∨ ∃ k n, l = some n ∧ lo = some (.int k n)) (hh : (h = none ∧ hi = none) ∨ ∃ k n, h = some n ∧ hi = some (.int k n))
    (hcap : len ≤ cap) (h0 : 0 ≤ l.getD 0) (h1 : l.getD 0 ≤ h.getD len) (h2 : h.getD len ≤ cap) :
    (Instr.sliceBounds isl len cap lo hi none).run P w = .ok ((l.getD 0).toNat, (h.getD len).toNat, cap) w := by
  rcases hh with ⟨rfl, rfl⟩ | ⟨k, n, rfl, rfl⟩
  · rcases hl with ⟨rfl, rfl⟩ | ⟨k', m, rfl, rfl⟩
    · simp [Instr.sliceBounds]
    · simp only [Option.getD_some, Option.getD_none] at *
      simp [Instr.sliceBounds, sliceBound_run h0 h1]
  · simp only [Option.getD_some] at *
    have hn : 0 ≤ n := by omega
    rcases hl with ⟨rfl, rfl⟩ | ⟨k', m, rfl, rfl⟩
    · simp [Instr.sliceBounds, sliceBound_run hn h2]
    · simp only [Option.getD_some] at *
      have h3 : m ≤ (n.toNat : Int) := by omega
      simp [Instr.sliceBounds, sliceBound_run hn h2, sliceBound_run h0 h3]
theorem s_ssl {y : Od} {lo hi : Option Od} (hc : chkOp P tb o.op (.ssl y lo hi) = true) (r : RelT tb F w t a) (h : evp t (.ssl y lo hi) = some x) : PureRun P tb F w o a x := by
  unfold PureRun execOp
  cases ho : o.op <;> rw [ho] at hc <;> simp only [chkOp, Bool.false_eq_true, Bool.and_eq_true] at hc
  rename_i ty y' lo' hi' mx
  obtain ⟨⟨⟨⟨h0, hm⟩, h1⟩, h2⟩, h3⟩ := hc
  have hm' : mx = none := by simpa using hm
  subst hm'
  have r1 := od_sound r h1
  simp only [evp] at h
  split at h
  · rename_i s l hh hx hl hh'
    rw [hx] at r1
    simp only [RelV] at r1
    split at h
    · rename_i hcond
      obtain ⟨c1, c2, c3⟩ := hcond
      cases h
      have b := sliceBounds_run (P := P) (w := w) false (len := s.size) (cap := s.size) (opt_rel r h2 hl) (opt_rel r h3 hh') (Nat.le_refl _) c1 c2 c3
      refine ⟨.string (s.extract (l.getD 0).toNat (hh.getD s.size).toNat), val_run ?_, by simp [RelV]⟩
      rw [r1]
      simp [Instr.sliceAt, Instr.slice, run_underlying (isS_of h0), b]
    · cases h
  · cases h
theorem s_sls {e : Nat} {y : Od} {lo hi : Option Od} (hc : chkOp P tb o.op (.sls e y lo hi) = true) (r : RelT tb F w t a) (h : evp t (.sls e y lo hi) = some x) : PureRun P tb F w o a x := by
  unfold PureRun execOp
  cases ho : o.op <;> rw [ho] at hc <;> simp only [chkOp, Bool.false_eq_true, Bool.and_eq_true] at hc
  rename_i ty y' lo' hi' mx
  obtain ⟨⟨⟨⟨h0, hm⟩, h1⟩, h2⟩, h3⟩ := hc
  split at h0
  · rename_i el hel
    have hsz := of_decide_eq_true h0
    have hm' : mx = none := by simpa using hm
    subst hm'
    have r1 := od_sound r h1
    have run : ∀ (A : Option Addr) (len cap l m : Nat), a.eval y' = .slice A len cap → (Instr.sliceBounds true len cap (lo'.map a.eval) (hi'.map a.eval) none).run P w = .ok (l, m, cap) w →
        (Instr.sliceAt ty (a.eval y') (lo'.map a.eval) (hi'.map a.eval) ((none : Option Operand).map a.eval)).run P w = .ok (.slice (if cap = l then A else A.map (·.add (l * e))) (m - l) (cap - l)) w := by
      intro A len cap l m hu hb
      simp [Instr.sliceAt, Instr.slice, run_underlying (el_of hel), hu, hb, sizeOf_run hsz]
    simp only [evp] at h
    split at h
    · rename_i rows l hh hx hl hh'
      rw [hx] at r1
      simp only [RelV] at r1
      obtain ⟨A, cap, e', hu, hcap, hro⟩ := r1
      split at h
      · rename_i hcond
        obtain ⟨⟨c1, c2, c3⟩, c4⟩ := hcond
        cases h
        have b := sliceBounds_run (P := P) (w := w) true (len := rows.length) (cap := cap) (opt_rel r h2 hl) (opt_rel r h3 hh') hcap c1 c2 (by omega)
        refine ⟨_, val_run (run A _ _ _ _ hu b), ?_⟩
        simp only [RelV]
        have hlen : ((rows.take (hh.getD rows.length).toNat).drop (l.getD 0).toNat).length = (hh.getD rows.length).toNat - (l.getD 0).toNat := by
          rw [List.length_drop, List.length_take]; omega
        have hro2 := ROrows_drop (l.getD 0).toNat _ 0 (ROrows_take (hh.getD rows.length).toNat rows 0 hro)
        by_cases hcl : cap = (l.getD 0).toNat
        · refine ⟨A, _, e', by rw [if_pos hcl, hlen], by rw [hlen]; omega, ?_⟩
          have hnil : (rows.take (hh.getD rows.length).toNat).drop (l.getD 0).toNat = [] := by
            apply List.eq_nil_of_length_eq_zero
            rw [hlen]; omega
          rw [hnil]
          simp [ROrows]
        · refine ⟨A.map (·.add ((l.getD 0).toNat * e)), _, e', by rw [if_neg hcl, hlen], by rw [hlen]; omega, ?_⟩
          by_cases hnil : (rows.take (hh.getD rows.length).toNat).drop (l.getD 0).toNat = []
          · rw [hnil]; simp [ROrows]
          · cases A with
            | none =>
              exfalso
              generalize hq : (rows.take (hh.getD rows.length).toNat).drop (l.getD 0).toNat = q at hro2 hnil
              cases q with
              | nil => exact hnil rfl
              | cons q qs => simp only [ROrows] at hro2; obtain ⟨_, ⟨ad, h', _⟩, _⟩ := hro2; cases h'
            | some ad =>
              have hee : e' = e := by
                cases rows with
                | nil => simp at hnil
                | cons q qs =>
                  simp only [ROrows] at hro
                  simp at c4
                  rw [← hro.1, c4]
              subst hee
              refine ROrows_shift (l.getD 0).toNat _ 0 ?_
              simpa using hro2
      · cases h
    · rename_i n b cap off len k l hh hx hl hh'
      rw [hx] at r1
      simp only [RelV, Hdr] at r1
      obtain ⟨A, hu, hcap, hb, hA⟩ := r1
      split at h
      · rename_i hcond
        obtain ⟨rfl, c1, c2, c3⟩ := hcond
        cases h
        have bb := sliceBounds_run (P := P) (w := w) true (len := len) (cap := cap - off) (opt_rel r h2 hl) (opt_rel r h3 hh') (by omega) c1 c2 (by omega)
        refine ⟨_, val_run (run A _ _ _ _ hu bb), ?_⟩
        simp only [RelV, Hdr]
        refine ⟨_, by congr 1; omega, by omega, hb, ?_⟩
        by_cases hcl : cap - off = (l.getD 0).toNat
        · by_cases hz : off + (l.getD 0).toNat = 0
          · left
            rw [if_pos hcl]
            rcases hA with rfl | hA
            · rw [show off + (l.getD 0).toNat = off by omega]
            · omega
          · exact .inr (by omega)
        · left
          rw [if_neg hcl]
          rcases hA with rfl | hA
          · cases b with
            | none => rfl
            | some g => simp only [Option.map_some]; rw [add_mk, Nat.add_mul]
          · omega
      · cases h
    · cases h
  · cases h0
theorem s_load {sz : Nat} {agg : Bool} {y : Od} (hc : chkOp P tb o.op (.load sz agg y) = true) (r : RelT tb F w t a) (h : evp t (.load sz agg y) = some x) : PureRun P tb F w o a x := by
  unfold PureRun execOp
  cases ho : o.op <;> rw [ho] at hc <;> simp only [chkOp, Bool.false_eq_true, Bool.and_eq_true, decide_eq_true_eq] at hc
  rename_i ty y'
  obtain ⟨⟨⟨hsz, hagg⟩, hone⟩, h1⟩ := hc
  have r1 := od_sound r h1
  simp only [evp] at h
  split at h
  · rename_i cs hx
    split at h
    · rename_i hle
      rw [hx] at r1
      simp only [RelV] at r1
      obtain ⟨ad, hu, g1, g2⟩ := r1
      obtain ⟨xs, hxs, hone'⟩ := Option.bind_eq_some_iff.1 h
      have g3 : ROcells F w ad 0 (cs.take sz) := ROcells_take ad sz cs 0 g2
      obtain ⟨us, hc', hrl⟩ := roAVs_sound ad hxs g3
      have hlen := RelL_length hrl
      have hlx : xs.length = sz := by
        rw [roAVs_length hxs, List.length_take]; omega
      refine ⟨_, val_run ?_, one_sound hone' hrl⟩
      rw [hu]
      simp only [Instr.loadAt, Instr.sureAddr, Sem.run_bind, Sem.run_pure, Result.andThen_ok]
      exact loadVar_run hsz hagg hone ad us (by omega) (by simpa using hc') _ rfl
    · cases h
  · cases h
theorem s_ext {i : Nat} {y : Od} (hc : chkOp P tb o.op (.ext y i) = true) (r : RelT tb F w t a) (h : evp t (.ext y i) = some x) : PureRun P tb F w o a x := by
  unfold PureRun execOp
  cases ho : o.op <;> rw [ho] at hc <;> simp only [chkOp, Bool.false_eq_true, Bool.and_eq_true, decide_eq_true_eq] at hc
  obtain ⟨rfl, h1⟩ := hc
  have r1 := od_sound r h1
  simp only [evp] at h
  split at h
  · rename_i cs hx
    rw [hx] at r1
    simp only [RelV] at r1
    obtain ⟨us, hu, hrl⟩ := r1
    obtain ⟨u, hu2, hr⟩ := RelL_get _ _ hrl h
    refine ⟨u, val_run ?_, hr⟩
    rw [hu]
    simp [Instr.extract, hu2]
  · cases h
theorem s_mkf {f : Nat} {ys : List Od} (hc : chkOp P tb o.op (.mkf f ys) = true) (r : RelT tb F w t a) (h : evp t (.mkf f ys) = some x) : PureRun P tb F w o a x := by
  unfold PureRun execOp
  cases ho : o.op <;> rw [ho] at hc <;> simp only [chkOp, Bool.false_eq_true, Bool.and_eq_true] at hc
  rename_i fn first caps
  obtain ⟨⟨h0, h1⟩, h2⟩ := hc
  simp only [evp, Option.some.injEq] at h
  subst h
  split at h0
  · rename_i g
    simp only [Bool.and_eq_true, decide_eq_true_eq] at h0
    have hf : first = #[] := by simpa using h1
    have := ods_sound r h2
    refine ⟨_, val_run (v := .func (.func g) #[] (caps.toList.map a.eval).toArray) ?_, ?_⟩
    · subst hf
      simp only [Instr.makeFunc, Sem.run_pure]
      congr 2
      simp
      apply Array.ext'
      simp
    · simp only [RelV]
      exact ⟨_, by rw [h0.1], this⟩
  · cases h0
theorem RelL_setAt : ∀ {ys : List AV} {vs : List Value} (p : Nat) {xs : List AV} {us : List Value}, RelL tb F w xs us → RelL tb F w ys vs → RelL tb F w (setAt xs p ys) (setAt us p vs)
  | [], vs, p, xs, us, h, h' => by simp [RelL] at h'; subst h'; simpa [setAt] using h
  | y :: ys, vs, p, xs, us, h, h' => by
    simp only [RelL] at h'
    obtain ⟨v, vs', rfl, h1, h2⟩ := h'
    simp only [setAt]
    exact RelL_setAt (p + 1) (RelL_set p h h1) h2
theorem fold_setAt : ∀ (vs : List Value) (j off : Nat) (cells : Array Value), ((vs.zipIdx j).foldl (fun (cs : Array Value) (x : Value × Nat) => cs.setIfInBounds (off + x.2) x.1) cells).toList = setAt cells.toList (off + j) vs
  | [], j, off, cells => by simp [setAt]
  | v :: vs, j, off, cells => by
    simp only [List.zipIdx_cons, List.foldl_cons, setAt]
    rw [fold_setAt vs (j + 1) off]
    simp [Nat.add_assoc]
theorem fill_run (place : Nat → Option (Nat × Nat)) {t : Tm} {a : Act} (r : RelT tb F w t a) : ∀ (os : List (Nat × Operand)) (ds : List (Nat × Nat × Od)) (xs ys : List AV) (us : List Value), chkParts tb place os ds = true → bld t ds xs = some ys → RelL tb F w xs us →
    ∃ vs, Instr.fill place us.toArray (os.map fun (i, x) => (i, a.eval x)) = some (vs : List Value).toArray ∧ RelL tb F w ys vs
  | [], ds, xs, ys, us, hc, hb, h => by
    cases ds with
    | nil => simp [bld] at hb; subst hb; exact ⟨us, by simp [Instr.fill], h⟩
    | cons d ds => simp [chkParts] at hc
  | (i, ox) :: os, ds, xs, ys, us, hc, hb, h => by
    cases ds with
    | nil => simp [chkParts] at hc
    | cons d ds =>
      obtain ⟨off, sz, d⟩ := d
      simp only [chkParts, Bool.and_eq_true, decide_eq_true_eq] at hc
      obtain ⟨⟨hp, h1⟩, h2⟩ := hc
      simp only [bld] at hb
      split at hb
      · rename_i hcond
        obtain ⟨c1, c2, c3⟩ := hcond
        obtain ⟨vs, hv, hrl⟩ := flat_sound (od_sound r h1) c3
        have hl1 := RelL_length hrl
        have hl2 := RelL_length h
        obtain ⟨zs, hz, hz2⟩ := fill_run place r os ds _ ys _ h2 hb (RelL_setAt off h hrl)
        refine ⟨zs, ?_, hz2⟩
        simp only [List.map_cons, Instr.fill, hp, hv]
        rw [if_neg (by simp; omega)]
        rw [← hz]
        congr 1
        apply Array.ext'
        rw [← Array.foldl_toList]
        have := fold_setAt vs 0 off us.toArray
        simpa using this
      · cases hb
theorem zAV_sound : ∀ {vs : List Value} {zs : List AV}, zAV vs zs = true → RelL tb F w zs vs
  | [], [], _ => by simp [RelL]
  | v :: vs, z :: zs, h => by
    simp only [RelL]
    unfold zAV at h
    split at h
    · rename_i h1; cases h1
    · rename_i h1 h2
      cases h1
      cases h2
      exact ⟨_, _, rfl, by simp [RelV], zAV_sound h⟩
    · rename_i h1 h2
      cases h1
      cases h2
      simp only [Bool.and_eq_true] at h
      exact ⟨_, _, rfl, by simp [RelV, cval_eq h.1], zAV_sound h.2⟩
    · cases h
  | [], _ :: _, h => by simp [zAV] at h
  | v :: vs, [], h => by unfold zAV at h; split at h <;> simp_all
theorem places_run : ∀ (l : List Field), (∀ f ∈ l, ∃ s, szOf P f.type = some s) → ((l.toArray.mapM fun f => do pure (f.offset, ← sizeOf f.type) : Sem (Array (Nat × Nat)))).run P w = .ok (l.map fun f => (f.offset, (szOf P f.type).getD 0)).toArray w := by
  intro l hl
  rw [Array.mapM_eq_mapM_toList]
  have key : ((l.mapM fun f => do pure (f.offset, ← sizeOf f.type) : Sem (List (Nat × Nat)))).run P w = .ok (l.map fun f => (f.offset, (szOf P f.type).getD 0)) w := by
    induction l with
    | nil => simp
    | cons f l ih =>
      obtain ⟨s, hs⟩ := hl f (by simp)
      have := ih (fun g hg => hl g (by simp [hg]))
      simp only [List.mapM_cons, Sem.run_bind, sizeOf_run hs, Result.andThen_ok, Sem.run_pure, this, List.map_cons, hs, Option.getD_some]
  show ((l.mapM fun f => do pure (f.offset, ← sizeOf f.type) : Sem (List (Nat × Nat))) >>= (pure ∘ List.toArray)).run P w = _
  rw [Sem.run_bind, key]
  simp
theorem s_build {z : List AV} {ps : List (Nat × Nat × Od)} (hc : chkOp P tb o.op (.build z ps) = true) (r : RelT tb F w t a) (h : evp t (.build z ps) = some x) : PureRun P tb F w o a x := by
  unfold PureRun execOp
  cases ho : o.op <;> rw [ho] at hc <;> simp only [chkOp, Bool.false_eq_true] at hc
  rename_i ty ps'
  split at hc
  · rename_i fs vs hu hz
    simp only [Bool.and_eq_true] at hc
    obtain ⟨⟨h1, h2⟩, h3⟩ := hc
    simp only [evp] at h
    obtain ⟨ys, hys, rfl⟩ := Option.map_eq_some_iff.1 h
    unfold zOf at hz
    obtain ⟨z0, hz0, rfl⟩ := Option.map_eq_some_iff.1 hz
    obtain ⟨i0, hi0, hzz⟩ := Option.bind_eq_some_iff.1 hz0
    have hpl := places_run (P := P) (w := w) fs.toList (fun f hf => by have := List.all_eq_true.1 h3 f hf; exact Option.isSome_iff_exists.1 this)
    obtain ⟨zs, e1, e2⟩ := fill_run (F := F) (w := w) (fun i => (fs[i]?).bind fun f => (szOf P f.type).map fun s => (f.offset, s)) r ps'.toList ps z ys z0.cells.toList h2 hys (zAV_sound h1)
    refine ⟨.agg zs.toArray, val_run ?_, by simp only [RelV]; exact ⟨zs, rfl, e2⟩⟩
    have hzr : (zeroValue ty).run P w = .ok z0 w := by simp [zeroValue, typeInfo, hi0, hzz]
    have hf : ∀ (i : Nat), ((fs.toList.map fun f => (f.offset, (szOf P f.type).getD 0)).toArray)[i]? = (fs[i]?).bind fun f => (szOf P f.type).map fun s => (f.offset, s) := by
      intro i
      cases hfi : fs[i]? with
      | none => simp [hfi]
      | some f =>
        have hm : f ∈ fs.toList := by
          rw [Array.mem_toList_iff]
          exact Array.mem_of_getElem? hfi
        obtain ⟨s, hs⟩ := Option.isSome_iff_exists.1 (List.all_eq_true.1 h3 f hm)
        simp [hfi, hs]
    have e3 : Instr.fill (fun i => ((fs.toList.map fun f => (f.offset, (szOf P f.type).getD 0)).toArray)[i]?) z0.cells (ps'.map fun x => (x.1, a.eval x.2)).toList = some zs.toArray := by
      have : (fun (i : Nat) => ((fs.toList.map fun (f : Field) => (f.offset, (szOf P f.type).getD 0)).toArray)[i]?) = (fun (i : Nat) => (fs[i]?).bind fun (f : Field) => (szOf P f.type).map fun s => (f.offset, s)) := funext hf
      rw [this, Array.toList_map]
      simpa using e1
    simp only [Instr.build, Sem.run_bind, hzr, Result.andThen_ok, run_underlying hu, hpl, e3, Sem.run_pure]
  · cases hc
end
end Go.Proofs.AM
