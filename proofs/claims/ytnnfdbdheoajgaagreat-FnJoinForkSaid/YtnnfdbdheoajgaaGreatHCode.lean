/- Lemmas of the proof (HCode), on an abstract machine. Conditions: none. -/
import Derived.Test.YtnnfdbdheoajgaaGreatHReg
import Derived.Deep.LoopGhost
set_option linter.unusedVariables false
set_option linter.unusedSimpArgs false
namespace Go.Proofs.AM
open Go.RowKit
def mz7 (P : Program) (tb : Tab) (N : Nat) : Code → IC → Bool
 | .skip, .skip => true
 | .region _ ops false, .reg ios => eJ7 P tb N ops.toList ops.toList ios
 | .region _ ops true, .drw ios inc => eJ7 P tb N ops.toList ops.toList ios && jk7 (Cr7 ops.toList []) ops.toList && wd7 (Cr7 ops.toList []) inc ios
 | .seq a b, .seq x y => mz7 P tb N a x && mz7 P tb N b y
 | .cond c a b, .cond d x y => bE7 tb c d && mz7 P tb N a x && mz7 P tb N b y
 | .block id a, .block id' x => id == id' && mz7 P tb N a x
 | .loop a, .loop x => mz7 P tb N a x
 | .exit id, .exit id' => id == id'
 | .ret, .ret => true
 | _, _ => false
def QV7 : Ex → Exit
 | .norm => .normal
 | .exit i => .exit i
 | .ret => .ret
section
variable {P : Program} {tb : Tab} {F K : Nat → Prop} {N : Nat} {w0 : World} {G : Gam}
theorem uO7 (hmix : P.follows .mixedOrders = true) (hG : dU7 P tb G) : ∀ (ic : IC) (c : Code) (QA : Ex → St → Prop) (Q : Exit → Act → World → Prop) (s : St) (a : Act) (w : World), mz7 P tb N c ic = true → awp G ic QA s → SRx tb F K N w0 s a w →
  (∀ e s' a' w', QA e s' → SRx tb F K N w0 s' a' w' → Q (QV7 e) a' w') → c.wp P Q a w := by
 intro ic
 induction ic with
 | skip =>
  intro c QA Q s a w hc h hs hQ
  cases c <;> simp only [mz7, Bool.false_eq_true] at hc
  exact wp_skip (hQ .norm s a w h hs)
 | reg ios =>
  intro c QA Q s a w hc h hs hQ
  cases c <;> try simp only [mz7, Bool.false_eq_true] at hc
  rename_i id ops b
  cases b
  ·exact wh7 (KK := QA .norm) hG hc (fun s' a' w' hk hs' => hQ .norm s' a' w' hk hs') hs h
  ·simp only [mz7, Bool.false_eq_true] at hc
 | drw ios inc =>
  intro c QA Q s a w hc h hs hQ
  cases c <;> try simp only [mz7, Bool.false_eq_true] at hc
  rename_i id ops b
  cases b
  ·simp only [mz7, Bool.false_eq_true] at hc
  ·simp only [mz7, Bool.and_eq_true] at hc
   exact wg7 (KK := QA .norm) hmix hG hc.1.1 hc.1.2 hc.2 (fun s' a' w' hk hs' => hQ .norm s' a' w' hk hs') hs h
 | seq x y ihx ihy =>
  intro c QA Q s a w hc h hs hQ
  cases c <;> simp only [mz7, Bool.false_eq_true, Bool.and_eq_true] at hc
  refine wp_seq (ihx _ _ _ s a w hc.1 h hs fun e s' a' w' hq hs' => ?_)
  cases e with
  | norm => exact ihy _ _ _ s' a' w' hc.2 hq hs' hQ
  | exit i => exact hQ (.exit i) s' a' w' hq hs'
  | ret => exact hQ .ret s' a' w' hq hs'
 | cond d x y ihx ihy =>
  intro c QA Q s a w hc h hs hQ
  cases c <;> simp only [mz7, Bool.false_eq_true, Bool.and_eq_true] at hc
  obtain ⟨⟨h1, h2⟩, h3⟩ := hc
  obtain ⟨F1, K1, hFF, hs'⟩ := hs
  have hr := aB7 hs'.rt h1
  have hs : SRx tb F K N w0 s a w := ⟨F1, K1, hFF, hs'⟩
  simp only [awp] at h
  split at h
  ·rename_i p hp
   rw [hp] at hr
   simp only [ay7] at hr
   refine wp_cond hr ?_
   cases p
   ·exact ihy _ _ _ s a w h3 (by simpa using h) hs hQ
   ·exact ihx _ _ _ s a w h2 (by simpa using h) hs hQ
  ·exact h.elim
 | block id x ih =>
  intro c QA Q s a w hc h hs hQ
  cases c <;> simp only [mz7, Bool.false_eq_true, Bool.and_eq_true, beq_iff_eq] at hc
  obtain ⟨rfl, hc⟩ := hc
  refine wp_block (ih _ _ _ s a w hc h hs fun e s' a' w' hq hs' => ?_)
  cases e with
  | norm => exact hQ .norm s' a' w' hq hs'
  | exit i =>
   show Exit.inBlock _ Q (.exit i) a' w'
   simp only [Exit.inBlock]
   split
   ·rename_i hi
    simp only [hi, if_true] at hq
    exact hQ .norm s' a' w' hq hs'
   ·rename_i hi
    simp only [hi, if_false] at hq
    exact hQ (.exit i) s' a' w' hq hs'
  | ret => exact hQ .ret s' a' w' hq hs'
 | loop x ih =>
  intro c QA Q s a w hc h hs hQ
  cases c <;> simp only [mz7, Bool.false_eq_true] at hc
  simp only [awp] at h
  obtain ⟨I, ⟨n0, h0⟩, hround⟩ := h
  refine wp_loop_ghost (fun n a w => ∃ s', I n s' ∧ SRx tb F K N w0 s' a w) n0 ⟨s, h0, hs⟩ fun n a1 w1 ⟨s1, hI, hs1⟩ => ?_
  refine ih _ _ _ s1 a1 w1 hc (hround n s1 hI) hs1 fun e s' a' w' hq hs' => ?_
  cases e with
  | norm =>
   obtain ⟨m, hm, hI'⟩ := hq
   exact ⟨m, hm, s', hI', hs'⟩
  | exit i => exact hQ (.exit i) s' a' w' hq hs'
  | ret => exact hQ .ret s' a' w' hq hs'
 | exit id =>
  intro c QA Q s a w hc h hs hQ
  cases c <;> simp only [mz7, Bool.false_eq_true, beq_iff_eq] at hc
  subst hc
  exact wp_exit (hQ (.exit _) s a w h hs)
 | ret =>
  intro c QA Q s a w hc h hs hQ
  cases c <;> simp only [mz7, Bool.false_eq_true] at hc
  exact wp_ret (hQ .ret s a w h hs)
 | ghost cl dr =>
  intro c QA Q s a w hc h hs hQ
  cases c <;> simp only [mz7, Bool.false_eq_true] at hc
variable {w : World}
theorem pH7 {kk : Option Nat} {x : AV} {c : T} {o o' : ak7} {fps : Nat → List Nat} {fl : List Nat} {u : Value} (h : (pj7 kk x).run o = some (c, o')) (hr : HRel tb F K o fps fl w) (hx : ay7 tb F w x u) :
  True ∧ ∃ f fps', OWc tb F w c u f ∧ HRel tb F K o' fps' (f ++ fl) w := by
 unfold pj7 at h
 split at h
 ·simp only [aa7] at h
  obtain ⟨rfl, rfl⟩ := h
  simp only [ay7] at hx
  exact ⟨trivial, [], fps, by simp only [OWc]; exact .inl ⟨trivial, hx, trivial⟩, by simpa using hr⟩
 ·simp only [aa7] at h
  obtain ⟨rfl, rfl⟩ := h
  simp only [ay7] at hx
  exact ⟨trivial, [], fps, by simp only [OWc]; exact ⟨trivial, hx⟩, by simpa using hr⟩
 ·rename_i A cap rows
  simp only [aa7] at h
  obtain ⟨rfl, rfl⟩ := h
  simp only [ay7] at hx
  exact ⟨trivial, [], fps, by simp only [OWc]; exact ⟨hx.1, rfl, trivial⟩, by simpa using hr⟩
 ·unfold y47 at h
  split at h
  ·simp only [ap7, aa7] at h
   obtain ⟨h1, rfl, rfl⟩ := h
   simp only [ay7] at hx
   exact ⟨trivial, [], fps, by simp only [OWc]; exact ⟨hx, h1, trivial⟩, by simpa using hr⟩
  ·simp only [aK7, ap7, aD7, aa7, Bool.and_eq_true, decide_eq_true_eq, Bool.not_eq_true'] at h
   obtain ⟨e, he, ⟨⟨⟨⟨⟨q1, q2⟩, q3⟩, q4⟩, q5⟩, q6⟩, rfl, rfl⟩ := h
   subst q3
   simp only [ay7] at hx
   obtain ⟨f, g1, g2, g3⟩ := jd7 hr he q1 q2 q6 q4 hx
   exact ⟨trivial, f, _, g1, g2⟩
  ·simp only [aK7, ap7, aD7, Bool.and_eq_true, decide_eq_true_eq] at h
   obtain ⟨e, he, ⟨⟨⟨⟨⟨⟨q1, q2⟩, q3⟩, q4⟩, q5⟩, q6⟩, q7⟩, h⟩ := h
   obtain ⟨row, o1, h1, h⟩ := run_bind.1 h
   simp only [aa7] at h
   obtain ⟨rfl, rfl⟩ := h
   subst q4
   subst q5
   simp only [ay7] at hx
   obtain ⟨g, rfl, rfl⟩ := hx
   have hE := hr.ents _ e he
   obtain ⟨fp', fps', c1, c2, c3, c4, g', cur, us, f, d1, d2, d3, rfl, d5, d6⟩ := ia7 hE q3 (hr.take _) h1
   rw [q1] at d1
   cases d1
   refine ⟨trivial, g :: f, fps', ?_, c2⟩
   unfold OWe at c1
   simp only [q1] at c1
   obtain ⟨cur', f', e1, e2, e3, e4, e5, e6⟩ := c1
   cases e5
   simp only [as7, Nat.zero_mul] at e6
   obtain ⟨f1, f2, e7, e8, e9, rfl⟩ := e6
   simp only [List.append_nil] at e7
   subst e7
   simp only [OWc]
   rw [← q2]
   exact ⟨g, cur', f, by simp, e1, by rw [e2, q7]; simp, e8, rfl, e9⟩
  ·simp only [am7] at h
theorem jU7 : ∀ {ks : List (Option Nat)} {xs : List AV} {cs : List T} {o o' : ak7} {fps : Nat → List Nat} {fl : List Nat} {us : List Value}, (jM7 ks xs).run o = some (cs, o') → HRel tb F K o fps fl w → aW7 tb F w xs us →
  True ∧ ∃ f fps', OWl tb F w cs us f ∧ HRel tb F K o' fps' (f ++ fl) w
 | [], [], cs, o, o', fps, fl, us, h, hr, hx => by
  simp only [jM7, aa7] at h
  obtain ⟨rfl, rfl⟩ := h
  simp only [aW7] at hx
  exact ⟨trivial, [], fps, by simp only [OWl]; exact ⟨hx, trivial⟩, by simpa using hr⟩
 | k :: ks, x :: xs, cs, o, o', fps, fl, us, h, hr, hx => by
  simp only [jM7] at h
  obtain ⟨c, o1, h1, h⟩ := run_bind.1 h
  obtain ⟨cs1, o2, h2, h3⟩ := run_bind.1 h
  simp only [aa7] at h3
  obtain ⟨rfl, rfl⟩ := h3
  simp only [aW7] at hx
  obtain ⟨u, us', rfl, hx1, hx2⟩ := hx
  obtain ⟨i1, f1, fps1, g1, g2⟩ := pH7 h1 hr hx1
  obtain ⟨i2, f2, fps2, k1, k2⟩ := jU7 h2 g2 hx2
  refine ⟨trivial, f1 ++ f2, fps2, by simp only [OWl]; exact ⟨u, us', f1, f2, rfl, rfl, g1, k1⟩, k2.perm ?_⟩
  rw [← List.append_assoc]
  exact List.Perm.append_right _ List.perm_append_comm
 | [], _ :: _, cs, o, o', fps, fl, us, h, hr, hx => by simp [jM7, am7] at h
 | _ :: _, [], cs, o, o', fps, fl, us, h, hr, hx => by simp [jM7, am7] at h
def MS7 (P : Program) : ResultVar → Nat ⊕ Nat × Nat → Bool
 | .tmp t, .inl n => t == n
 | .cell a t, .inr (n, sz) => a == n && decide (ha7 P t = some sz) && decide (rP7 P t = some true)
 | _, _ => false
def uP7 (P : Program) : List ResultVar → List (Nat ⊕ Nat × Nat) → Bool
 | [], [] => true
 | r :: rs, x :: xs => MS7 P r x && uP7 P rs xs
 | _, _ => false
def Bs7 (tmps : Array Value) : ResultVar → Sem Value
 | .tmp t => pure (tmps.getD t undef)
 | .cell a t => do loadVar t (← asAddr (tmps.getD a undef))
theorem mA7 {t : Tm} {a : Act} {rv : ResultVar} {r : Nat ⊕ Nat × Nat} {ks : List (Option Nat)} {x : Bool × List T} {o o' : ak7} {fps : Nat → List Nat} {fl : List Nat} (hc : MS7 P rv r = true) (h : (gN7 t r ks).run o = some (x, o')) (hr : HRel tb F K o fps fl w) (hrt : eS7 tb F w t a) :
  ∃ v us f fps', (Bs7 a.tmps rv).run P w = .ok v w ∧ Fy7 tb F w x v us f ∧ HRel tb F K o' fps' (f ++ fl) w := by
 unfold MS7 at hc
 split at hc
 ·rename_i t' n
  have hn : t' = n := by simpa using hc
  subst hn
  simp only [gN7] at h
  obtain ⟨cs, o1, h1, h⟩ := run_bind.1 h
  simp only [aa7] at h
  obtain ⟨rfl, rfl⟩ := h
  have hx := hrt.v t'
  have key : ∃ us, aW7 tb F w (he7 (t t')) us ∧ (if hX7 (t t') then a.tmps.getD t' undef = .agg us.toArray else us = [a.tmps.getD t' undef]) := by
   generalize t t' = y at *
   cases y with
   | agg cs =>
    simp only [ay7] at hx
    obtain ⟨us, hu, hrl⟩ := hx
    exact ⟨us, hrl, by simpa [hX7] using hu⟩
   | _ =>
    refine ⟨[a.tmps.getD t' undef], ?_, by simp [hX7]⟩
    simp only [he7, aW7]
    exact ⟨_, [], rfl, hx, rfl⟩
  obtain ⟨us, k1, k2⟩ := key
  obtain ⟨i1, f, fps', g1, g2⟩ := jU7 h1 hr k1
  refine ⟨a.tmps.getD t' undef, us, f, fps', by simp [Bs7], ⟨g1, ?_⟩, g2⟩
  exact k2
 ·rename_i t' ty n sz
  simp only [Bool.and_eq_true, beq_iff_eq, decide_eq_true_eq] at hc
  obtain ⟨⟨rfl, hsz⟩, hagg⟩ := hc
  simp only [gN7] at h
  split at h
  ·rename_i m b k hp
   simp only [aK7, ap7, aD7, Bool.and_eq_true, decide_eq_true_eq] at h
   obtain ⟨e, he, ⟨⟨⟨⟨q1, q2⟩, q3⟩, q4⟩, q5⟩, h⟩ := h
   obtain ⟨cs, o1, h1, h⟩ := run_bind.1 h
   simp only [aa7] at h
   obtain ⟨rfl, rfl⟩ := h
   have hx := hrt.v t'
   rw [hp] at hx
   simp only [ay7] at hx
   obtain ⟨g, rfl, hv⟩ := hx
   obtain ⟨fp', fps', c1, c2, c3, c4, g', cur, us, f, d1, d2, d3, rfl, d5, d6⟩ := ia7 (hr.ents m e he) q3 (hr.take m) h1
   rw [q1] at d1
   cases d1
   refine ⟨.agg us.toArray, us, f, fps', ?_, ⟨d3, by simp⟩, c2.sub (fun x hx => ?_) ?_⟩
   ·have hz : (0 * esz k + 0) = 0 := by omega
    rw [hz] at hv
    simp only [Bs7, hv, Sem.run_bind, asAddr, Sem.run_pure, Result.andThen_ok]
    refine fb7 hsz hagg (by simp) ⟨g, 0, none⟩ us ?_ (fun j u hj => ?_) _ (by simp)
    ·have e1 := bm7 d3
     have e2 : cs.length = sz := by
      rw [d5, ← q4]
      have hE := hr.ents m e he
      unfold OWe at hE
      rw [q1] at hE
      obtain ⟨cur', f0, _, _, _, _, _, e6⟩ := hE
      have hl := mY7 e6 (e.rows.getD 0 []) (by
       match hrows : e.rows with
       | [] => rw [hrows] at q3; simp at q3
       | r0 :: rs => simp)
      exact hl.symm
     omega
    ·rw [hg7, cell_of_row w g _ cur _ _ d2]
     have := d6 j u hj
     simpa using this
   ·simp only [List.cons_append, List.mem_cons]
    exact .inr hx
   ·have := c2.fnd
    simp only [List.cons_append, List.nodup_cons] at this
    exact this.2
  ·simp only [am7] at h
 ·cases hc
theorem hh7 {t : Tm} {a : Act} (hrt : eS7 tb F w t a) : ∀ {rvs : List ResultVar} {rs : List (Nat ⊕ Nat × Nat)} {kss : List (List (Option Nat))} {xs : List (Bool × List T)} {o o' : ak7} {fps : Nat → List Nat} {fl : List Nat}, uP7 P rvs rs = true → (dA7 t rs kss).run o = some (xs, o') → HRel tb F K o fps fl w →
  ∃ vs us f fps', (rvs.mapM (Bs7 a.tmps)).run P w = .ok vs w ∧ rU7 tb F w xs vs us f ∧ HRel tb F K o' fps' (f ++ fl) w
 | [], [], [], xs, o, o', fps, fl, hc, h, hr => by
  simp only [dA7, aa7] at h
  obtain ⟨rfl, rfl⟩ := h
  exact ⟨[], [], [], fps, by simp, by simp only [rU7]; exact ⟨trivial, trivial, trivial⟩, by simpa using hr⟩
 | rv :: rvs, r :: rs, ks :: kss, xs, o, o', fps, fl, hc, h, hr => by
  simp only [uP7, Bool.and_eq_true] at hc
  simp only [dA7] at h
  obtain ⟨x, o1, h1, h⟩ := run_bind.1 h
  obtain ⟨xs1, o2, h2, h3⟩ := run_bind.1 h
  simp only [aa7] at h3
  obtain ⟨rfl, rfl⟩ := h3
  obtain ⟨v, us, f, fps1, g1, g2, g3⟩ := mA7 hc.1 h1 hr hrt
  obtain ⟨vs, us2, f2, fps2, k1, k2, k3⟩ := hh7 hrt hc.2 h2 g3
  refine ⟨v :: vs, us ++ us2, f ++ f2, fps2, ?_, by simp only [rU7]; exact ⟨v, vs, us, us2, f, f2, rfl, rfl, rfl, g2, k2⟩, k3.perm ?_⟩
  ·simp only [List.mapM_cons, Sem.run_bind, g1, Result.andThen_ok, k1, Sem.run_pure]
  ·rw [← List.append_assoc]
   exact List.Perm.append_right _ List.perm_append_comm
 | [], _ :: _, _, xs, o, o', fps, fl, hc, h, hr => by simp [uP7] at hc
 | _ :: _, [], _, xs, o, o', fps, fl, hc, h, hr => by simp [uP7] at hc
 | [], [], _ :: _, xs, o, o', fps, fl, hc, h, hr => by simp [dA7, am7] at h
 | _ :: _, _ :: _, [], xs, o, o', fps, fl, hc, h, hr => by simp [dA7, am7] at h
theorem r17 {fn : Func} {tmps : Array Value} {vs : List Value} (h : (fn.results.toList.mapM (Bs7 tmps)).run P w = .ok vs w) : (results fn tmps).run P w = .ok (Cp7 vs) w := by
 unfold results
 rw [Sem.run_bind]
 have h2 : (fn.results.mapM (Bs7 tmps)).run P w = .ok vs.toArray w := by
  rw [Array.mapM_eq_mapM_toList]
  show ((fn.results.toList.mapM (Bs7 tmps)) >>= (pure ∘ List.toArray)).run P w = _
  rw [Sem.run_bind, h]
  rfl
 have h3 : ∀ f : ResultVar → Sem Value, (∀ x, f x = Bs7 tmps x) → (fn.results.mapM f).run P w = .ok vs.toArray w := fun f hf => by rw [funext hf]; exact h2
 rw [h3 _ (fun x => by cases x <;> rfl)]
 simp only [Result.andThen_ok, Sem.run_pure]
 match vs with
 | [] => rfl
 | [v] => rfl
 | v :: v2 :: vs => simp [Cp7]
theorem ll7 {cur : Array Value} : ∀ {cs : List T} {p : Nat} {fp : List Nat}, aq7 tb F w cur p cs fp → aq7 tb F w cur p (cs.map vL7) fp
 | [], p, fp, h => by simpa only [List.map_nil] using h
 | c :: cs, p, fp, h => by
  simp only [List.map_cons, aq7] at h ⊢
  obtain ⟨f1, f2, u, rfl, h1, h2, h3⟩ := h
  refine ⟨f1, f2, u, rfl, h1, ?_, ll7 h3⟩
  unfold vL7
  split
  ·simp only [OWc] at h2 ⊢
   exact ⟨h2.2.1, rfl, h2.1⟩
  ·exact h2
theorem r27 {e : Ent} {box : Bool} {row : List T} {fp : List Nat} (h : OWe tb F w ⟨e.b, e.cap, e.k, box, [row]⟩ fp) : OWe tb F w ⟨e.b, e.cap, e.k, box, [row.map vL7]⟩ fp := by
 unfold OWe at h ⊢
 simp only at h ⊢
 split at h
 ·rcases h with h | ⟨g, es, arr, clock, h1, _⟩
  ·exact absurd h.1 (by simp)
  ·simp [i97] at h1
 ·rename_i g hg
  obtain ⟨cur, fp', q1, q2, q3, q4, q5, q6⟩ := h
  refine ⟨cur, fp', q1, q2, q3, q4, q5, ?_⟩
  simp only [as7] at q6 ⊢
  obtain ⟨f1, f2, q7, q8, q9, q10⟩ := q6
  exact ⟨f1, f2, q7, by rw [List.length_map]; exact q8, ll7 q9, q10⟩
theorem hE7 {bs : Nat → Option Nat × Nat} {lc : Nat → Nat} : ∀ {i : Nat} {ins : List (Bool × Nat × Rows)} {es : List Ent} {as rs : List (Option Rows)} {o o' : ak7} {fps : Nat → List Nat} {fl : List Nat}, es.map (fun e => (e.box, e.k, e.rows)) = ins → (∀ (j : Nat) (e : Ent), es[j]? = some e → bs (i + j) = (e.b, e.cap)) → (kU7 bs lc i ins as).run o = some (rs, o') → HRel tb F K o fps fl w →
  es.length = rs.length ∧ ∃ f fps', eb7 tb F w (bh7 es rs) f ∧ HRel tb F K o' fps' (f ++ fl) w
 | i, [], es, [], rs, o, o', fps, fl, he, hb, h, hr => by
  simp only [kU7, aa7] at h
  obtain ⟨rfl, rfl⟩ := h
  have : es = [] := by simpa using he
  subst this
  exact ⟨rfl, [], fps, by simp [bh7, eb7], by simpa using hr⟩
 | i, [], es, _ :: _, rs, o, o', fps, fl, he, hb, h, hr => by simp [kU7, am7] at h
 | i, _ :: _, es, [], rs, o, o', fps, fl, he, hb, h, hr => by simp [kU7, am7] at h
 | i, (box, k, rows0) :: ins, [], _ :: _, rs, o, o', fps, fl, he, hb, h, hr => by simp at he
 | i, (box, k, rows0) :: ins, e :: es, none :: as, rs, o, o', fps, fl, he, hb, h, hr => by
  simp only [List.map_cons, List.cons.injEq, Prod.mk.injEq] at he
  obtain ⟨_, he⟩ := he
  simp only [kU7] at h
  obtain ⟨rs1, o2, h2, h3⟩ := run_bind.1 h
  simp only [aa7] at h3
  obtain ⟨rfl, rfl⟩ := h3
  obtain ⟨g1, f2, fps2, g2, g3⟩ := hE7 he (fun j x hj => by
   have := hb (j + 1) x (by simpa using hj)
   rwa [show i + (j + 1) = i + 1 + j by omega] at this) h2 hr
  refine ⟨by simp [g1], f2, fps2, ?_, g3⟩
  simp only [bh7, eb7]
  exact ⟨[], f2, rfl, by unfold OWe; exact .inl ⟨rfl, rfl, rfl, rfl⟩, g2⟩
 | i, (box, k, rows0) :: ins, e :: es, some _ :: as, rs, o, o', fps, fl, he, hb, h, hr => by
  simp only [List.map_cons, List.cons.injEq, Prod.mk.injEq] at he
  obtain ⟨⟨rfl, rfl, rfl⟩, he⟩ := he
  have hb0 := hb 0 e rfl
  simp only [Nat.add_zero] at hb0
  simp only [kU7, aK7, ap7, aD7, Bool.and_eq_true, decide_eq_true_eq, Bool.or_eq_true, Bool.not_eq_true'] at h
  obtain ⟨e', he', ⟨⟨⟨⟨q1, q2⟩, q3⟩, q4⟩, q5⟩, h⟩ := h
  obtain ⟨rows, o1, h1, h⟩ := run_bind.1 h
  obtain ⟨rs1, o2, h2, h3⟩ := run_bind.1 h
  simp only [aa7] at h3
  obtain ⟨rfl, rfl⟩ := h3
  rw [hb0] at q1 q2
  simp only at q1 q2
  have key : ∃ f1 fps1, OWe tb F w { e with rows := rows } f1 ∧ HRel tb F K o1 fps1 (f1 ++ fl) w := by
   have hE := hr.ents _ e' he'
   have ht := hr.take (lc i)
   cases hbx : e.box with
   | false =>
    rw [hbx] at h1
    simp only [Bool.false_eq_true, if_false, aa7] at h1
    obtain ⟨rfl, rfl⟩ := h1
    have : ({ b := e.b, cap := e.cap, k := e.k, box := false, rows := e'.rows } : Ent) = e' := by
     rw [← q1, ← q2, ← q3, ← hbx, ← q4]
    exact ⟨fps (lc i), _, by rw [this]; exact hE, ht⟩
   | true =>
    rw [hbx] at h1
    simp only [if_true] at h1
    obtain ⟨row, o3, h4, h5⟩ := run_bind.1 h1
    simp only [aa7] at h5
    obtain ⟨rfl, rfl⟩ := h5
    obtain ⟨fp', fps', c1, c2, _⟩ := ia7 hE (q5.resolve_left (by rw [hbx]; simp)) ht h4
    have : ({ b := e.b, cap := e.cap, k := e.k, box := true, rows := [row] } : Ent) = { e' with rows := [row] } := by
     rw [← q1, ← q2, ← q3, ← hbx, ← q4]
    exact ⟨fp', fps', r27 (by rw [this]; exact c1), c2⟩
  obtain ⟨f1, fps1, k1, k2⟩ := key
  obtain ⟨g1, f2, fps2, g2, g3⟩ := hE7 he (fun j x hj => by
   have := hb (j + 1) x (by simpa using hj)
   rwa [show i + (j + 1) = i + 1 + j by omega] at this) h2 k2
  refine ⟨by simp [g1], f1 ++ f2, fps2, by simp only [bh7, eb7]; exact ⟨f1, f2, rfl, k1, g2⟩, g3.perm ?_⟩
  rw [← List.append_assoc]
  exact List.Perm.append_right _ List.perm_append_comm
end
end Go.Proofs.AM
