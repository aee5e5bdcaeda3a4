/- A part of the proof of 'FnExactPackSizeSaid' (HCode): lemmas on an abstract machine for the program's functions. Conditions: none. -/
import Derived.Test.YthimhbjbpeheoaaHReg
import Derived.Deep.LoopGhost
set_option linter.unusedVariables false
set_option linter.unusedSimpArgs false
namespace Go.Proofs.AM
open Go.RowKit
def chkC (P : Program) (tb : Tab) (N : Nat) : Code → IC → Bool
  | .skip, .skip => true
  | .region _ ops false, .reg ios => chkIOps P tb N ops.toList ops.toList ios
  | .region _ ops true, .drw ios inc => chkIOps P tb N ops.toList ops.toList ios && chkMask (masks ops.toList []) ops.toList && chkInd (masks ops.toList []) inc ios
  | .seq a b, .seq x y => chkC P tb N a x && chkC P tb N b y
  | .cond c a b, .cond d x y => chkOd tb c d && chkC P tb N a x && chkC P tb N b y
  | .block id a, .block id' x => id == id' && chkC P tb N a x
  | .loop a, .loop x => chkC P tb N a x
  | .exit id, .exit id' => id == id'
  | .ret, .ret => true
  | _, _ => false
def exOf : Ex → Exit
  | .norm => .normal
  | .exit i => .exit i
  | .ret => .ret
section
variable {P : Program} {tb : Tab} {F K : Nat → Prop} {N : Nat} {w0 : World} {G : Gam}
theorem code_sound (hmix : P.follows .mixedOrders = true) (hG : AllGood P tb G) : ∀ (ic : IC) (c : Code) (QA : Ex → St → Prop) (Q : Exit → Act → World → Prop) (s : St) (a : Act) (w : World), chkC P tb N c ic = true → awp G ic QA s → SRx tb F K N w0 s a w →
    (∀ e s' a' w', QA e s' → SRx tb F K N w0 s' a' w' → Q (exOf e) a' w') → c.wp P Q a w := by
  intro ic
  induction ic with
  | skip =>
    intro c QA Q s a w hc h hs hQ
    cases c <;> simp only [chkC, Bool.false_eq_true] at hc
    exact wp_skip (hQ .norm s a w h hs)
  | reg ios =>
    intro c QA Q s a w hc h hs hQ
    cases c <;> try simp only [chkC, Bool.false_eq_true] at hc
    rename_i id ops b
    cases b
    · exact reg_sound (KK := QA .norm) hG hc (fun s' a' w' hk hs' => hQ .norm s' a' w' hk hs') hs h
    · simp only [chkC, Bool.false_eq_true] at hc
  | drw ios inc =>
    intro c QA Q s a w hc h hs hQ
    cases c <;> try simp only [chkC, Bool.false_eq_true] at hc
    rename_i id ops b
    cases b
    · simp only [chkC, Bool.false_eq_true] at hc
    · simp only [chkC, Bool.and_eq_true] at hc
      exact drw_sound (KK := QA .norm) hmix hG hc.1.1 hc.1.2 hc.2 (fun s' a' w' hk hs' => hQ .norm s' a' w' hk hs') hs h
  | seq x y ihx ihy =>
    intro c QA Q s a w hc h hs hQ
    cases c <;> simp only [chkC, Bool.false_eq_true, Bool.and_eq_true] at hc
    refine wp_seq (ihx _ _ _ s a w hc.1 h hs fun e s' a' w' hq hs' => ?_)
    cases e with
    | norm => exact ihy _ _ _ s' a' w' hc.2 hq hs' hQ
    | exit i => exact hQ (.exit i) s' a' w' hq hs'
    | ret => exact hQ .ret s' a' w' hq hs'
  | cond d x y ihx ihy =>
    intro c QA Q s a w hc h hs hQ
    cases c <;> simp only [chkC, Bool.false_eq_true, Bool.and_eq_true] at hc
    obtain ⟨⟨h1, h2⟩, h3⟩ := hc
    obtain ⟨F1, K1, hFF, hs'⟩ := hs
    have hr := od_sound hs'.rt h1
    have hs : SRx tb F K N w0 s a w := ⟨F1, K1, hFF, hs'⟩
    simp only [awp] at h
    split at h
    · rename_i p hp
      rw [hp] at hr
      simp only [RelV] at hr
      refine wp_cond hr ?_
      cases p
      · exact ihy _ _ _ s a w h3 (by simpa using h) hs hQ
      · exact ihx _ _ _ s a w h2 (by simpa using h) hs hQ
    · exact h.elim
  | block id x ih =>
    intro c QA Q s a w hc h hs hQ
    cases c <;> simp only [chkC, Bool.false_eq_true, Bool.and_eq_true, beq_iff_eq] at hc
    obtain ⟨rfl, hc⟩ := hc
    refine wp_block (ih _ _ _ s a w hc h hs fun e s' a' w' hq hs' => ?_)
    cases e with
    | norm => exact hQ .norm s' a' w' hq hs'
    | exit i =>
      show Exit.inBlock _ Q (.exit i) a' w'
      simp only [Exit.inBlock]
      split
      · rename_i hi
        simp only [hi, if_true] at hq
        exact hQ .norm s' a' w' hq hs'
      · rename_i hi
        simp only [hi, if_false] at hq
        exact hQ (.exit i) s' a' w' hq hs'
    | ret => exact hQ .ret s' a' w' hq hs'
  | loop x ih =>
    intro c QA Q s a w hc h hs hQ
    cases c <;> simp only [chkC, Bool.false_eq_true] at hc
    simp only [awp] at h
    obtain ⟨I, ⟨n0, h0⟩, hround⟩ := h
    refine wp_loop_ghost (fun n a w => ∃ s', I n s' ∧ SRx tb F K N w0 s' a w) n0 ⟨s, h0, hs⟩ fun n a1 w1 ⟨s1, hI, hs1⟩ => ?_
    refine ih _ _ _ s1 a1 w1 hc (hround n s1 hI) hs1 fun e s' a' w' hq hs' => ?_
    cases e with
    | norm =>
      obtain ⟨m, hm, hI'⟩ := hq
      exact ⟨m, hm, s', hI', hs'⟩
    | exit i => exact hQ (.exit i) s' a' w' hq hs'
    | ret => exact hQ .ret s' a' w' hq hs'
  | exit id =>
    intro c QA Q s a w hc h hs hQ
    cases c <;> simp only [chkC, Bool.false_eq_true, beq_iff_eq] at hc
    subst hc
    exact wp_exit (hQ (.exit _) s a w h hs)
  | ret =>
    intro c QA Q s a w hc h hs hQ
    cases c <;> simp only [chkC, Bool.false_eq_true] at hc
    exact wp_ret (hQ .ret s a w h hs)
  | ghost cl dr =>
    intro c QA Q s a w hc h hs hQ
    cases c <;> simp only [chkC, Bool.false_eq_true] at hc
variable {w : World}
theorem giveTk_sound {kk : Option Nat} {x : AV} {c : T} {o o' : Heap} {fps : Nat → List Nat} {fl : List Nat} {u : Value} (h : (giveTk kk x).run o = some (c, o')) (hr : HRel tb F K o fps fl w) (hx : RelV tb F w x u) :
    isCell x = true ∧ ∃ f fps', OWc tb F w c u f ∧ HRel tb F K o' fps' (f ++ fl) w := by
  unfold giveTk at h
  split at h
  · simp only [run_ret2] at h
    obtain ⟨rfl, rfl⟩ := h
    simp only [RelV] at hx
    exact ⟨rfl, [], fps, by simp only [OWc]; exact .inl ⟨trivial, hx, trivial⟩, by simpa using hr⟩
  · simp only [run_ret2] at h
    obtain ⟨rfl, rfl⟩ := h
    simp only [RelV] at hx
    exact ⟨rfl, [], fps, by simp only [OWc]; exact ⟨trivial, hx⟩, by simpa using hr⟩
  · unfold giveT at h
    split at h
    · simp only [run_needb, run_ret2] at h
      obtain ⟨h1, rfl, rfl⟩ := h
      simp only [RelV] at hx
      exact ⟨by simpa [isCell] using h1, [], fps, by simp only [OWc]; exact ⟨hx, h1, trivial⟩, by simpa using hr⟩
    · simp only [run_askb, run_needb, run_layb, run_ret2, Bool.and_eq_true, decide_eq_true_eq, Bool.not_eq_true'] at h
      obtain ⟨e, he, ⟨⟨⟨⟨⟨q1, q2⟩, q3⟩, q4⟩, q5⟩, q6⟩, rfl, rfl⟩ := h
      subst q3
      simp only [RelV] at hx
      obtain ⟨f, g1, g2, g3⟩ := move_sound hr he q1 q2 q6 q4 hx
      exact ⟨rfl, f, _, g1, g2⟩
    · simp only [run_fail] at h
theorem giveTs_sound : ∀ {ks : List (Option Nat)} {xs : List AV} {cs : List T} {o o' : Heap} {fps : Nat → List Nat} {fl : List Nat} {us : List Value}, (giveTs ks xs).run o = some (cs, o') → HRel tb F K o fps fl w → RelL tb F w xs us →
    xs.all isCell = true ∧ ∃ f fps', OWl tb F w cs us f ∧ HRel tb F K o' fps' (f ++ fl) w
  | [], [], cs, o, o', fps, fl, us, h, hr, hx => by
    simp only [giveTs, run_ret2] at h
    obtain ⟨rfl, rfl⟩ := h
    simp only [RelL] at hx
    exact ⟨rfl, [], fps, by simp only [OWl]; exact ⟨hx, trivial⟩, by simpa using hr⟩
  | k :: ks, x :: xs, cs, o, o', fps, fl, us, h, hr, hx => by
    simp only [giveTs] at h
    obtain ⟨c, o1, h1, h⟩ := run_bind.1 h
    obtain ⟨cs1, o2, h2, h3⟩ := run_bind.1 h
    simp only [run_ret2] at h3
    obtain ⟨rfl, rfl⟩ := h3
    simp only [RelL] at hx
    obtain ⟨u, us', rfl, hx1, hx2⟩ := hx
    obtain ⟨i1, f1, fps1, g1, g2⟩ := giveTk_sound h1 hr hx1
    obtain ⟨i2, f2, fps2, k1, k2⟩ := giveTs_sound h2 g2 hx2
    refine ⟨by simp [i1, i2], f1 ++ f2, fps2, by simp only [OWl]; exact ⟨u, us', f1, f2, rfl, rfl, g1, k1⟩, k2.perm ?_⟩
    rw [← List.append_assoc]
    exact List.Perm.append_right _ List.perm_append_comm
  | [], _ :: _, cs, o, o', fps, fl, us, h, hr, hx => by simp [giveTs, run_fail] at h
  | _ :: _, [], cs, o, o', fps, fl, us, h, hr, hx => by simp [giveTs, run_fail] at h
def chkR (P : Program) : ResultVar → Nat ⊕ Nat × Nat → Bool
  | .tmp t, .inl n => t == n
  | .cell a t, .inr (n, sz) => a == n && decide (szOf P t = some sz) && decide (aggOf P t = some true)
  | _, _ => false
def chkRs (P : Program) : List ResultVar → List (Nat ⊕ Nat × Nat) → Bool
  | [], [] => true
  | r :: rs, x :: xs => chkR P r x && chkRs P rs xs
  | _, _ => false
def res1 (tmps : Array Value) : ResultVar → Sem Value
  | .tmp t => pure (tmps.getD t undef)
  | .cell a t => do loadVar t (← asAddr (tmps.getD a undef))
theorem isAgg_cells {x : AV} {u : Value} {us : List Value} (hx : RelV tb F w x u) (hc : (flat x).all isCell = true) (hrl : RelL tb F w (flat x) us) : if isAgg' x then (∃ vs : List Value, u = .agg vs.toArray ∧ RelL tb F w (flat x) vs) else (RelL tb F w (flat x) [u]) := by
  cases x with
  | agg cs =>
    simp only [RelV] at hx
    simpa [isAgg', flat] using hx
  | _ =>
    simp only [isAgg', Bool.false_eq_true, if_false, flat, RelL]
    exact ⟨u, [], rfl, hx, rfl⟩
theorem results1_sound {t : Tm} {a : Act} {rv : ResultVar} {r : Nat ⊕ Nat × Nat} {ks : List (Option Nat)} {x : Bool × List T} {o o' : Heap} {fps : Nat → List Nat} {fl : List Nat} (hc : chkR P rv r = true) (h : (results1 t r ks).run o = some (x, o')) (hr : HRel tb F K o fps fl w) (hrt : RelT tb F w t a) :
    ∃ v us f fps', (res1 a.tmps rv).run P w = .ok v w ∧ ResV tb F w x v us f ∧ HRel tb F K o' fps' (f ++ fl) w := by
  unfold chkR at hc
  split at hc
  · rename_i t' n
    have hn : t' = n := by simpa using hc
    subst hn
    simp only [results1] at h
    obtain ⟨cs, o1, h1, h⟩ := run_bind.1 h
    simp only [run_ret2] at h
    obtain ⟨rfl, rfl⟩ := h
    have hx := hrt t'
    have key : ∃ us, RelL tb F w (flat (t t')) us ∧ (if isAgg' (t t') then a.tmps.getD t' undef = .agg us.toArray else us = [a.tmps.getD t' undef]) := by
      generalize t t' = y at *
      cases y with
      | agg cs =>
        simp only [RelV] at hx
        obtain ⟨us, hu, hrl⟩ := hx
        exact ⟨us, hrl, by simpa [isAgg'] using hu⟩
      | _ =>
        refine ⟨[a.tmps.getD t' undef], ?_, by simp [isAgg']⟩
        simp only [flat, RelL]
        exact ⟨_, [], rfl, hx, rfl⟩
    obtain ⟨us, k1, k2⟩ := key
    obtain ⟨i1, f, fps', g1, g2⟩ := giveTs_sound h1 hr k1
    refine ⟨a.tmps.getD t' undef, us, f, fps', by simp [res1], ⟨g1, ?_⟩, g2⟩
    exact k2
  · rename_i t' ty n sz
    simp only [Bool.and_eq_true, beq_iff_eq, decide_eq_true_eq] at hc
    obtain ⟨⟨rfl, hsz⟩, hagg⟩ := hc
    simp only [results1] at h
    split at h
    · rename_i m b k hp
      simp only [run_askb, run_needb, run_layb, Bool.and_eq_true, decide_eq_true_eq] at h
      obtain ⟨e, he, ⟨⟨⟨⟨q1, q2⟩, q3⟩, q4⟩, q5⟩, h⟩ := h
      obtain ⟨cs, o1, h1, h⟩ := run_bind.1 h
      simp only [run_ret2] at h
      obtain ⟨rfl, rfl⟩ := h
      have hx := hrt t'
      rw [hp] at hx
      simp only [RelV] at hx
      obtain ⟨g, rfl, hv⟩ := hx
      obtain ⟨fp', fps', c1, c2, c3, c4, g', cur, us, f, d1, d2, d3, rfl, d5, d6⟩ := box_close (hr.ents m e he) q3 (hr.take m) h1
      rw [q1] at d1
      cases d1
      refine ⟨.agg us.toArray, us, f, fps', ?_, ⟨d3, by simp⟩, c2.sub (fun x hx => ?_) ?_⟩
      · have hz : (0 * esz k + 0) = 0 := by omega
        rw [hz] at hv
        simp only [res1, hv, Sem.run_bind, asAddr, Sem.run_pure, Result.andThen_ok]
        refine loadVar_run hsz hagg (by simp) ⟨g, 0, none⟩ us ?_ (fun j u hj => ?_) _ (by simp)
        · have e1 := OWl_length d3
          have e2 : cs.length = sz := by
            rw [d5, ← q4]
            have hE := hr.ents m e he
            unfold OWe at hE
            rw [q1] at hE
            obtain ⟨cur', f0, _, _, _, _, _, e6⟩ := hE
            have hl := OWrows_len e6 (e.rows.getD 0 []) (by
              match hrows : e.rows with
              | [] => rw [hrows] at q3; simp at q3
              | r0 :: rs => simp)
            exact hl.symm
          omega
        · rw [add_mk, cell_of_row w g _ cur _ _ d2]
          have := d6 j u hj
          simpa using this
      · simp only [List.cons_append, List.mem_cons]
        exact .inr hx
      · have := c2.fnd
        simp only [List.cons_append, List.nodup_cons] at this
        exact this.2
    · simp only [run_fail] at h
  · cases hc
theorem resultsA_sound {t : Tm} {a : Act} (hrt : RelT tb F w t a) : ∀ {rvs : List ResultVar} {rs : List (Nat ⊕ Nat × Nat)} {kss : List (List (Option Nat))} {xs : List (Bool × List T)} {o o' : Heap} {fps : Nat → List Nat} {fl : List Nat}, chkRs P rvs rs = true → (resultsA t rs kss).run o = some (xs, o') → HRel tb F K o fps fl w →
    ∃ vs us f fps', (rvs.mapM (res1 a.tmps)).run P w = .ok vs w ∧ ResL tb F w xs vs us f ∧ HRel tb F K o' fps' (f ++ fl) w
  | [], [], [], xs, o, o', fps, fl, hc, h, hr => by
    simp only [resultsA, run_ret2] at h
    obtain ⟨rfl, rfl⟩ := h
    exact ⟨[], [], [], fps, by simp, by simp only [ResL]; exact ⟨trivial, trivial, trivial⟩, by simpa using hr⟩
  | rv :: rvs, r :: rs, ks :: kss, xs, o, o', fps, fl, hc, h, hr => by
    simp only [chkRs, Bool.and_eq_true] at hc
    simp only [resultsA] at h
    obtain ⟨x, o1, h1, h⟩ := run_bind.1 h
    obtain ⟨xs1, o2, h2, h3⟩ := run_bind.1 h
    simp only [run_ret2] at h3
    obtain ⟨rfl, rfl⟩ := h3
    obtain ⟨v, us, f, fps1, g1, g2, g3⟩ := results1_sound hc.1 h1 hr hrt
    obtain ⟨vs, us2, f2, fps2, k1, k2, k3⟩ := resultsA_sound hrt hc.2 h2 g3
    refine ⟨v :: vs, us ++ us2, f ++ f2, fps2, ?_, by simp only [ResL]; exact ⟨v, vs, us, us2, f, f2, rfl, rfl, rfl, g2, k2⟩, k3.perm ?_⟩
    · simp only [List.mapM_cons, Sem.run_bind, g1, Result.andThen_ok, k1, Sem.run_pure]
    · rw [← List.append_assoc]
      exact List.Perm.append_right _ List.perm_append_comm
  | [], _ :: _, _, xs, o, o', fps, fl, hc, h, hr => by simp [chkRs] at hc
  | _ :: _, [], _, xs, o, o', fps, fl, hc, h, hr => by simp [chkRs] at hc
  | [], [], _ :: _, xs, o, o', fps, fl, hc, h, hr => by simp [resultsA, run_fail] at h
  | _ :: _, _ :: _, [], xs, o, o', fps, fl, hc, h, hr => by simp [resultsA, run_fail] at h
theorem results_run {fn : Func} {tmps : Array Value} {vs : List Value} (h : (fn.results.toList.mapM (res1 tmps)).run P w = .ok vs w) : (results fn tmps).run P w = .ok (tupV vs) w := by
  unfold results
  rw [Sem.run_bind]
  have h2 : (fn.results.mapM (res1 tmps)).run P w = .ok vs.toArray w := by
    rw [Array.mapM_eq_mapM_toList]
    show ((fn.results.toList.mapM (res1 tmps)) >>= (pure ∘ List.toArray)).run P w = _
    rw [Sem.run_bind, h]
    rfl
  have h3 : ∀ f : ResultVar → Sem Value, (∀ x, f x = res1 tmps x) → (fn.results.mapM f).run P w = .ok vs.toArray w := fun f hf => by rw [funext hf]; exact h2
  rw [h3 _ (fun x => by cases x <;> rfl)]
  simp only [Result.andThen_ok, Sem.run_pure]
  match vs with
  | [] => rfl
  | [v] => rfl
  | v :: v2 :: vs => simp [tupV]
theorem outsA_sound {bs : Nat → Option Nat × Nat} : ∀ {i : Nat} {ins : List (Bool × Nat × Rows)} {es : List Ent} {rs : List Rows} {o o' : Heap} {fps : Nat → List Nat} {fl : List Nat}, es.map (fun e => (e.box, e.k, e.rows)) = ins → (∀ (j : Nat) (e : Ent), es[j]? = some e → bs (i + j) = (e.b, e.cap)) → (outsA bs i ins).run o = some (rs, o') → HRel tb F K o fps fl w →
    es.length = rs.length ∧ ∃ f fps', OWes tb F w (withRows es rs) f ∧ HRel tb F K o' fps' (f ++ fl) w
  | i, [], es, rs, o, o', fps, fl, he, hb, h, hr => by
    simp only [outsA, run_ret2] at h
    obtain ⟨rfl, rfl⟩ := h
    have : es = [] := by simpa using he
    subst this
    exact ⟨rfl, [], fps, by simp [withRows, OWes], by simpa using hr⟩
  | i, (box, k, rows0) :: ins, [], rs, o, o', fps, fl, he, hb, h, hr => by simp at he
  | i, (box, k, rows0) :: ins, e :: es, rs, o, o', fps, fl, he, hb, h, hr => by
    simp only [List.map_cons, List.cons.injEq, Prod.mk.injEq] at he
    obtain ⟨⟨rfl, rfl, rfl⟩, he⟩ := he
    have hb0 := hb 0 e rfl
    simp only [Nat.add_zero] at hb0
    simp only [outsA, run_askb, run_needb, run_layb, Bool.and_eq_true, decide_eq_true_eq, Bool.or_eq_true, Bool.not_eq_true'] at h
    obtain ⟨e', he', ⟨⟨⟨⟨q1, q2⟩, q3⟩, q4⟩, q5⟩, h⟩ := h
    obtain ⟨rows, o1, h1, h⟩ := run_bind.1 h
    obtain ⟨rs1, o2, h2, h3⟩ := run_bind.1 h
    simp only [run_ret2] at h3
    obtain ⟨rfl, rfl⟩ := h3
    rw [hb0] at q1 q2
    simp only at q1 q2
    have key : ∃ f1 fps1, OWe tb F w { e with rows := rows } f1 ∧ HRel tb F K o1 fps1 (f1 ++ fl) w := by
      have hE := hr.ents _ e' he'
      have ht := hr.take (i * 8)
      cases hbx : e.box with
      | false =>
        rw [hbx] at h1
        simp only [Bool.false_eq_true, if_false, run_ret2] at h1
        obtain ⟨rfl, rfl⟩ := h1
        have : ({ b := e.b, cap := e.cap, k := e.k, box := false, rows := e'.rows } : Ent) = e' := by
          rw [← q1, ← q2, ← q3, ← hbx, ← q4]
        exact ⟨fps (i * 8), _, by rw [this]; exact hE, ht⟩
      | true =>
        rw [hbx] at h1
        simp only [if_true] at h1
        obtain ⟨row, o3, h4, h5⟩ := run_bind.1 h1
        simp only [run_ret2] at h5
        obtain ⟨rfl, rfl⟩ := h5
        obtain ⟨fp', fps', c1, c2, _⟩ := box_close hE (q5.resolve_left (by rw [hbx]; simp)) ht h4
        have : ({ b := e.b, cap := e.cap, k := e.k, box := true, rows := [row] } : Ent) = { e' with rows := [row] } := by
          rw [← q1, ← q2, ← q3, ← hbx, ← q4]
        exact ⟨fp', fps', by rw [this]; exact c1, c2⟩
    obtain ⟨f1, fps1, k1, k2⟩ := key
    obtain ⟨g1, f2, fps2, g2, g3⟩ := outsA_sound he (fun j x hj => by
      have := hb (j + 1) x (by simpa using hj)
      rwa [show i + (j + 1) = i + 1 + j by omega] at this) h2 k2
    refine ⟨by simp [g1], f1 ++ f2, fps2, by simp only [withRows, OWes]; exact ⟨f1, f2, rfl, k1, g2⟩, g3.perm ?_⟩
    rw [← List.append_assoc]
    exact List.Perm.append_right _ List.perm_append_comm
end
end Go.Proofs.AM
