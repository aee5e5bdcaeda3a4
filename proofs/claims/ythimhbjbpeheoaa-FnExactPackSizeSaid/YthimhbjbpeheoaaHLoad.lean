/- A part of the proof of 'FnExactPackSizeSaid' (HLoad): lemmas on an abstract machine for the program's functions. Conditions: none. -/
import Derived.Test.YthimhbjbpeheoaaHNew
set_option linter.unusedVariables false
set_option linter.unusedSimpArgs false
namespace Go.Proofs.AM
open Go.RowKit
variable {P : Program} {tb : Tab} {F K : Nat → Prop} {w : World}
theorem entry_open {e : Ent} {fp : List Nat} {g : Nat} (hE : OWe tb F w e fp) (hb : e.b = some g) {r c sz : Nat} (hr : r < e.rows.length) (hc : c + sz ≤ (e.rows.getD r []).length) :
    ∃ us f fr, OWl tb F w (((e.rows.getD r []).drop c).take sz) us f ∧ us.length = sz ∧ (∀ j u, us[j]? = some u → w.cell? ⟨g, r * esz e.k + c + j, none⟩ = some u) ∧ fp.Perm (fr ++ f) ∧ g ∈ fr ∧
      ∀ cs', OWl tb F w cs' us [] → OWe tb F w { e with rows := e.rows.set r (setAt (e.rows.getD r []) c cs') } fr := by
  unfold OWe at hE
  rw [hb] at hE
  obtain ⟨cur, f0, h1, h2, h3, h4, rfl, h6⟩ := hE
  generalize hrow : e.rows.getD r [] = row at hc ⊢
  have hsplit := mem_split_at e.rows r [] hr
  rw [hrow] at hsplit
  rw [hsplit] at h6
  rw [List.append_assoc] at h6
  obtain ⟨fA, f1, rfl, hA, h6⟩ := OWrows_append.1 h6
  obtain ⟨fr, fB, rfl, hR, hB⟩ := OWrows_append.1 h6
  simp only [OWrows] at hR
  obtain ⟨fr1, fr2, rfl, hrl, hcells, rfl⟩ := hR
  have hlenA : (e.rows.take r).length = r := by rw [List.length_take]; omega
  rw [hlenA] at hcells hB
  simp only [Nat.zero_add] at hcells hB
  simp only [List.length_singleton] at hB
  have hrow2 : row = row.take c ++ (row.drop c).take sz ++ row.drop (c + sz) := by
    rw [List.append_assoc, ← List.drop_drop, List.take_append_drop, List.take_append_drop]
  rw [hrow2, List.append_assoc] at hcells
  obtain ⟨fa, fm', rfl, ha, hcells⟩ := OWcells_append.1 hcells
  obtain ⟨fm, fb, rfl, hm, hbb⟩ := OWcells_append.1 hcells
  have hla : (row.take c).length = c := by rw [List.length_take]; omega
  have hlm : ((row.drop c).take sz).length = sz := by rw [List.length_take, List.length_drop]; omega
  rw [hla] at hm hbb
  rw [hlm] at hbb
  obtain ⟨us, hl, hus⟩ := OWcells_l hm
  have hlen := OWl_length hl
  refine ⟨us, fm, g :: (fA ++ ((fa ++ fb) ++ fB)), hl, by omega, fun j u hj => ?_, ?_, by simp, fun cs' hl' => ?_⟩
  · rw [cell_of_row w g _ cur _ _ h1]
    exact hus j u hj
  · rw [List.perm_iff_count]
    intro x
    simp only [List.cons_append, List.count_cons, List.count_append, List.append_nil]
    omega
  · have hlen' := OWl_length hl'
    unfold OWe
    simp only [hb]
    refine ⟨cur, fA ++ ((fa ++ fb) ++ fB), h1, h2, by simpa using h3, h4, rfl, ?_⟩
    have hset : e.rows.set r (setAt row c cs') = e.rows.take r ++ ([setAt row c cs'] ++ e.rows.drop (r + 1)) := by
      rw [List.set_eq_take_append_cons_drop, if_pos hr]; simp
    rw [hset]
    refine OWrows_append.2 ⟨fA, _, rfl, hA, ?_⟩
    rw [hlenA]
    simp only [Nat.zero_add]
    refine OWrows_append.2 ⟨_, fB, rfl, ?_, hB⟩
    simp only [OWrows]
    have hcs : c + cs'.length ≤ row.length := by omega
    refine ⟨fa ++ fb, [], by simp, by rw [setAt_spec _ _ _ hcs]; simp; omega, ?_, rfl⟩
    rw [setAt_spec _ _ _ hcs, List.append_assoc]
    refine OWcells_append.2 ⟨fa, _, rfl, ha, ?_⟩
    rw [hla]
    refine OWcells_append.2 ⟨[], fb, rfl, OWl_cells hl' hus, ?_⟩
    rw [← hlen', hlen, hlm]
    exact hbb
def hdrOf : Value → Option Nat × Nat
  | .slice (some a) _ cap => (some a.block, cap)
  | .slice none _ cap => (none, cap)
  | _ => (none, 0)
theorem opens_indep {d : Nat} {ch : Ch} {n : Nat} : ∀ {cs : List T} {j : Nat} {xs : List AV} {cs' : List T} {o o' o2 : Heap}, (opens d ch j cs).run o = some ((xs, cs'), o') → (∀ m, m ≠ n → o m = o2 m) → ∃ o2', (opens d ch j cs).run o2 = some ((xs, cs'), o2') ∧ ∀ m, m ≠ n → o' m = o2' m
  | [], j, xs, cs', o, o', o2, h, ho => by
    simp only [opens, run_ret2] at h ⊢
    obtain ⟨h, rfl⟩ := h
    exact ⟨o2, ⟨h, rfl⟩, ho⟩
  | c :: cs, j, xs, cs', o, o', o2, h, ho => by
    simp only [opens] at h ⊢
    obtain ⟨p, o1, h1, h⟩ := run_bind.1 h
    obtain ⟨q, o3, h3, h4⟩ := run_bind.1 h
    obtain ⟨xs1, cs1⟩ := q
    simp only [run_ret2] at h4
    obtain ⟨h4, rfl⟩ := h4
    have key : ∃ o21, (match c with
      | .v x => (.ret (.v x, .v x) : HM (AV × T))
      | .sl false k rows => .ret (.ro rows, .sl false k rows)
      | .al n b cap off len k => .ret (.ref n b cap off len k, .al n b cap off len k)
      | .sl true k rows => do
        lay (d * 8 + j) (some { b := (ch j).1, cap := (ch j).2, k := k, box := false, rows := rows })
        .ret (.ref (d * 8 + j) (ch j).1 (ch j).2 0 rows.length k, .al (d * 8 + j) (ch j).1 (ch j).2 0 rows.length k)
      | .junk => .ret (.junk, .junk)).run o2 = some (p, o21) ∧ ∀ m, m ≠ n → o1 m = o21 m := by
      cases c with
      | sl own k rows =>
        cases own
        · simp only [run_ret2] at h1 ⊢; exact ⟨o2, ⟨h1.1, rfl⟩, by rw [← h1.2]; exact ho⟩
        · simp only [run_layb, run_ret2] at h1 ⊢
          refine ⟨_, ⟨h1.1, rfl⟩, fun m hm => ?_⟩
          rw [← h1.2]
          simp only [upd]
          rw [ho m hm]
      | _ => simp only [run_ret2] at h1 ⊢; exact ⟨o2, ⟨h1.1, rfl⟩, by rw [← h1.2]; exact ho⟩
    obtain ⟨o21, k1, k2⟩ := key
    obtain ⟨o22, k3, k4⟩ := opens_indep h3 k2
    exact ⟨o22, run_bind.2 ⟨p, o21, k1, run_bind.2 ⟨(xs1, cs1), o22, k3, by simp only [run_ret2, and_true]; exact h4⟩⟩, k4⟩
theorem opens_sound {d : Nat} {ch : Ch} : ∀ {cs : List T} {j : Nat} {xs : List AV} {cs' : List T} {o o' : Heap} {fps : Nat → List Nat} {f fl : List Nat} {us : List Value}, (opens d ch j cs).run o = some ((xs, cs'), o') → HRel tb F K o fps (f ++ fl) w → OWl tb F w cs us f →
    (∀ i u, us[i]? = some u → ch (j + i) = hdrOf u) → RelL tb F w xs us ∧ OWl tb F w cs' us [] ∧ cs'.length = cs.length ∧ ∃ fps', HRel tb F K o' fps' fl w
  | [], j, xs, cs', o, o', fps, f, fl, us, h, hr, hl, hch => by
    simp only [opens, run_ret2] at h
    obtain ⟨h, rfl⟩ := h
    cases h
    simp only [OWl] at hl
    obtain ⟨rfl, rfl⟩ := hl
    exact ⟨by simp [RelL], by simp [OWl], rfl, fps, by simpa using hr⟩
  | c :: cs, j, xs, cs', o, o', fps, f, fl, us, h, hr, hl, hch => by
    simp only [opens] at h
    obtain ⟨p, o1, h1, h⟩ := run_bind.1 h
    obtain ⟨q, o3, h3, h4⟩ := run_bind.1 h
    obtain ⟨xs1, cs1⟩ := q
    obtain ⟨x, c'⟩ := p
    simp only [run_ret2] at h4
    obtain ⟨h4, rfl⟩ := h4
    cases h4
    simp only [OWl] at hl
    obtain ⟨u, us', f1, f2, rfl, rfl, hc1, hc2⟩ := hl
    have hch0 := hch 0 u (by simp)
    simp only [Nat.add_zero] at hch0
    have key : RelV tb F w x u ∧ OWc tb F w c' u [] ∧ ∃ fps1, HRel tb F K o1 fps1 (f2 ++ fl) w := by
      have hplain : f1 = [] → HRel tb F K o fps (f2 ++ fl) w := fun h0 => by subst h0; simpa using hr
      cases c with
      | v y =>
        simp only [run_ret2] at h1
        obtain ⟨h1, rfl⟩ := h1
        cases h1
        simp only [OWc] at hc1
        exact ⟨by simp [RelV, hc1.1], by simp only [OWc]; exact ⟨hc1.1, hc1.2.1, trivial⟩, fps, hplain hc1.2.2⟩
      | sl own k rows =>
        cases own
        · simp only [run_ret2] at h1
          obtain ⟨h1, rfl⟩ := h1
          cases h1
          simp only [OWc] at hc1
          exact ⟨by simp only [RelV]; exact hc1.2, by simp only [OWc]; exact ⟨trivial, hc1.2⟩, fps, hplain hc1.1⟩
        · simp only [run_layb, run_ret2] at h1
          obtain ⟨h1, rfl⟩ := h1
          cases h1
          simp only [OWc] at hc1
          rcases hc1 with ⟨rfl, rfl, rfl⟩ | ⟨g, cap, cur, fp', rfl, q1, q2, q3, q4, rfl, q5⟩
          · simp only [hdrOf] at hch0
            have hH : Hdr none k 0 0 0 (.slice none 0 0) := ⟨none, rfl, by omega, by simp, .inl (by simp)⟩
            simp only [hch0]
            refine ⟨by simp only [RelV]; exact hH, by simp only [OWc]; exact ⟨trivial, hH⟩, _, HRel.put (f := []) (by simpa using hr) _ ?_⟩
            unfold OWe
            exact ⟨rfl, rfl, rfl, rfl⟩
          · simp only [hdrOf] at hch0
            have hH : Hdr (some g) k 0 rows.length cap (.slice (some ⟨g, 0, none⟩) rows.length cap) := ⟨_, rfl, by omega, by simp, .inl (by simp)⟩
            simp only [hch0]
            refine ⟨by simp only [RelV]; exact hH, by simp only [OWc]; exact ⟨trivial, hH⟩, _, HRel.put (f := g :: fp') (by simpa using hr) _ ?_⟩
            unfold OWe
            exact ⟨cur, fp', q1, q2, q3, q4, rfl, q5⟩
      | al n b cap off len k =>
        simp only [run_ret2] at h1
        obtain ⟨h1, rfl⟩ := h1
        cases h1
        simp only [OWc] at hc1
        exact ⟨by simp only [RelV]; exact hc1.2, by simp only [OWc]; exact ⟨trivial, hc1.2⟩, fps, hplain hc1.1⟩
      | junk =>
        simp only [run_ret2] at h1
        obtain ⟨h1, rfl⟩ := h1
        cases h1
        simp only [OWc] at hc1
        exact ⟨by simp [RelV], by simp only [OWc]; exact ⟨trivial, hc1.2⟩, fps, hplain hc1.1⟩
    obtain ⟨k1, k2, fps1, k3⟩ := key
    obtain ⟨g1, g2, g3, fps2, g4⟩ := opens_sound h3 k3 hc2 (fun i v hi => by have := hch (i + 1) v (by simpa using hi); rwa [show j + (i + 1) = j + 1 + i by omega] at this)
    exact ⟨by simp only [RelL]; exact ⟨u, us', rfl, k1, g1⟩, by simp only [OWl]; exact ⟨u, us', [], [], rfl, rfl, k2, g2⟩, by simp [g3], fps2, g4⟩
theorem opens_plain {d : Nat} {ch : Ch} : ∀ {cs : List T} {j : Nat} {o : Heap}, owns cs = false → (opens d ch j cs).run o = some ((cs.map readC, cs), o)
  | [], j, o, h => rfl
  | c :: cs, j, o, h => by
    have h2 : owns cs = false := by
      cases c with
      | sl own k rows => cases own <;> simp [owns] at h; exact h
      | _ => simpa [owns] using h
    refine run_bind.2 ⟨(readC c, c), o, ?_, run_bind.2 ⟨(cs.map readC, cs), o, opens_plain h2, rfl⟩⟩
    cases c with
    | sl own k rows => cases own <;> first | rfl | simp [owns] at h
    | _ => rfl
section
variable {G : Gam} {d : Nat} {o : Oper} {t : Tm} {a : Act} {hp hp' : Heap} {fps : Nat → List Nat} {x : AV}
theorem s_loadH {sz : Nat} {agg : Bool} {y : Od} (hc : chkOp P tb o.op (.load sz agg y) = true) (r : RelT tb F w t a) (hr : HRel tb F K hp fps [] w) (hev : evp t (.load sz agg y) = none) :
    ∃ ch : Ch, ∀ x hp', (opSem G d ch t (.load sz agg y)).run hp = some (x, hp') → HRun P tb F K w fps o a x hp' := by
  cases ho : o.op <;> rw [ho] at hc <;> simp only [chkOp, Bool.false_eq_true, Bool.and_eq_true, decide_eq_true_eq] at hc
  rename_i ty y'
  obtain ⟨⟨⟨hsz, hagg⟩, hone⟩, h1⟩ := hc
  have r1 := od_sound r h1
  cases hx : ev t y with
  | rptr cs =>
    refine ⟨fun _ => (none, 0), fun x hp' h => ?_⟩
    simp only [opSem, hx] at h
    simp only [evp, hx] at hev
    split at h
    · rename_i hle
      simp only [hle, if_true] at hev
      rw [hev] at h
      simp [run_orFail] at h
    · simp [run_fail] at h
  | ptr n b k rr c =>
    rw [hx] at r1
    simp only [RelV] at r1
    obtain ⟨g, rfl, hu⟩ := r1
    cases hn : hp n with
    | none =>
      refine ⟨fun _ => (none, 0), fun x hp' h => ?_⟩
      simp only [opSem, hx, run_askb, hn] at h
      obtain ⟨e, h, _⟩ := h
      cases h
    | some e =>
      by_cases hcond : ((decide (e.b = some g) && decide (e.k = k) && decide (rr < e.rows.length) && decide (c + sz ≤ (e.rows.getD rr []).length)) = true)
      · have hcond' := hcond
        simp only [Bool.and_eq_true, decide_eq_true_eq] at hcond'
        obtain ⟨⟨⟨q1, q2⟩, q3⟩, q4⟩ := hcond'
        have hE := hr.ents n e hn
        obtain ⟨us, f, fr, hl, hlen, hcell, hperm, hg, hput⟩ := entry_open hE q1 q3 q4
        refine ⟨fun j => hdrOf (us.getD j undef), fun x hp' h => ?_⟩
        unfold HRun execOp
        simp only [opSem, hx, run_askb, run_needb, hn] at h
        obtain ⟨e', he', _, h⟩ := h
        cases he'
        have hnew : ∃ xs cs' o1, (opens d (fun j => hdrOf (us.getD j undef)) 0 (((e.rows.getD rr []).drop c).take sz)).run hp = some ((xs, cs'), o1) ∧ one agg xs = some x ∧ upd o1 n (some { e with rows := e.rows.set rr (setAt (e.rows.getD rr []) c cs') }) = hp' := by
          split at h
          · rename_i how
            simp only [run_orFail] at h
            obtain ⟨h1, rfl⟩ := h
            refine ⟨_, _, hp, opens_plain how, h1, ?_⟩
            have hs : setAt (e.rows.getD rr []) c (((e.rows.getD rr []).drop c).take sz) = e.rows.getD rr [] := by
              have hle : (((e.rows.getD rr []).drop c).take sz).length = sz := by rw [List.length_take, List.length_drop]; omega
              rw [setAt_spec _ _ _ (by omega)]
              have h1 : c + (((e.rows.getD rr []).drop c).take sz).length = c + sz := by omega
              rw [h1, List.append_assoc, ← List.drop_drop, List.take_append_drop, List.take_append_drop]
            rw [hs]
            have he2 : e.rows.set rr (e.rows.getD rr []) = e.rows := by
              apply List.ext_getElem?
              intro j
              rw [List.getElem?_set]
              split
              · rename_i hj
                subst hj
                simp [List.getD_eq_getElem?_getD, List.getElem?_eq_getElem q3]
              · rfl
            rw [he2]
            funext m
            simp only [upd]
            split
            · rename_i hm; rw [hm, hn]
            · rfl
          · obtain ⟨p, o1, g1, hh⟩ := run_bind.1 h
            obtain ⟨xs, cs'⟩ := p
            have h9 : (orFail (one agg xs) >>= fun y => (lay n (some { e with rows := e.rows.set rr (setAt (e.rows.getD rr []) c cs') }) >>= fun _ => HM.ret y)).run o1 = some (x, hp') := hh
            rw [run_orFailb] at h9
            obtain ⟨y2, hy, h8⟩ := h9
            rw [run_layb, run_ret2] at h8
            obtain ⟨h6, h7⟩ := h8
            subst h6
            exact ⟨xs, cs', o1, g1, hy, h7⟩
        obtain ⟨xs, cs', o1, g1, hy, rfl⟩ := hnew
        have ht := hr.take n
        simp only [List.append_nil] at ht
        have ht2 := ht.perm (fl' := f ++ fr) (List.perm_append_comm.trans hperm.symm)
        obtain ⟨o2, g2, g3⟩ := opens_indep (n := n) (o2 := upd hp n none) g1 (fun m hm => (upd_ne _ _ hm).symm)
        obtain ⟨k1, k2, k3, fps', k4⟩ := opens_sound g2 ht2 hl (fun i u hi => by
          simp only [Nat.zero_add]
          rw [List.getD_eq_getElem?_getD, hi]
          rfl)
        have k5 := HRel.put (fl := []) (by simpa using k4) n (hput cs' k2)
        have e1 : upd o1 n (some { e with rows := e.rows.set rr (setAt (e.rows.getD rr []) c cs') }) = upd o2 n (some { e with rows := e.rows.set rr (setAt (e.rows.getD rr []) c cs') }) := by
          funext m
          by_cases hm : m = n
          · subst hm; simp [upd]
          · simp only [upd, hm, if_false]; exact g3 m hm
        rw [e1]
        refine ⟨.value (if agg then .agg us.toArray else us.getD 0 undef), w, _, ?_, .inl ⟨_, rfl, one_sound hy k1⟩, k5, Stp.refl _ _⟩
        rw [ho]
        refine val_run ?_
        rw [hu]
        simp only [Instr.loadAt, Instr.sureAddr, Sem.run_bind, Sem.run_pure, Result.andThen_ok]
        refine loadVar_run hsz hagg hone _ us hlen (fun j u hj => ?_) _ rfl
        rw [add_mk]
        rw [← q2]
        exact hcell j u hj
      · refine ⟨fun _ => (none, 0), fun x hp' h => ?_⟩
        simp only [opSem, hx, run_askb, run_needb, hn] at h
        obtain ⟨e', he', h', _⟩ := h
        cases he'
        exact absurd h' hcond
  | _ =>
    refine ⟨fun _ => (none, 0), fun x hp' h => ?_⟩
    simp [opSem, hx, run_fail] at h
end
end Go.Proofs.AM
