/- Lemmas of the proof (HLoad), on an abstract machine. Conditions: none. -/
import Derived.Test.YtnnfdbdheoajgaaGreatHNew
import Derived.Laws.BytesString
set_option linter.unusedVariables false
set_option linter.unusedSimpArgs false
namespace Go.Proofs.AM
open Go.RowKit
variable {P : Program} {tb : Tab} {F K : Nat → Prop} {w : World}
theorem ni7 {e : Ent} {fp : List Nat} {g : Nat} (hE : OWe tb F w e fp) (hb : e.b = some g) {r c sz : Nat} (hr : r < e.rows.length) (hc : c + sz ≤ (e.rows.getD r []).length) :
  ∃ us f fr, OWl tb F w (((e.rows.getD r []).drop c).take sz) us f ∧ us.length = sz ∧ (∀ j u, us[j]? = some u → w.cell? ⟨g, r * esz e.k + c + j, none⟩ = some u) ∧ fp.Perm (fr ++ f) ∧ g ∈ fr ∧
   ∀ cs', OWl tb F w cs' us [] → OWe tb F w { e with rows := e.rows.set r (bP7 (e.rows.getD r []) c cs') } fr := by
 unfold OWe at hE
 rw [hb] at hE
 obtain ⟨cur, f0, h1, h2, h3, h4, rfl, h6⟩ := hE
 generalize hrow : e.rows.getD r [] = row at hc ⊢
 have hsplit := d67 e.rows r [] hr
 rw [hrow] at hsplit
 rw [hsplit] at h6
 rw [List.append_assoc] at h6
 obtain ⟨fA, f1, rfl, hA, h6⟩ := av7.1 h6
 obtain ⟨fr, fB, rfl, hR, hB⟩ := av7.1 h6
 simp only [at7] at hR
 obtain ⟨fr1, fr2, rfl, hrl, hcells, rfl⟩ := hR
 have hlenA : (e.rows.take r).length = r := by rw [List.length_take]; omega
 rw [hlenA] at hcells hB
 simp only [Nat.zero_add] at hcells hB
 simp only [List.length_singleton] at hB
 have hrow2 : row = row.take c ++ (row.drop c).take sz ++ row.drop (c + sz) := by
  rw [List.append_assoc, ← List.drop_drop, List.take_append_drop, List.take_append_drop]
 rw [hrow2, List.append_assoc] at hcells
 obtain ⟨fa, fm', rfl, ha, hcells⟩ := aS7.1 hcells
 obtain ⟨fm, fb, rfl, hm, hbb⟩ := aS7.1 hcells
 have hla : (row.take c).length = c := by rw [List.length_take]; omega
 have hlm : ((row.drop c).take sz).length = sz := by rw [List.length_take, List.length_drop]; omega
 rw [hla] at hm hbb
 rw [hlm] at hbb
 obtain ⟨us, hl, hus⟩ := dn7 hm
 have hlen := bm7 hl
 refine ⟨us, fm, g :: (fA ++ ((fa ++ fb) ++ fB)), hl, by omega, fun j u hj => ?_, ?_, by simp, fun cs' hl' => ?_⟩
 ·rw [cell_of_row w g _ cur _ _ h1]
  exact hus j u hj
 ·rw [List.perm_iff_count]
  intro x
  simp only [List.cons_append, List.count_cons, List.count_append, List.append_nil]
  omega
 ·have hlen' := bm7 hl'
  unfold OWe
  simp only [hb]
  refine ⟨cur, fA ++ ((fa ++ fb) ++ fB), h1, h2, by simpa using h3, h4, rfl, ?_⟩
  have hset : e.rows.set r (bP7 row c cs') = e.rows.take r ++ ([bP7 row c cs'] ++ e.rows.drop (r + 1)) := by
   rw [List.set_eq_take_append_cons_drop, if_pos hr]; simp
  rw [hset]
  refine av7.2 ⟨fA, _, rfl, hA, ?_⟩
  rw [hlenA]
  simp only [Nat.zero_add]
  refine av7.2 ⟨_, fB, rfl, ?_, hB⟩
  simp only [at7]
  have hcs : c + cs'.length ≤ row.length := by omega
  refine ⟨fa ++ fb, [], by simp, by rw [cF7 _ _ _ hcs]; simp; omega, ?_, rfl⟩
  rw [cF7 _ _ _ hcs, List.append_assoc]
  refine aS7.2 ⟨fa, _, rfl, ha, ?_⟩
  rw [hla]
  refine aS7.2 ⟨[], fb, rfl, cb7 hl' hus, ?_⟩
  rw [← hlen', hlen, hlm]
  exact hbb
def cq7 : Value → Option Nat × Nat
 | .slice (some a) _ cap => (some a.block, cap)
 | .slice none _ cap => (none, cap)
 | .pointer (some a) => (some a.block, 1)
 | _ => (none, 0)
theorem lg7 {d : Nat} {ch : Ch} {n : Nat} : ∀ {cs : List T} {j : Nat} {xs : List AV} {cs' : List T} {o o' o2 : aj7}, (h87 d ch j cs).run o = some ((xs, cs'), o') → (∀ m, m ≠ n → o m = o2 m) → ∃ o2', (h87 d ch j cs).run o2 = some ((xs, cs'), o2') ∧ ∀ m, m ≠ n → o' m = o2' m
 | [], j, xs, cs', o, o', o2, h, ho => by
  simp only [h87, ab7] at h ⊢
  obtain ⟨h, rfl⟩ := h
  exact ⟨o2, ⟨h, rfl⟩, ho⟩
 | c :: cs, j, xs, cs', o, o', o2, h, ho => by
  simp only [h87] at h ⊢
  obtain ⟨p, o1, h1, h⟩ := run_bind.1 h
  obtain ⟨q, o3, h3, h4⟩ := run_bind.1 h
  obtain ⟨xs1, cs1⟩ := q
  simp only [ab7] at h4
  obtain ⟨h4, rfl⟩ := h4
  have key : ∃ o21, (match c with
   | .v x => (.ret (.v x, .v x) : HM (AV × T))
   | .sl false k rows => .ret (.ro rows, .sl false k rows)
   | .al n b cap off len k => .ret (.ref n b cap off len k, .al n b cap off len k)
   | .sl true k rows => do
    lay (d * 8 + j) (some { b := (ch j).1, cap := (ch j).2, k := k, box := false, rows := rows })
    .ret (.ref (d * 8 + j) (ch j).1 (ch j).2 0 rows.length k, .al (d * 8 + j) (ch j).1 (ch j).2 0 rows.length k)
   | .bx k row => .fail
   | .rw A cap rows => .ret (.ro rows, .rw A cap rows)
   | .junk => .ret (.junk, .junk)).run o2 = some (p, o21) ∧ ∀ m, m ≠ n → o1 m = o21 m := by
   cases c with
   | sl own k rows =>
    cases own
    ·simp only [ab7] at h1 ⊢; exact ⟨o2, ⟨h1.1, rfl⟩, by rw [← h1.2]; exact ho⟩
    ·simp only [aE7, ab7] at h1 ⊢
     refine ⟨_, ⟨h1.1, rfl⟩, fun m hm => ?_⟩
     rw [← h1.2]
     simp only [upd]
     rw [ho m hm]
   | bx k row => simp only [al7] at h1
   | _ => simp only [ab7] at h1 ⊢; exact ⟨o2, ⟨h1.1, rfl⟩, by rw [← h1.2]; exact ho⟩
  obtain ⟨o21, k1, k2⟩ := key
  obtain ⟨o22, k3, k4⟩ := lg7 h3 k2
  exact ⟨o22, run_bind.2 ⟨p, o21, k1, run_bind.2 ⟨(xs1, cs1), o22, k3, by simp only [ab7, and_true]; exact h4⟩⟩, k4⟩
theorem hC7 {d : Nat} {ch : Ch} : ∀ {cs : List T} {j : Nat} {xs : List AV} {cs' : List T} {o o' : aj7} {fps : Nat → List Nat} {f fl : List Nat} {us : List Value}, (h87 d ch j cs).run o = some ((xs, cs'), o') → HRel tb F K o fps (f ++ fl) w → OWl tb F w cs us f →
  (∀ i u, us[i]? = some u → ch (j + i) = cq7 u) → aW7 tb F w xs us ∧ OWl tb F w cs' us [] ∧ cs'.length = cs.length ∧ ∃ fps', HRel tb F K o' fps' fl w
 | [], j, xs, cs', o, o', fps, f, fl, us, h, hr, hl, hch => by
  simp only [h87, ab7] at h
  obtain ⟨h, rfl⟩ := h
  cases h
  simp only [OWl] at hl
  obtain ⟨rfl, rfl⟩ := hl
  exact ⟨by simp [aW7], by simp [OWl], rfl, fps, by simpa using hr⟩
 | c :: cs, j, xs, cs', o, o', fps, f, fl, us, h, hr, hl, hch => by
  simp only [h87] at h
  obtain ⟨p, o1, h1, h⟩ := run_bind.1 h
  obtain ⟨q, o3, h3, h4⟩ := run_bind.1 h
  obtain ⟨xs1, cs1⟩ := q
  obtain ⟨x, c'⟩ := p
  simp only [ab7] at h4
  obtain ⟨h4, rfl⟩ := h4
  cases h4
  simp only [OWl] at hl
  obtain ⟨u, us', f1, f2, rfl, rfl, hc1, hc2⟩ := hl
  have hch0 := hch 0 u (by simp)
  simp only [Nat.add_zero] at hch0
  have key : ay7 tb F w x u ∧ OWc tb F w c' u [] ∧ ∃ fps1, HRel tb F K o1 fps1 (f2 ++ fl) w := by
   have hplain : f1 = [] → HRel tb F K o fps (f2 ++ fl) w := fun h0 => by subst h0; simpa using hr
   cases c with
   | v y =>
    simp only [ab7] at h1
    obtain ⟨h1, rfl⟩ := h1
    cases h1
    simp only [OWc] at hc1
    exact ⟨by simp [ay7, hc1.1], by simp only [OWc]; exact ⟨hc1.1, hc1.2.1, trivial⟩, fps, hplain hc1.2.2⟩
   | sl own k rows =>
    cases own
    ·simp only [ab7] at h1
     obtain ⟨h1, rfl⟩ := h1
     cases h1
     simp only [OWc] at hc1
     exact ⟨by simp only [ay7]; exact hc1.2, by simp only [OWc]; exact ⟨trivial, hc1.2⟩, fps, hplain hc1.1⟩
    ·simp only [aE7, ab7] at h1
     obtain ⟨h1, rfl⟩ := h1
     cases h1
     simp only [OWc] at hc1
     rcases hc1 with ⟨rfl, rfl, rfl⟩ | ⟨g, cap, cur, fp', rfl, q1, q2, q3, q4, rfl, q5⟩
     ·simp only [cq7] at hch0
      have hH : Hdr none k 0 0 0 (.slice none 0 0) := ⟨none, rfl, by omega, by simp, .inl (by simp)⟩
      simp only [hch0]
      refine ⟨by simp only [ay7]; exact hH, by simp only [OWc]; exact ⟨trivial, hH⟩, _, HRel.put (f := []) (by simpa using hr) _ ?_⟩
      unfold OWe
      exact .inl ⟨rfl, rfl, rfl, rfl⟩
     ·simp only [cq7] at hch0
      have hH : Hdr (some g) k 0 rows.length cap (.slice (some ⟨g, 0, none⟩) rows.length cap) := ⟨_, rfl, by omega, by simp, .inl (by simp)⟩
      simp only [hch0]
      refine ⟨by simp only [ay7]; exact hH, by simp only [OWc]; exact ⟨trivial, hH⟩, _, HRel.put (f := g :: fp') (by simpa using hr) _ ?_⟩
      unfold OWe
      exact ⟨cur, fp', q1, q2, q3, q4, rfl, q5⟩
   | al n b cap off len k =>
    simp only [ab7] at h1
    obtain ⟨h1, rfl⟩ := h1
    cases h1
    simp only [OWc] at hc1
    exact ⟨by simp only [ay7]; exact hc1.2, by simp only [OWc]; exact ⟨trivial, hc1.2⟩, fps, hplain hc1.1⟩
   | bx k row => simp only [al7] at h1
   | rw A cap rows =>
    simp only [ab7] at h1
    obtain ⟨h1, rfl⟩ := h1
    cases h1
    simp only [OWc] at hc1
    obtain ⟨hf, q1, q2, e, q3⟩ := hc1
    exact ⟨by simp only [ay7]; exact ⟨A, cap, e, q1, q2, q3⟩, by simp only [OWc]; exact ⟨trivial, q1, q2, e, q3⟩, fps, hplain hf⟩
   | junk =>
    simp only [ab7] at h1
    obtain ⟨h1, rfl⟩ := h1
    cases h1
    simp only [OWc] at hc1
    exact ⟨by simp [ay7], by simp only [OWc]; exact ⟨trivial, hc1.2⟩, fps, hplain hc1.1⟩
  obtain ⟨k1, k2, fps1, k3⟩ := key
  obtain ⟨g1, g2, g3, fps2, g4⟩ := hC7 h3 k3 hc2 (fun i v hi => by have := hch (i + 1) v (by simpa using hi); rwa [show j + (i + 1) = j + 1 + i by omega] at this)
  exact ⟨by simp only [aW7]; exact ⟨u, us', rfl, k1, g1⟩, by simp only [OWl]; exact ⟨u, us', [], [], rfl, rfl, k2, g2⟩, by simp [g3], fps2, g4⟩
theorem lh7 {d : Nat} {ch : Ch} : ∀ {cs : List T} {j : Nat} {o : aj7}, wm7 cs = false → (h87 d ch j cs).run o = some ((cs.map u37, cs), o)
 | [], j, o, h => rfl
 | c :: cs, j, o, h => by
  have h2 : wm7 cs = false := by
   cases c with
   | sl own k rows => cases own <;> simp [wm7] at h; exact h
   | bx k row => simp [wm7] at h
   | _ => simpa [wm7] using h
  refine run_bind.2 ⟨(u37 c, c), o, ?_, run_bind.2 ⟨(cs.map u37, cs), o, lh7 h2, rfl⟩⟩
  cases c with
  | sl own k rows => cases own <;> first | rfl | simp [wm7] at h
  | bx k row => simp [wm7] at h
  | _ => rfl
section
variable {G : Gam} {d : Nat} {o : Oper} {t : Tm} {a : Act} {hp hp' : aj7} {fps : Nat → List Nat} {x : AV}
theorem CR7 {sz : Nat} {agg : Bool} {y : Od} (hc : aR7 P tb o.op (.load sz agg y) = true) (r : eR7 tb F w t a) (hr : HRel tb F K hp fps [] w) (hev : evp t (.load sz agg y) = none) :
  ∃ ch : Ch, ∀ x hp', (aB7 G d ch t (.load sz agg y)).run hp = some (x, hp') → oA7 P tb F K w fps o a x hp' := by
 cases ho : o.op <;> rw [ho] at hc <;> simp only [aR7, Bool.false_eq_true, Bool.and_eq_true, decide_eq_true_eq] at hc
 rename_i ty y'
 obtain ⟨⟨⟨hsz, hagg⟩, hone⟩, h1⟩ := hc
 have r1 := aC7 r h1
 cases hx : ev t y with
 | rptr cs =>
  refine ⟨fun _ => (none, 0), fun x hp' h => ?_⟩
  simp only [aB7, hx] at h
  simp only [evp, hx] at hev
  split at h
  ·rename_i hle
   simp only [hle, if_true] at hev
   rw [hev] at h
   simp [db7] at h
  ·simp [al7] at h
 | ptr n b k rr c =>
  rw [hx] at r1
  simp only [ay7] at r1
  obtain ⟨g, rfl, hu⟩ := r1
  cases hn : hp n with
  | none =>
   refine ⟨fun _ => (none, 0), fun x hp' h => ?_⟩
   simp only [aB7, hx, aK7, hn] at h
   obtain ⟨e, h, _⟩ := h
   cases h
  | some e =>
   by_cases hcond : ((decide (e.b = some g) && decide (e.k = k) && decide (rr < e.rows.length) && decide (c + sz ≤ (e.rows.getD rr []).length)) = true)
   ·have hcond' := hcond
    simp only [Bool.and_eq_true, decide_eq_true_eq] at hcond'
    obtain ⟨⟨⟨q1, q2⟩, q3⟩, q4⟩ := hcond'
    have hE := hr.ents n e hn
    obtain ⟨us, f, fr, hl, hlen, hcell, hperm, hg, hput⟩ := ni7 hE q1 q3 q4
    refine ⟨fun j => cq7 (us.getD j undef), fun x hp' h => ?_⟩
    unfold oA7 execOp
    simp only [aB7, hx, aK7, aq7, hn] at h
    obtain ⟨e', he', _, h⟩ := h
    cases he'
    have hnew : ∃ xs cs' o1, (h87 d (fun j => cq7 (us.getD j undef)) 0 (((e.rows.getD rr []).drop c).take sz)).run hp = some ((xs, cs'), o1) ∧ one agg xs = some x ∧ upd o1 n (some { e with rows := e.rows.set rr (bP7 (e.rows.getD rr []) c cs') }) = hp' := by
     split at h
     ·rename_i how
      simp only [db7] at h
      obtain ⟨h1, rfl⟩ := h
      refine ⟨_, _, hp, lh7 how, h1, ?_⟩
      have hs : bP7 (e.rows.getD rr []) c (((e.rows.getD rr []).drop c).take sz) = e.rows.getD rr [] := by
       have hle : (((e.rows.getD rr []).drop c).take sz).length = sz := by rw [List.length_take, List.length_drop]; omega
       rw [cF7 _ _ _ (by omega)]
       have h1 : c + (((e.rows.getD rr []).drop c).take sz).length = c + sz := by omega
       rw [h1, List.append_assoc, ← List.drop_drop, List.take_append_drop, List.take_append_drop]
      rw [hs]
      have he2 : e.rows.set rr (e.rows.getD rr []) = e.rows := by
       apply List.ext_getElem?
       intro j
       rw [List.getElem?_set]
       split
       ·rename_i hj
        subst hj
        simp [List.getD_eq_getElem?_getD, List.getElem?_eq_getElem q3]
       ·rfl
      rw [he2]
      funext m
      simp only [upd]
      split
      ·rename_i hm; rw [hm, hn]
      ·rfl
     ·obtain ⟨p, o1, g1, hh⟩ := run_bind.1 h
      obtain ⟨xs, cs'⟩ := p
      have h9 : (bZ7 (one agg xs) >>= fun y => (lay n (some { e with rows := e.rows.set rr (bP7 (e.rows.getD rr []) c cs') }) >>= fun _ => HM.ret y)).run o1 = some (x, hp') := hh
      rw [bE7] at h9
      obtain ⟨y2, hy, h8⟩ := h9
      rw [aE7, ab7] at h8
      obtain ⟨h6, h7⟩ := h8
      subst h6
      exact ⟨xs, cs', o1, g1, hy, h7⟩
    obtain ⟨xs, cs', o1, g1, hy, rfl⟩ := hnew
    have ht := hr.take n
    simp only [List.append_nil] at ht
    have ht2 := ht.perm (fl' := f ++ fr) (List.perm_append_comm.trans hperm.symm)
    obtain ⟨o2, g2, g3⟩ := lg7 (n := n) (o2 := upd hp n none) g1 (fun m hm => (cp7 _ _ hm).symm)
    obtain ⟨k1, k2, k3, fps', k4⟩ := hC7 g2 ht2 hl (fun i u hi => by
     simp only [Nat.zero_add]
     rw [List.getD_eq_getElem?_getD, hi]
     rfl)
    have k5 := HRel.put (fl := []) (by simpa using k4) n (hput cs' k2)
    have e1 : upd o1 n (some { e with rows := e.rows.set rr (bP7 (e.rows.getD rr []) c cs') }) = upd o2 n (some { e with rows := e.rows.set rr (bP7 (e.rows.getD rr []) c cs') }) := by
     funext m
     by_cases hm : m = n
     ·subst hm; simp [upd]
     ·simp only [upd, hm, if_false]; exact g3 m hm
    rw [e1]
    refine ⟨.value (if agg then .agg us.toArray else us.getD 0 undef), w, _, ?_, .inl ⟨_, rfl, if7 hy k1⟩, k5, Stp.refl _ _⟩
    rw [ho]
    refine bn7 ?_
    rw [hu]
    simp only [Instr.loadAt, Instr.sureAddr, Sem.run_bind, Sem.run_pure, Result.andThen_ok]
    refine fd7 hsz hagg hone _ us hlen (fun j u hj => ?_) _ rfl
    rw [hh7]
    rw [← q2]
    exact hcell j u hj
   ·refine ⟨fun _ => (none, 0), fun x hp' h => ?_⟩
    simp only [aB7, hx, aK7, aq7, hn] at h
    obtain ⟨e', he', h', _⟩ := h
    cases he'
    exact absurd h' hcond
 | _ =>
  refine ⟨fun _ => (none, 0), fun x hp' h => ?_⟩
  simp [aB7, hx, al7] at h
theorem hD7 : ∀ {cs : List T} {xs : List AV} {us : List Value} {f : List Nat}, ov7 cs = some xs → OWl tb F w cs us f → aW7 tb F w xs us
 | [], xs, us, f, h, hl => by
  simp only [ov7, Option.some.injEq] at h
  subst h
  simp only [OWl] at hl
  simp [aW7, hl.1]
 | c :: cs, xs, us, f, h, hl => by
  simp only [OWl] at hl
  obtain ⟨u, us', f1, f2, rfl, rfl, h1, h2⟩ := hl
  cases c with
  | v y =>
   simp only [ov7] at h
   obtain ⟨ys, hy, rfl⟩ := Option.map_eq_some_iff.1 h
   simp only [OWc] at h1
   simp only [aW7, ay7]
   exact ⟨_, _, rfl, h1.1, hD7 hy h2⟩
  | rw A cap rows =>
   simp only [ov7] at h
   obtain ⟨ys, hy, rfl⟩ := Option.map_eq_some_iff.1 h
   simp only [OWc] at h1
   simp only [aW7, ay7]
   exact ⟨_, _, rfl, h1.2.1, hD7 hy h2⟩
  | _ => simp [ov7] at h
theorem M77 {sz : Nat} {y : Od} {ch : Ch} (hc : aR7 P tb o.op (.ldr sz y) = true) (r : eR7 tb F w t a) (hr : HRel tb F K hp fps [] w) (h : (aB7 G d ch t (.ldr sz y)).run hp = some (x, hp')) : oA7 P tb F K w fps o a x hp' := by
 unfold oA7 execOp
 cases ho : o.op <;> rw [ho] at hc <;> simp only [aR7, Bool.false_eq_true, Bool.and_eq_true, decide_eq_true_eq] at hc
 rename_i ty y'
 obtain ⟨⟨hsz, hagg⟩, h1⟩ := hc
 have r1 := aC7 r h1
 simp only [aB7] at h
 split at h
 ·rename_i n b k rr c hx
  rw [hx] at r1
  simp only [ay7] at r1
  obtain ⟨g, rfl, hu⟩ := r1
  simp only [aK7, aq7, db7, Bool.and_eq_true, decide_eq_true_eq] at h
  obtain ⟨e, hn, ⟨⟨⟨q1, q2⟩, q3⟩, q4⟩, h, rfl⟩ := h
  obtain ⟨xs, hxs, rfl⟩ := Option.map_eq_some_iff.1 h
  obtain ⟨us, f, fr, hl, hlen, hcell, _⟩ := ni7 (hr.ents n e hn) q1 q3 q4
  refine ⟨.value (if true then .agg us.toArray else us.getD 0 undef), w, fps, ?_, .inl ⟨_, rfl, ?_⟩, hr, Stp.refl _ _⟩
  ·refine bn7 ?_
   rw [hu]
   simp only [Instr.loadAt, Instr.sureAddr, Sem.run_bind, Sem.run_pure, Result.andThen_ok]
   refine fd7 hsz hagg (by simp) _ us hlen (fun j u hj => ?_) _ rfl
   rw [hh7]
   rw [← q2]
   exact hcell j u hj
  ·simp only [if_true, ay7]
   exact ⟨us, rfl, hD7 hxs hl⟩
 ·simp only [al7] at h
theorem jV7 {cur : Array Value} {k : Nat} (hk : esz k = 1) : ∀ {rows : Rows} {ns : List Int} {i : Nat} {fp : List Nat}, na7 rows = some ns → at7 tb F w cur k i rows fp → ns.length = rows.length ∧ ∀ j u, (ns.map (Value.int .u8))[j]? = some u → cur[i + j]? = some u
 | [], ns, i, fp, h, r => by
  simp only [na7, Option.some.injEq] at h
  subst h
  simp
 | row :: rs, ns, i, fp, h, r => by
  unfold na7 at h
  split at h
  ·rename_i e; cases e
  ·rename_i n rs' e
   cases e
   obtain ⟨ms, hm, rfl⟩ := Option.map_eq_some_iff.1 h
   simp only [at7, ar7, OWc, hk, Nat.mul_one] at r
   obtain ⟨f1, f2, rfl, _, ⟨_, _, u, _, h1, ⟨rfl, _, _⟩, _⟩, h3⟩ := r
   obtain ⟨g1, g2⟩ := jV7 hk hm h3
   refine ⟨by simp [g1], fun j u hj => ?_⟩
   cases j with
   | zero => simp at hj; subst hj; simpa using h1
   | succ j =>
    have := g2 j u (by simpa using hj)
    rwa [show i + 1 + j = i + (j + 1) by omega] at this
  ·cases h
theorem CS7 {y : Od} {ch : Ch} (hc : aR7 P tb o.op (.bytes y) = true) (r : eR7 tb F w t a) (hr : HRel tb F K hp fps [] w) (h : (aB7 G d ch t (.bytes y)).run hp = some (x, hp')) : oA7 P tb F K w fps o a x hp' := by
 unfold oA7 execOp
 cases ho : o.op <;> rw [ho] at hc <;> simp only [aR7, Bool.false_eq_true, Bool.and_eq_true, decide_eq_true_eq] at hc
 rename_i src dst y'
 obtain ⟨h0, h1⟩ := hc
 have r1 := aC7 r h1
 simp only [aB7] at h
 split at h
 ·rename_i n b cap off len k hx
  rw [hx] at r1
  simp only [ay7, Hdr] at r1
  obtain ⟨A, hu, h2, h3, h4⟩ := r1
  simp only [aK7, aq7, Bool.and_eq_true, decide_eq_true_eq, Bool.not_eq_true'] at h
  obtain ⟨e, he, ⟨⟨⟨⟨⟨q1, q2⟩, q3⟩, q4⟩, q5⟩, q6⟩, h⟩ := h
  rw [bE7] at h
  obtain ⟨ns, hns, h⟩ := h
  rw [ab7] at h
  obtain ⟨rfl, rfl⟩ := h
  subst q3
  split at h0
  ·rename_i el e1 e2
   have e3 : P.underlying el = some (.int .u8) := by
    split at h0
    ·assumption
    ·cases h0
   have hE := hr.ents n e he
   unfold OWe at hE
   have hA : A = b.map (fun g => (⟨g, 0, none⟩ : Addr)) := by
    rcases h4 with h4 | h4
    ·simpa using h4
    ·exact absurd rfl h4.2
   refine ⟨.value (.string (MS7 ns)), w, fps, ?_, .inl ⟨_, rfl, by simp [ay7]⟩, hr, Stp.refl _ _⟩
   refine bn7 ?_
   rw [hu, run_convert_bytes_string w src dst el _ _ _ e1 e3 e2]
   cases b with
   | none =>
    have hrows : e.rows = [] := (gP7 (hr.ents n e he) q1 q5).1
    rw [hrows] at hns
    simp only [na7, Option.some.injEq] at hns
    subst hns
    simp [hA, Conv.bytesToString, Sem.run_pure, MS7]
   | some g =>
    rw [q1] at hE
    obtain ⟨cur, fp', g1, g2, g3, g4, g5, g6⟩ := hE
    rw [q2] at g6
    obtain ⟨k1, k2⟩ := jV7 q6 hns g6
    simp only [hA, Option.map_some]
    refine run_bytesToString w _ _ _ ns ?_
    rw [q4, ← k1, ← List.length_map (f := Value.int .u8)]
    refine run_loadCells_list (P := P) w _ _ fun j u hj => ?_
    rw [hh7, cell_of_row w g _ cur _ _ g1]
    have := k2 j u hj
    simpa using this
  ·cases h0
 ·simp only [al7] at h
end
end Go.Proofs.AM
