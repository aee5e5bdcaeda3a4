/- Lemmas of the proof (HDel), on an abstract machine. Conditions: none. -/
import Derived.Test.YtnnfdbdheoajgaaGreatHNew
import Derived.Test.YtnnfdbdheoajgaaGreatHApp
set_option linter.unusedVariables false
set_option linter.unusedSimpArgs false
namespace Go.Proofs.AM
open Go.RowKit
variable {P : Program} {tb : Tab} {F K : Nat → Prop} {w : World}
def tg7 : T → Bool
 | .v _ => true
 | .sl false _ _ => true
 | _ => false
theorem pk7 {rows : Rows} (h : eZ7 rows = true) : rows.flatten.all tg7 = true := by
 rw [List.all_flatten]
 refine Eq.trans (congrArg (fun p => rows.all p) (funext fun r => ?_)) h
 refine congrArg (fun p => r.all p) (funext fun c => ?_)
 cases c with
 | sl own k rs => cases own <;> rfl
 | _ => rfl
theorem kU7 : ∀ {cs : List T} {us : List Value} {f : List Nat}, cs.all tg7 = true → OWl tb F w cs us f → f = []
 | [], us, f, _, h => by simp only [OWl] at h; exact h.2
 | c :: cs, us, f, hp, h => by
  simp only [List.all_cons, Bool.and_eq_true] at hp
  simp only [OWl] at h
  obtain ⟨u, us', f1, f2, rfl, rfl, h1, h2⟩ := h
  rw [kU7 hp.2 h2]
  cases c with
  | v y => simp only [OWc] at h1; rw [h1.2.2]; rfl
  | sl own k rows =>
   cases own
   ·simp only [OWc] at h1; rw [h1.1]; rfl
   ·exact absurd hp.1 (by simp [tg7])
  | _ => exact absurd hp.1 (by simp [tg7])
theorem kV7 : ∀ {as bs : List T} {us : List Value} {f : List Nat}, OWl tb F w (as ++ bs) us f → ∃ u1 u2 f1 f2, us = u1 ++ u2 ∧ f = f1 ++ f2 ∧ OWl tb F w as u1 f1 ∧ OWl tb F w bs u2 f2
 | [], bs, us, f, h => ⟨[], us, [], f, rfl, rfl, by simp [OWl], by simpa using h⟩
 | a :: as, bs, us, f, h => by
  simp only [List.cons_append, OWl] at h
  obtain ⟨u, us', f1, f2, rfl, rfl, h1, h2⟩ := h
  obtain ⟨u1, u2, g1, g2, rfl, rfl, h3, h4⟩ := kV7 h2
  exact ⟨u :: u1, u2, f1 ++ g1, g2, rfl, by simp, by simp only [OWl]; exact ⟨u, u1, f1, g1, rfl, rfl, h1, h3⟩, h4⟩
theorem uW7 {cur us : List Value} {p j : Nat} (h : p + us.length ≤ cur.length) : (cur.take p ++ us ++ cur.drop (p + us.length))[j]? = if j < p then cur[j]? else if j < p + us.length then us[j - p]? else cur[j]? := by
 have hp : (cur.take p).length = p := by rw [List.length_take]; omega
 by_cases h1 : j < p
 ·rw [if_pos h1, List.append_assoc, List.getElem?_append_left (by omega), List.getElem?_take, if_pos h1]
 ·rw [if_neg h1]
  by_cases h2 : j < p + us.length
  ·rw [if_pos h2, List.append_assoc, List.getElem?_append_right (by omega), List.getElem?_append_left (by omega), hp]
  ·rw [if_neg h2, List.getElem?_append_right (by simp; omega), List.getElem?_drop]
   congr 1
   simp
   omega
theorem wk7 {e : Ent} {fp : List Nat} {g : Nat} (hE : OWe tb F w e fp) (hb : e.b = some g) (hp : eZ7 e.rows = true) (hgF : ¬ F g) {ys : Rows} {us : List Value} {p : Nat} (hly : ∀ r ∈ ys, r.length = esz e.k) (hu : OWl tb F w ys.flatten us []) (hpy : eZ7 ys = true) (hle : p + ys.length ≤ e.rows.length) :
  ∃ cur, w.heap[g]? = some (.cells cur (tb.ty e.k) (0, 0)) ∧ p * esz e.k + us.length ≤ cur.size ∧ fp = [g] ∧
   OWe tb F (w.setRow g (cur.toList.take (p * esz e.k) ++ us ++ cur.toList.drop (p * esz e.k + us.length)).toArray) { e with rows := e.rows.take p ++ ys ++ e.rows.drop (p + ys.length) } [g] := by
 unfold OWe at hE
 rw [hb] at hE
 obtain ⟨cur, fp', h1, h2, h3, h4, rfl, h6⟩ := hE
 obtain ⟨m1, m2⟩ := cz7.1 h6
 obtain ⟨vs, v1, v2⟩ := cJ7 m2
 have hf := kU7 (pk7 hp) v1
 subst hf
 have e3 : e.rows = e.rows.take p ++ ((e.rows.drop p).take ys.length ++ e.rows.drop (p + ys.length)) := by
  rw [← List.drop_drop, List.take_append_drop, List.take_append_drop]
 have v1' := v1
 rw [e3, List.flatten_append, List.flatten_append] at v1'
 obtain ⟨a1, a2, f1, f2, rfl, hff, b1, b2⟩ := kV7 v1'
 obtain ⟨a3, a4, f3, f4, rfl, hff2, b3, b4⟩ := kV7 b2
 have hf1 : f1 = [] := by cases f1 with | nil => rfl | cons x xs => cases hff
 have hf2 : f2 = [] := by subst hf1; simpa using hff.symm
 subst hf1 hf2
 have hf3 : f3 = [] := by cases f3 with | nil => rfl | cons x xs => cases hff2
 have hf4 : f4 = [] := by subst hf3; simpa using hff2.symm
 subst hf3 hf4
 have l1 := aY7 b1
 have l3 := aY7 b3
 have l4 := aY7 b4
 have ly := aY7 hu
 have n1 : (e.rows.take p).flatten.length = p * esz e.k := by
  rw [cA7 (k := esz e.k) fun q hq => m1 q (List.mem_of_mem_take hq), List.length_take, Nat.min_eq_left (by omega)]
 have n3 : ((e.rows.drop p).take ys.length).flatten.length = ys.length * esz e.k := by
  rw [cA7 (k := esz e.k) fun q hq => m1 q (List.mem_of_mem_drop (List.mem_of_mem_take hq)), List.length_take, List.length_drop, Nat.min_eq_left (by omega)]
 have ny : ys.flatten.length = ys.length * esz e.k := cA7 hly
 have nall : (p + ys.length) * esz e.k ≤ e.cap * esz e.k := Nat.mul_le_mul_right _ (by omega)
 rw [Nat.add_mul] at nall
 have hfit : p * esz e.k + us.length ≤ cur.size := by omega
 refine ⟨cur, h1, hfit, rfl, ?_⟩
 unfold OWe
 simp only [hb]
 have hFk : ∀ k, F k → (w.setRow g (cur.toList.take (p * esz e.k) ++ us ++ cur.toList.drop (p * esz e.k + us.length)).toArray).heap[k]? = w.heap[k]? := fun k hk => setRow_other w g k _ (fun e => hgF (e ▸ hk))
 refine ⟨_, [], setRow_heap w g cur _ _ _ h1, ?_, ?_, h4, rfl, ?_⟩
 ·simp only [List.size_toArray, List.length_append, List.length_take, List.length_drop, Array.length_toList]
  rw [← h2]
  omega
 ·simp only [List.length_append, List.length_take, List.length_drop]
  omega
 ·refine cz7.2 ⟨fun q hq => ?_, ?_⟩
  ·rcases List.mem_append.1 hq with hq | hq
   ·rcases List.mem_append.1 hq with hq | hq
    ·exact m1 q (List.mem_of_mem_take hq)
    ·exact hly q hq
   ·exact m1 q (List.mem_of_mem_drop hq)
  ·rw [List.flatten_append, List.flatten_append]
   have hall := dL7 (dL7 b1 hu) b4
   have hall' := e77 (w' := w.setRow g (cur.toList.take (p * esz e.k) ++ us ++ cur.toList.drop (p * esz e.k + us.length)).toArray) hFk (fun _ h => h) (fun k hk => by simp at hk) hall
   refine bV7 hall' fun j u hj => ?_
   rw [Nat.zero_mul, Nat.zero_add]
   rw [List.getElem?_toArray, uW7 (by simpa using hfit)]
   have v2' : ∀ j u, (a1 ++ (a3 ++ a4))[j]? = some u → cur.toList[j]? = some u := fun j u h => by
    have := v2 j u h
    rw [Nat.zero_mul, Nat.zero_add] at this
    rw [Array.getElem?_toList]
    exact this
   have q1 : a1.length = p * esz e.k := by omega
   by_cases c1 : j < p * esz e.k
   ·rw [if_pos c1]
    refine v2' j u ?_
    rw [List.append_assoc, List.getElem?_append_left (by omega)] at hj
    rw [List.getElem?_append_left (by omega)]
    exact hj
   ·rw [if_neg c1]
    by_cases c2 : j < p * esz e.k + us.length
    ·rw [if_pos c2]
     rw [List.append_assoc, List.getElem?_append_right (by omega), List.getElem?_append_left (by omega), q1] at hj
     exact hj
    ·rw [if_neg c2]
     refine v2' j u ?_
     rw [List.getElem?_append_right (by simp; omega)] at hj
     rw [List.getElem?_append_right (by omega), List.getElem?_append_right (by omega)]
     rw [← hj]
     congr 1
     simp
     omega
section
variable {G : Gam} {d : Nat} {o : Oper} {t : Tm} {a : Act} {hp hp' : ah7} {fps : Nat → List Nat} {x : AV}
theorem r57 {e : Ent} {fp : List Nat} (h : OWe tb F w e fp) (hbx : e.box = false) : e.rows.length ≤ e.cap := by
 cases heb : e.b with
 | none =>
  rw [(e37 h heb hbx).1]
  exact Nat.zero_le _
 | some g =>
  unfold OWe at h
  rw [heb] at h
  obtain ⟨cur, fp', h1, h2, h3, _⟩ := h
  exact h3
theorem ME7 {ch : Ch} {e : Nat} {y : Od} {lo hi : Option Od} (hc : aB7 P tb o.op (.slx e y lo hi) = true) (r : dK7 tb F w t a) (hr : HRel tb F K hp fps [] w) (h : (aq7 G d ch t (.slx e y lo hi)).run hp = some (x, hp')) : hU7 P tb F K w fps o a x hp' := by
 unfold hU7 execOp
 cases ho : o.op <;> rw [ho] at hc <;> simp only [aB7, Bool.false_eq_true, Bool.and_eq_true] at hc
 rename_i ty y' lo' hi' mx
 obtain ⟨⟨⟨⟨h0, hm⟩, h1⟩, h2⟩, h3⟩ := hc
 split at h0
 ·rename_i el hel
  have hsz := of_decide_eq_true h0
  have hm' : mx = none := by simpa using hm
  subst hm'
  have r1 := ar7 r h1
  simp only [aq7] at h
  split at h
  ·rename_i n b cap off len k l hh hx hl hh'
   simp only [ay7, ak7, ab7, Bool.and_eq_true, decide_eq_true_eq, Bool.not_eq_true'] at h
   obtain ⟨en, he, ⟨⟨⟨⟨⟨⟨q1, q2⟩, q3⟩, c1⟩, c2⟩, c3⟩, c4⟩, rfl, rfl⟩ := h
   subst q3
   rw [hx] at r1
   simp only [at7, Hdr] at r1
   obtain ⟨A, hu, hcap, hb, hA⟩ := r1
   have hce := r57 (hr.ents n en he) c4
   rw [q2] at hce
   have bb := bF7 (P := P) (w := w) true (len := len) (cap := cap - off) (cy7 r h2 hl) (cy7 r h3 hh') (by omega) c1 c2 (by omega)
   refine ⟨.value (.slice (if cap - off = (l.getD 0).toNat then A else A.map (·.add ((l.getD 0).toNat * esz k))) ((hh.getD len).toNat - (l.getD 0).toNat) (cap - off - (l.getD 0).toNat)), w, fps, ?_, .inl ⟨_, rfl, ?_⟩, hr, Stp.refl _ _⟩
   ·simp [Instr.sliceAt, Instr.slice, run_underlying (gY7 hel), hu, bb, bd7 hsz]
   ·simp only [at7, Hdr]
    refine ⟨_, by congr 1; omega, by omega, hb, ?_⟩
    by_cases hcl : cap - off = (l.getD 0).toNat
    ·by_cases hz : off + (l.getD 0).toNat = 0
     ·left
      rw [if_pos hcl]
      rcases hA with rfl | hA
      ·rw [show off + (l.getD 0).toNat = off by omega]
      ·omega
     ·exact .inr (by omega)
    ·left
     rw [if_neg hcl]
     rcases hA with rfl | hA
     ·cases b with
      | none => rfl
      | some g => simp only [Option.map_some]; rw [gf7, Nat.add_mul]
     ·omega
  ·simp only [ag7] at h
 ·cases h0
theorem MF7 {ch : Ch} {k : Nat} {y z : Od} (hc : aB7 P tb o.op (.ain k y z) = true) (r : dK7 tb F w t a) (hr : HRel tb F K hp fps [] w) (h : (aq7 G d ch t (.ain k y z)).run hp = some (x, hp')) : hU7 P tb F K w fps o a x hp' := by
 cases ho : o.op <;> rw [ho] at hc <;> simp only [aB7, Bool.false_eq_true] at hc
 rename_i c
 split at hc
 ·rename_i y' z' ty ty' h1 h2 h3
  simp only [Bool.and_eq_true, decide_eq_true_eq] at hc
  obtain ⟨⟨⟨rfl, h0⟩, hy⟩, hz⟩ := hc
  split at h0
  ·rename_i el hel
   simp only [Bool.and_eq_true] at h0
   obtain ⟨hk, hby⟩ := h0
   obtain ⟨hk1, hk2, hk3⟩ := Cq7 hk
   obtain ⟨i, z0, hi, hz0, hzs, hb1, hb2⟩ := wj7 hby
   have hisz : i.size = esz k := by simpa [ge7, hi] using hk2
   have r1 := ar7 r hy
   have r2 := ar7 r hz
   have ht : c.argTypes = #[ty, ty] := by apply Array.ext'; simpa using h3
   have ha : c.args.map a.eval = #[a.eval y', a.eval z'] := by apply Array.ext'; simp [h2]
   have hr' : ∀ v w', (Builtin.append_ #[ty, ty] o.type #[a.eval y', a.eval z']).run P w = .ok v w' → (execOp a.eval o).run P w = .ok (.value v) w' := by
    intro v w' hv
    unfold execOp
    rw [ho]
    simp [resolve, h1, invoke, builtin, ha, ht, hv]
   simp only [aq7] at h
   split at h
   ·rename_i n b' cap off len k' hev
    obtain ⟨ys, o1, hs, h⟩ := run_bind.1 h
    simp only [ay7, ak7, ax7, ab7, Bool.and_eq_true, decide_eq_true_eq, Bool.not_eq_true'] at h
    obtain ⟨e, he, ⟨⟨⟨⟨⟨⟨⟨⟨q1, q2⟩, q3⟩, q4⟩, q5⟩, q6⟩, q7⟩, q8⟩, q9⟩, rfl, rfl⟩ := h
    obtain ⟨f, fps1, e3, e4, e5⟩ := gh7 hs hr r2
    subst q3 q6 q5 q2 q1
    rw [hev] at r1
    simp only [at7] at r1
    obtain ⟨A, hv, hcap, hbn, hA⟩ := r1
    have hn0 := (e5 n rfl).2
    have e4' := e4.sub (fl' := []) (by simp) List.nodup_nil
    have hE := e4.ents n e he
    have hce := r57 hE q4
    obtain ⟨A2, c2, us, hu2, hly, hus, hcells⟩ := e3.ex
    have hf := kU7 (pk7 q9) hus
    subst hf
    have hlu := aY7 hus
    have hlf := cA7 hly
    have hA' : A = e.b.map (fun g => (⟨g, 0, none⟩ : Addr)) := by
     rcases hA with hA | hA
     ·simpa using hA
     ·omega
    by_cases hy0 : ys.length = 0
    ·
     have hyn : ys = [] := List.eq_nil_of_length_eq_zero hy0
     subst hyn
     have hfc : (Builtin.firstCells (esz e.k) 0 (.slice A2 0 c2)).run P w = .ok #[] w := by
      cases A2 <;> simp [Builtin.firstCells, loadCells, loadCellsFrom]
     refine ⟨.value (a.eval y'), w, fps1, hr' _ _ ?_, .inl ⟨_, rfl, ?_⟩, ?_, Stp.refl _ _⟩
     ·rw [hv, hu2]
      rw [hA']
      cases heb : e.b with
      | none =>
       have hc0 := hbn heb
       have hl0 : len = 0 := by omega
       subst hl0
       simp [Builtin.append_, run_underlying (gY7 hel), bd7 hk2, Builtin.lenOf, hfc, hc0]
      | some g => simp [Builtin.append_, run_underlying (gY7 hel), bd7 hk2, Builtin.lenOf, hfc, storeCells, show len ≤ e.cap by omega]
     ·simp only [at7]
      exact ⟨A, by rw [hv]; simp, by simp; omega, hbn, .inl (by rw [hA']; simp)⟩
     ·have e0 : ({ e with rows := e.rows.take len ++ [] ++ e.rows.drop (len + ([] : Rows).length) } : Ent) = e := by
       simp
      rw [e0]
      have e1 : upd o1 n (some e) = o1 := by
       funext m
       simp only [upd]
       split
       ·rename_i hm; rw [hm, he]
       ·rfl
      rw [e1]
      exact e4'
    ·obtain ⟨ad, rfl, hcell⟩ := hcells (by omega)
     cases heb : e.b with
     | none =>
      have := hbn heb
      omega
     | some g =>
      have hgm : g ∈ fps1 n := by
       unfold OWe at hE
       rw [heb] at hE
       obtain ⟨_, _, _, _, _, _, h6, _⟩ := hE
       rw [h6]
       simp
      have hgF : ¬ F g := fun hg => (e4.lv n g hgm).2 (e4.kp g hg)
      obtain ⟨cur, p1, p2, p3, p4⟩ := wk7 hE heb q8 hgF (p := len) hly hus q9 q7
      rw [hk1] at p1
      have hroom := run_append_room (P := P) w ty o.type el i (gY7 hel) hi g len e.cap cur p1 ad ys.length c2 us (by rw [hlu, hlf, hisz]) hcell (kP7 hus) (by omega) (by rw [hisz]; exact p2)
      rw [hisz] at hroom
      have hput := HRel.put (fl := []) (o := upd o1 n none) (fps := mj7 fps1 n []) (f := [g]) (n := n) (w := w.setRow g (cur.toList.take (len * esz e.k) ++ us ++ cur.toList.drop (len * esz e.k + us.length)).toArray) (tb := tb) (F := F) (K := K) ?_ p4
      ·have e1 : upd (upd o1 n none) n (some ({ e with rows := e.rows.take len ++ ys ++ e.rows.drop (len + ys.length) } : Ent)) = upd o1 n (some ({ e with rows := e.rows.take len ++ ys ++ e.rows.drop (len + ys.length) } : Ent)) := by
        funext m; simp only [upd]; split <;> rfl
       rw [e1, heb] at hput
       refine ⟨.value (.slice (some ⟨g, 0, none⟩) (len + ys.length) e.cap), _, _, hr' _ _ ?_, .inl ⟨_, rfl, ?_⟩, hput, Stp.setRow (n := n) (by rw [← hn0]; exact hgm) _⟩
       ·rw [hv, hA', heb, hu2]
        simpa using hroom
       ·simp only [at7]
        exact ⟨some ⟨g, 0, none⟩, by simp, by simp; omega, by simp, .inl (by simp)⟩
      ·have ht := e4'.take n
       rw [p3] at ht
       exact ht.step (by simp) (fun k hk => setRow_other w g k _ (fun e => hgF (e ▸ hk))) (fun m k hk => setRow_other w g k _ (fun e => by
        by_cases hm : m = n
        ·rw [hm, aT7] at hk; cases hk
        ·rw [a07 _ _ hm] at hk
         exact e4.dj m n k hm hk (e ▸ hgm)))
   ·simp only [ag7] at h
  ·cases h0
 ·cases hc
theorem jH7 {l : List Value} (hl : 0 < l.length) : ∀ (n i : Nat), i < n * l.length → (List.replicate n l).flatten[i]? = l[i % l.length]?
 | 0, i, h => by omega
 | n + 1, i, h => by
  rw [List.replicate_succ, List.flatten_cons]
  by_cases hi : i < l.length
  ·rw [List.getElem?_append_left hi, Nat.mod_eq_of_lt hi]
  ·rw [List.getElem?_append_right (by omega), jH7 hl n (i - l.length) (by rw [Nat.add_mul] at h; omega)]
   congr 1
   exact (Nat.mod_eq_sub_mod (by omega)).symm
theorem mk7 {z : Array Value} (hz : 0 < z.size) (n : Nat) : (Builtin.zeroCells z n).toList = (List.replicate n z.toList).flatten := by
 apply List.ext_getElem?
 intro i
 have hlen : (List.replicate n z.toList).flatten.length = n * z.size := by simp
 by_cases hi : i < n * z.size
 ·rw [jH7 (by simpa using hz) n i (by simpa using hi)]
  have hm : i % z.size < z.size := Nat.mod_lt _ hz
  simp only [Builtin.zeroCells, Array.toList_map, List.getElem?_map, Array.toList_range, List.getElem?_range hi, Option.map_some, Array.length_toList, Array.getElem?_toList]
  rw [getElem!_pos z _ hm]
  simp
 ·rw [List.getElem?_eq_none (by simp [Builtin.zeroCells]; omega), List.getElem?_eq_none (by omega)]
theorem wl7 {z : List T} {vs : List Value} (h : OWl tb F w z vs []) : ∀ n, OWl tb F w (List.replicate n z).flatten (List.replicate n vs).flatten []
 | 0 => by simp [OWl]
 | n + 1 => by
  rw [List.replicate_succ, List.flatten_cons, List.replicate_succ, List.flatten_cons]
  simpa using dL7 h (wl7 h n)
theorem MG7 {ch : Ch} {k : Nat} {z : List T} {y : Od} (hc : aB7 P tb o.op (.clr k z y) = true) (r : dK7 tb F w t a) (hr : HRel tb F K hp fps [] w) (h : (aq7 G d ch t (.clr k z y)).run hp = some (x, hp')) : hU7 P tb F K w fps o a x hp' := by
 cases ho : o.op <;> rw [ho] at hc <;> simp only [aB7, Bool.false_eq_true] at hc
 rename_i c
 split at hc
 ·rename_i y' ty h1 h2 h3
  simp only [Bool.and_eq_true] at hc
  obtain ⟨h0, hy⟩ := hc
  split at h0
  ·rename_i el hel
   simp only [Bool.and_eq_true, decide_eq_true_eq] at h0
   obtain ⟨⟨hk, hzl⟩, hzz⟩ := h0
   obtain ⟨hk1, hk2, hk3⟩ := Cq7 hk
   split at hzz
   ·rename_i vs hzo
    have r1 := ar7 r hy
    have ht : c.argTypes = #[ty] := by apply Array.ext'; simpa using h3
    have ha : c.args.map a.eval = #[a.eval y'] := by apply Array.ext'; simp [h2]
    have hr' : ∀ v w', (Builtin.clear_ #[ty] o.type #[a.eval y']).run P w = .ok v w' → (execOp a.eval o).run P w = .ok (.value v) w' := by
     intro v w' hv
     unfold execOp
     rw [ho]
     simp [resolve, h1, invoke, builtin, ha, ht, hv]
    unfold zOf at hzo
    obtain ⟨z0, hz0, rfl⟩ := Option.map_eq_some_iff.1 hzo
    obtain ⟨i0, hi0, hzz0⟩ := Option.bind_eq_some_iff.1 hz0
    have hzr : (zeroValue el).run P w = .ok z0 w := by simp [zeroValue, typeInfo, hi0, hzz0]
    have hlz := dg7 (tb := tb) (F := F) (w := w) hzz
    have hlz' := aY7 hlz
    have hsz0 : 0 < z0.cells.size := by simp at hlz'; omega
    simp only [aq7] at h
    split at h
    ·rename_i n b cap off len k' hev
     simp only [ay7, ak7, ax7, ab7, Bool.and_eq_true, decide_eq_true_eq, Bool.not_eq_true'] at h
     obtain ⟨e, he, ⟨⟨⟨⟨⟨⟨⟨q1, q2⟩, q3⟩, q4⟩, q5⟩, q6⟩, q7⟩, q8⟩, rfl, rfl⟩ := h
     subst q5 q4 q2 q1
     rw [hev] at r1
     simp only [at7] at r1
     obtain ⟨A, hv, hcap, hbn, hA⟩ := r1
     have hE := hr.ents n e he
     have hce := r57 hE q3
     by_cases hl0 : len = 0
     ·subst hl0
      have e0 : ({ e with rows := e.rows.take off ++ List.replicate 0 z ++ e.rows.drop (off + 0) } : Ent) = e := by simp
      rw [e0]
      have e1 : upd hp n (some e) = hp := by
       funext m
       simp only [upd]
       split
       ·rename_i hm; rw [hm, he]
       ·rfl
      rw [e1]
      refine ⟨.value (.tuple #[]), w, fps, hr' _ _ ?_, .inl ⟨_, rfl, by simp [at7]⟩, hr, Stp.refl _ _⟩
      rw [hv]
      cases A <;> simp [Builtin.clear_, run_underlying (gY7 hel)]
     ·cases heb : e.b with
      | none =>
       have := hbn heb
       omega
      | some g =>
       have hgm : g ∈ fps n := by
        unfold OWe at hE
        rw [heb] at hE
        obtain ⟨_, _, _, _, _, _, h6, _⟩ := hE
        rw [h6]
        simp
       have hgF : ¬ F g := fun hg => (hr.lv n g hgm).2 (hr.kp g hg)
       have hly : ∀ q ∈ List.replicate len z, q.length = esz e.k := fun q hq => by rw [List.eq_of_mem_replicate hq]; exact hzl
       have hpz : eZ7 (List.replicate len z) = true := by
        unfold eZ7 at q8 ⊢
        rw [List.all_eq_true] at q8 ⊢
        intro q hq
        rw [List.eq_of_mem_replicate hq]
        exact q8 z (by simp)
       have hus := wl7 hlz len
       obtain ⟨cur, p1, p2, p3, p4⟩ := wk7 hE heb q7 hgF (p := off) hly hus hpz (by simpa using q6)
       rw [List.length_replicate] at p4
       have hA' : A = some ⟨g, off * esz e.k, none⟩ := by
        rcases hA with hA | hA
        ·rw [hA, heb]; rfl
        ·omega
       have hst := run_storeCells_at P g (off * esz e.k) (tb.ty e.k) (List.replicate len z0.cells.toList).flatten 0 cur w p1 (by simpa using p2) (kP7 hus)
       simp only [Nat.add_zero] at hst
       have hput := HRel.put (fl := []) (o := upd hp n none) (fps := mj7 fps n []) (f := [g]) (n := n) (w := w.setRow g (cur.toList.take (off * esz e.k) ++ (List.replicate len z0.cells.toList).flatten ++ cur.toList.drop (off * esz e.k + (List.replicate len z0.cells.toList).flatten.length)).toArray) (tb := tb) (F := F) (K := K) ?_ p4
       ·have e1 : upd (upd hp n none) n (some ({ e with rows := e.rows.take off ++ List.replicate len z ++ e.rows.drop (off + len) } : Ent)) = upd hp n (some ({ e with rows := e.rows.take off ++ List.replicate len z ++ e.rows.drop (off + len) } : Ent)) := by
         funext m; simp only [upd]; split <;> rfl
        rw [e1, heb] at hput
        refine ⟨.value (.tuple #[]), _, _, hr' _ _ ?_, .inl ⟨_, rfl, by simp [at7]⟩, hput, Stp.setRow (n := n) hgm _⟩
        rw [hv, hA']
        obtain ⟨m, rfl⟩ : ∃ m, len = m + 1 := ⟨len - 1, by omega⟩
        simp [Builtin.clear_, run_underlying (gY7 hel), hzr, mk7 hsz0, hst]
       ·have ht := hr.take n
        rw [p3] at ht
        exact ht.step (by simp) (fun k hk => setRow_other w g k _ (fun e => hgF (e ▸ hk))) (fun m k hk => setRow_other w g k _ (fun e => by
         by_cases hm : m = n
         ·rw [hm, aT7] at hk; cases hk
         ·rw [a07 _ _ hm] at hk
          exact hr.dj m n k hm hk (e ▸ hgm)))
    ·simp only [ag7] at h
   ·cases hzz
  ·cases h0
 ·cases hc
end
end Go.Proofs.AM
