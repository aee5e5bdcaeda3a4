/- Lemmas of the proof (HBack), on an abstract machine. Conditions: none. -/
import Derived.Test.YtnnfdbdheoajgaaGreatHCall
set_option linter.unusedVariables false
set_option linter.unusedSimpArgs false
namespace Go.Proofs.AM
open Go.RowKit
variable {P : Program} {tb : Tab} {F F' K : Nat → Prop} {w : World}
theorem HRel.swap {o : aj7} {fps : Nat → List Nat} {fl fl' : List Nat} {w' : World} (h : HRel tb F K o fps fl w) (hs : w.heap.size ≤ w'.heap.size) (hF : ∀ k, F k → w'.heap[k]? = w.heap[k]?) (ho : ∀ n k, k ∈ fps n → w'.heap[k]? = w.heap[k]?) (hK : ∀ k, K k → k < w.heap.size)
  (hn : fl'.Nodup) (hl : ∀ b, b ∈ fl' → b < w'.heap.size ∧ (b ∈ fl ∨ w.heap.size ≤ b)) : HRel tb F K o fps fl' w' := by
 have h1 := h.step hs hF ho
 refine ⟨h1.kp, h1.ents, h1.nil, h1.nd, h1.dj, h1.lv, hn, fun n b hb hc => ?_, fun b hb => ⟨(hl b hb).1, fun hk => ?_⟩⟩
 ·rcases (hl b hb).2 with h2 | h2
  ·exact h.fdj n b h2 hc
  ·have := (h.lv n b hc).1
   omega
 ·rcases (hl b hb).2 with h2 | h2
  ·exact (h.flv b h2).2 hk
  ·have := hK b hk
   omega
def RwOk (F : Nat → Prop) (w : World) (rs : Rows) : Prop := ∀ r ∈ rs, ∀ A cap rows, T.rw A cap rows ∈ r → rows.length ≤ cap ∧ ∃ e, aI7 F w e A 0 rows
theorem RwOk.keep {w' : World} {rs : Rows} (q : RwOk F w rs) (h : ∀ k, F k → w'.heap[k]? = w.heap[k]?) (hF : ∀ k, F k → F' k) : RwOk F' w' rs := fun r hr A cap rows hm => by
 obtain ⟨h1, e, h2⟩ := q r hr A cap rows hm
 exact ⟨h1, e, cA7 h hF e A rows 0 h2⟩
theorem nj7 {cur : Array Value} : ∀ {cs : List T} {p : Nat} {fp : List Nat}, ar7 tb F w cur p cs fp → ∀ A cap rows, T.rw A cap rows ∈ cs → rows.length ≤ cap ∧ ∃ e, aI7 F w e A 0 rows
 | [], p, fp, h, A, cap, rows, hm => by cases hm
 | c :: cs, p, fp, h, A, cap, rows, hm => by
  simp only [ar7] at h
  obtain ⟨f1, f2, u, rfl, h1, h2, h3⟩ := h
  rcases List.mem_cons.1 hm with rfl | hm
  ·simp only [OWc] at h2
   exact h2.2.2
  ·exact nj7 h3 A cap rows hm
theorem pR7 {cur : Array Value} {k : Nat} : ∀ {rs : Rows} {i : Nat} {fp : List Nat}, at7 tb F w cur k i rs fp → RwOk F w rs
 | [], i, fp, h, r, hr => by cases hr
 | c :: cs, i, fp, h, r, hr => by
  simp only [at7] at h
  obtain ⟨f1, f2, rfl, h1, h2, h3⟩ := h
  rcases List.mem_cons.1 hr with rfl | hr
  ·exact nj7 h2
  ·exact pR7 h3 r hr
theorem F77 {e : Ent} {fp : List Nat} (h : OWe tb F w e fp) : RwOk F w e.rows := by
 unfold OWe at h
 split at h
 ·rcases h with h | ⟨g, es, arr, clock, h, _⟩
  ·rw [h.1]; intro r hr; cases hr
  ·rw [h]
   intro r hr A cap rows hm
   unfold ja7 at hr
   rcases List.mem_cons.1 hr with rfl | hr
   ·simp at hm
   ·rcases List.mem_cons.1 hr with rfl | hr
    ·simp at hm
    ·obtain ⟨p, _, rfl⟩ := List.mem_map.1 hr
     simp [wp7] at hm
 ·obtain ⟨cur, fp', _, _, _, _, _, h6⟩ := h
  exact pR7 h6
theorem wE7 : ∀ {es : List Ent} {fp : List Nat}, eH7 tb F w es fp → ∀ e ∈ es, RwOk F w e.rows
 | [], fp, h, e, he => by cases he
 | e0 :: es, fp, h, e, he => by
  simp only [eH7] at h
  obtain ⟨f1, f2, rfl, h1, h2⟩ := h
  rcases List.mem_cons.1 he with rfl | he
  ·exact F77 h1
  ·exact wE7 h2 e he
theorem sw7 {a c : T} {u : Value} {fp : List Nat} (ha : ∀ A cap rows, a = T.rw A cap rows → rows.length ≤ cap ∧ ∃ e, aI7 F w e A 0 rows) (h : OWc tb F w c u fp) : OWc tb F w (wn7 a c) u fp := by
 unfold wn7
 split
 ·rename_i A cap rows A' n c'
  split
  ·rename_i hc
   obtain ⟨rfl, rfl, rfl⟩ := hc
   simp only [OWc] at h ⊢
   exact ⟨h.2.2, h.1, ha _ _ _ rfl⟩
  ·exact h
 ·exact h
theorem pS7 : ∀ (as bs : List T), (i97 as bs).length = bs.length
 | [], bs => by simp [i97]
 | _ :: _, [] => by simp [i97]
 | a :: as, b :: bs => by simp [i97, pS7 as bs]
theorem lo7 {cur : Array Value} : ∀ {as bs : List T} {p : Nat} {fp : List Nat}, (∀ A cap rows, T.rw A cap rows ∈ as → rows.length ≤ cap ∧ ∃ e, aI7 F w e A 0 rows) → ar7 tb F w cur p bs fp → ar7 tb F w cur p (i97 as bs) fp
 | [], bs, p, fp, ha, h => by simpa only [i97] using h
 | _ :: _, [], p, fp, ha, h => by simpa only [i97] using h
 | a :: as, b :: bs, p, fp, ha, h => by
  simp only [i97, ar7] at h ⊢
  obtain ⟨f1, f2, u, rfl, h1, h2, h3⟩ := h
  exact ⟨f1, f2, u, rfl, h1, sw7 (fun A cap rows e => ha A cap rows (by simp [e])) h2, lo7 (fun A cap rows hm => ha A cap rows (by simp [hm])) h3⟩
theorem sx7 {e : Ent} {r : Rows} {fp : List Nat} (ha : RwOk F w e.rows) (h : OWe tb F w { e with rows := r } fp) : OWe tb F w { e with rows := wo7 e r } fp := by
 unfold wo7
 split
 ·rename_i a b h1 h2
  unfold OWe at h ⊢
  simp only at h ⊢
  split at h
  ·rcases h with h | ⟨g, es, arr, clock, h, _⟩
   ·exact absurd h.1 (by simp)
   ·have h9 := congrArg List.length h
    simp [ja7] at h9
  ·rename_i g hg
   obtain ⟨cur, fp', q1, q2, q3, q4, q5, q6⟩ := h
   refine ⟨cur, fp', q1, q2, q3, q4, q5, ?_⟩
   simp only [at7] at q6 ⊢
   obtain ⟨f1, f2, q7, q8, q9, q10⟩ := q6
   exact ⟨f1, f2, q7, by rw [pS7]; exact q8, lo7 (fun A cap rows hm => ha a (by rw [h2]; simp) A cap rows hm) q9, q10⟩
 ·exact h
theorem ff7 : ∀ {ins : List In} {rs : List (Option Rows)} {o o' : aj7} {fps : Nat → List Nat} {f fl : List Nat} {x : Unit}, (mL7 ins rs).run o = some (x, o') → HRel tb F K o fps (f ++ fl) w → eH7 tb F w (bh7 (ins.map (·.e)) rs) f → (∀ i ∈ ins, RwOk F w i.e.rows) → ∃ fps', HRel tb F K o' fps' fl w
 | [], [], o, o', fps, f, fl, x, h, hr, r, hw => by
  simp only [mL7, ab7] at h
  obtain ⟨_, rfl⟩ := h
  simp only [List.map_nil, bh7, eH7] at r
  subst r
  exact ⟨fps, by simpa using hr⟩
 | i :: is, none :: rs, o, o', fps, f, fl, x, h, hr, q, hw => by
  simp only [mL7] at h
  simp only [List.map_cons, bh7, eH7] at q
  obtain ⟨f1, f2, rfl, q1, q2⟩ := q
  unfold OWe at q1
  simp only at q1
  rcases q1 with ⟨_, _, _, rfl⟩ | ⟨_, _, _, _, _, _, hbx, _⟩
  case inr => cases hbx
  exact ff7 h (by simpa using hr) q2 (fun i hi => hw i (by simp [hi]))
 | i :: is, some r :: rs, o, o', fps, f, fl, x, h, hr, q, hw => by
  simp only [mL7, aE7] at h
  simp only [List.map_cons, bh7, eH7] at q
  obtain ⟨f1, f2, rfl, q1, q2⟩ := q
  exact ff7 h (HRel.put (fl := f2 ++ fl) (by rwa [List.append_assoc] at hr) i.n (sx7 (hw i (by simp)) q1)) q2 (fun i hi => hw i (by simp [hi]))
 | [], _ :: _, o, o', fps, f, fl, x, h, hr, q, hw => by simp [mL7, al7] at h
 | _ :: _, [], o, o', fps, f, fl, x, h, hr, q, hw => by simp [mL7, al7] at h
theorem lp7 {d : Nat} {ch : Ch} : ∀ {cs : List T} {j : Nat} {xs : List AV} {o o' : aj7} {fps : Nat → List Nat} {f fl : List Nat} {us : List Value}, (eQ7 d ch j cs).run o = some (xs, o') → HRel tb F K o fps (f ++ fl) w → OWl tb F w cs us f →
  (∀ i u, us[i]? = some u → ch (j + i) = cq7 u) → aW7 tb F w xs us ∧ ∃ fps', HRel tb F K o' fps' fl w
 | [], j, xs, o, o', fps, f, fl, us, h, hr, hl, hch => by
  simp only [eQ7, ab7] at h
  obtain ⟨rfl, rfl⟩ := h
  simp only [OWl] at hl
  obtain ⟨rfl, rfl⟩ := hl
  exact ⟨by simp [aW7], fps, by simpa using hr⟩
 | c :: cs, j, xs, o, o', fps, f, fl, us, h, hr, hl, hch => by
  simp only [eQ7] at h
  obtain ⟨x, o1, h1, h⟩ := run_bind.1 h
  obtain ⟨xs1, o3, h3, h4⟩ := run_bind.1 h
  simp only [ab7] at h4
  obtain ⟨rfl, rfl⟩ := h4
  simp only [OWl] at hl
  obtain ⟨u, us', f1, f2, rfl, rfl, hc1, hc2⟩ := hl
  have hch0 := hch 0 u (by simp)
  simp only [Nat.add_zero] at hch0
  have key : ay7 tb F w x u ∧ ∃ fps1, HRel tb F K o1 fps1 (f2 ++ fl) w := by
   have hany : HRel tb F K o fps (f2 ++ fl) w := hr.sub (fun b hb => by
    rcases List.mem_append.1 hb with h | h <;> simp [h]) (by
    have := hr.fnd
    rw [List.append_assoc] at this
    exact (List.nodup_append.1 this).2.1)
   cases c with
   | v y =>
    simp only [ab7] at h1
    obtain ⟨rfl, rfl⟩ := h1
    simp only [OWc] at hc1
    exact ⟨by simp [ay7, hc1.1], fps, hany⟩
   | sl own k rows =>
    cases own
    ·simp only [ab7] at h1
     obtain ⟨rfl, rfl⟩ := h1
     simp only [OWc] at hc1
     exact ⟨by simp only [ay7]; exact hc1.2, fps, hany⟩
    ·simp only [aE7, ab7] at h1
     obtain ⟨rfl, rfl⟩ := h1
     simp only [OWc] at hc1
     rcases hc1 with ⟨rfl, rfl, rfl⟩ | ⟨g, cap, cur, fp', rfl, q1, q2, q3, q4, rfl, q5⟩
     ·simp only [cq7] at hch0
      have hH : Hdr none k 0 0 0 (.slice none 0 0) := ⟨none, rfl, by omega, by simp, .inl (by simp)⟩
      simp only [hch0]
      refine ⟨by simp only [ay7]; exact hH, _, HRel.put (f := []) (by simpa using hr) _ ?_⟩
      unfold OWe
      exact .inl ⟨rfl, rfl, rfl, rfl⟩
     ·simp only [cq7] at hch0
      have hH : Hdr (some g) k 0 rows.length cap (.slice (some ⟨g, 0, none⟩) rows.length cap) := ⟨_, rfl, by omega, by simp, .inl (by simp)⟩
      simp only [hch0]
      refine ⟨by simp only [ay7]; exact hH, _, HRel.put (f := g :: fp') (by rwa [List.append_assoc] at hr) _ ?_⟩
      unfold OWe
      exact ⟨cur, fp', q1, q2, q3, q4, rfl, q5⟩
   | al n b cap off len k =>
    simp only [ab7] at h1
    obtain ⟨rfl, rfl⟩ := h1
    exact ⟨by simp [ay7], fps, hany⟩
   | bx k row =>
    simp only [aE7, ab7] at h1
    obtain ⟨rfl, rfl⟩ := h1
    simp only [OWc] at hc1
    obtain ⟨g, cur, fp', rfl, q1, q2, q3, rfl, q5⟩ := hc1
    simp only [cq7] at hch0
    simp only [hch0]
    refine ⟨by simp only [ay7]; exact ⟨g, rfl, by simp⟩, _, HRel.put (f := g :: fp') (by rwa [List.append_assoc] at hr) _ ?_⟩
    unfold OWe
    refine ⟨cur, fp', q1, by simpa using q2, by simp, (show 1 ≤ maxLen by decide), rfl, ?_⟩
    simp only [at7, Nat.zero_mul]
    exact ⟨fp', [], by simp, q3, q5, rfl⟩
   | rw A cap rows =>
    simp only [ab7] at h1
    obtain ⟨rfl, rfl⟩ := h1
    exact ⟨by simp [ay7], fps, hany⟩
   | junk =>
    simp only [ab7] at h1
    obtain ⟨rfl, rfl⟩ := h1
    exact ⟨by simp [ay7], fps, hany⟩
  obtain ⟨k1, fps1, k3⟩ := key
  obtain ⟨g1, fps2, g4⟩ := lp7 h3 k3 hc2 (fun i v hi => by have := hch (i + 1) v (by simpa using hi); rwa [show j + (i + 1) = j + 1 + i by omega] at this)
  exact ⟨by simp only [aW7]; exact ⟨u, us', rfl, k1, g1⟩, fps2, g4⟩
theorem gw7 {d : Nat} {ch : Ch} : ∀ {rs : List (Bool × List T)} {j : Nat} {xs : List AV} {o o' : aj7} {fps : Nat → List Nat} {f fl : List Nat} {vs us : List Value}, (bs7 d ch j rs).run o = some (xs, o') → HRel tb F K o fps (f ++ fl) w → sv7 tb F w rs vs us f →
  (∀ i u, us[i]? = some u → ch (j + i) = cq7 u) → aW7 tb F w xs vs ∧ ∃ fps', HRel tb F K o' fps' fl w
 | [], j, xs, o, o', fps, f, fl, vs, us, h, hr, r, hch => by
  simp only [bs7, ab7] at h
  obtain ⟨rfl, rfl⟩ := h
  simp only [sv7] at r
  obtain ⟨rfl, rfl, rfl⟩ := r
  exact ⟨by simp [aW7], fps, by simpa using hr⟩
 | (agg, cs) :: rs, j, xs, o, o', fps, f, fl, vs, us, h, hr, r, hch => by
  simp only [bs7] at h
  obtain ⟨ys, o1, h1, h⟩ := run_bind.1 h
  simp only [bE7] at h
  obtain ⟨y, hy, h⟩ := h
  obtain ⟨zs, o3, h3, h4⟩ := run_bind.1 h
  simp only [ab7] at h4
  obtain ⟨rfl, rfl⟩ := h4
  simp only [sv7, F57] at r
  obtain ⟨v, vs', u1, u2, f1, f2, rfl, rfl, rfl, ⟨r1, r2⟩, r3⟩ := r
  have hl1 := bm7 r1
  obtain ⟨k1, fps1, k2⟩ := lp7 h1 (fl := f2 ++ fl) (by rwa [List.append_assoc] at hr) r1 (fun i u hi => hch i u (by rw [List.getElem?_append_left (List.getElem?_eq_some_iff.1 hi).1]; exact hi))
  obtain ⟨g1, fps2, g2⟩ := gw7 h3 k2 r3 (fun i u hi => by
   have := hch (u1.length + i) u (by rw [List.getElem?_append_right (by omega)]; simpa using hi)
   rw [hl1] at this
   rwa [← Nat.add_assoc] at this)
  refine ⟨?_, fps2, g2⟩
  simp only [aW7]
  refine ⟨v, vs', rfl, ?_, g1⟩
  have := if7 hy k1
  cases agg
  ·simp only [Bool.false_eq_true, if_false] at this r2
   rw [r2] at this
   simpa using this
  ·simp only [if_true] at this r2
   rw [r2]
   exact this
theorem pT7 {ys : List AV} {vs : List Value} (h : aW7 tb F w ys vs) : ay7 tb F w (jN7 ys) (CT7 vs) := by
 match ys, h with
 | [], h =>
  simp only [aW7] at h
  subst h
  simp only [jN7, CT7, ay7]
  exact ⟨[], rfl, by simp [aW7]⟩
 | [y], h =>
  simp only [aW7] at h
  obtain ⟨u, us', rfl, h1, rfl⟩ := h
  exact h1
 | y :: z :: ys, h =>
  have h' := h
  simp only [aW7] at h
  obtain ⟨u, us', rfl, h1, u2, us2, rfl, h2, h3⟩ := h
  simp only [jN7, CT7, ay7]
  exact ⟨_, rfl, h'⟩
theorem tC7 : ∀ {rs : List (Bool × List T)} {vs us : List Value} {f : List Nat}, d27 (rs.map (·.2)) = true → sv7 tb F' w rs vs us f → sv7 tb F w rs vs us f
 | [], vs, us, f, h, r => by simpa only [sv7] using r
 | r0 :: rs, vs, us, f, h, r => by
  simp only [List.map_cons, d27, Bool.and_eq_true] at h
  simp only [sv7, F57] at r ⊢
  obtain ⟨v, vs', u1, u2, f1, f2, h1, h2, h3, ⟨h4, h5⟩, h6⟩ := r
  exact ⟨v, vs', u1, u2, f1, f2, h1, h2, h3, ⟨wC7 h.1 h4, h5⟩, tC7 h.2 h6⟩
theorem pU7 {w' : World} (h : ∀ k, F k → w'.heap[k]? = w.heap[k]?) (hF : ∀ k, F k → F' k) : ∀ {es : List Ent} {f : List Nat}, (∀ k ∈ f, w'.heap[k]? = w.heap[k]?) → eH7 tb F w es f → eH7 tb F' w' es f
 | [], f, hf, r => by simpa only [eH7] using r
 | e :: es, f, hf, r => by
  simp only [eH7] at r ⊢
  obtain ⟨f1, f2, rfl, h1, h2⟩ := r
  exact ⟨f1, f2, rfl, kH7 h hF (fun k hk => hf k (by simp [hk])) h1, pU7 h hF (fun k hk => hf k (by simp [hk])) h2⟩
theorem oC7 : ∀ {es : List Ent} {rs : List (Option Rows)} {f : List Nat}, rs.all gl7 = true → eH7 tb F' w (bh7 es rs) f → eH7 tb F w (bh7 es rs) f
 | [], [], f, h, r => by simpa only [bh7, eH7] using r
 | e :: es, some r0 :: rs, f, h, r => by
  simp only [List.all_cons, Bool.and_eq_true] at h
  simp only [bh7, eH7] at r ⊢
  obtain ⟨f1, f2, h1, h2, h3⟩ := r
  exact ⟨f1, f2, h1, wD7 h.1 h2, oC7 h.2 h3⟩
 | e :: es, none :: rs, f, h, r => by
  simp only [List.all_cons, Bool.and_eq_true] at h
  simp only [bh7, eH7] at r ⊢
  obtain ⟨f1, f2, h1, h2, h3⟩ := r
  exact ⟨f1, f2, h1, wD7 rfl h2, oC7 h.2 h3⟩
 | [], _ :: _, f, h, r => by simpa only [bh7, eH7] using r
 | _ :: _, [], f, h, r => by simpa only [bh7, eH7] using r
def dT7 (P : Program) (tb : Tab) (G : Gam) : Prop := ∀ f xs ins ans, G f xs ins = some ans → F67 P tb f xs ins ans
theorem HRel.widen {F2 K2 : Nat → Prop} {o : aj7} {fps : Nat → List Nat} {fl : List Nat} (h : HRel tb F K o fps fl w) (hF : ∀ k, F k → F2 k) (hk : ∀ k, F2 k → K2 k) (h1 : ∀ n b, b ∈ fps n → ¬ K2 b) (h2 : ∀ b, b ∈ fl → ¬ K2 b) : HRel tb F2 K2 o fps fl w :=
 ⟨hk, fun n e he => kH7 (w := w) (w' := w) (fun _ _ => rfl) hF (fun _ _ => rfl) (h.ents n e he), h.nil, h.nd, h.dj, fun n b hb => ⟨(h.lv n b hb).1, h1 n b hb⟩, h.fnd, h.fdj, fun b hb => ⟨(h.flv b hb).1, h2 b hb⟩⟩
def wF7 (tb : Tab) (F K : Nat → Prop) (w w' : World) (fps : Nat → List Nat) (x : AV) (v : Value) (hp' : aj7) : Prop :=
 ∃ F2 K2, (∀ k, F k → F2 k) ∧ (∀ k, F2 k → F k ∨ ¬ K k) ∧ (∀ k, K k → K2 k) ∧ (∀ k, K2 k → k < w'.heap.size) ∧ ay7 tb F2 w' x v ∧ (∃ fps', HRel tb F2 K2 hp' fps' [] w') ∧ Stp fps w w'
theorem pV7 {o1 : aj7} {fps fps1 : Nat → List Nat} {f0 : List Nat} {ins : List In} {r : Ans} {v : Value} {w' : World} {d : Nat} (g2 : HRel tb F K o1 fps1 (f0 ++ []) w) (hF : ∀ k, K k → k < w.heap.size) (hf : ∀ b, b ∈ f0 → ∃ n, b ∈ fps n) (hp : Mx7 tb F' w (ins.map (·.e)) f0 r v w')
  (hconv : F' = F ∨ ∀ F1 vs us f1 f2, eH7 tb F1 w' (bh7 (ins.map (·.e)) r.outs) f1 → sv7 tb F1 w' r.res vs us f2 → eH7 tb F w' (bh7 (ins.map (·.e)) r.outs) f1 ∧ sv7 tb F w' r.res vs us f2) (hFF : ∀ k, F k → F' k) (hrw : ∀ i ∈ ins, RwOk F w i.e.rows) :
  ∃ ch, ∀ x hp', (tail ins r d ch).run o1 = some (x, hp') → wF7 tb F K w w' fps x v hp' := by
 obtain ⟨F1, vs, us, f1, f2, p1, p2, p3, q1, q2, rfl, q4, q5⟩ := hp.rel
 refine ⟨fun j => cq7 (us.getD j undef), fun x hp' h => ?_⟩
 unfold tail at h
 obtain ⟨_, oa, h1, h⟩ := run_bind.1 h
 obtain ⟨ys, ob, h2, h3⟩ := run_bind.1 h
 simp only [ab7] at h3
 obtain ⟨rfl, rfl⟩ := h3
 have hnot : ∀ k, (F k ∨ ∃ n, k ∈ fps1 n) → w'.heap[k]? = w.heap[k]? := fun k hk => by
  rcases hk with hk | ⟨n, hk⟩
  ·exact hp.blk k (hF k (g2.kp k hk)) (fun hc => (g2.flv k (by simp [hc])).2 (g2.kp k hk))
  ·exact hp.blk k (g2.lv n k hk).1 (fun hc => g2.fdj n k (by simp [hc]) hk)
 have hsw := g2.swap (fl' := f1 ++ f2) hp.size (fun k hk => hnot k (.inl hk)) (fun n k hk => hnot k (.inr ⟨n, hk⟩)) hF q4 (fun b hb => by
  obtain ⟨a1, a2, a3⟩ := q5 b hb
  exact ⟨a1, a3.imp (fun h => by simp [h]) id⟩)
 have hst : Stp fps w w' := ⟨hp.os, hp.tape, hp.output, hp.size, fun k hk hn => hp.blk k hk (fun hc => by
  obtain ⟨n, h⟩ := hf k hc
  exact hn n h)⟩
 rcases hconv with rfl | hconv
 ·have hgr : HRel tb F1 (fun k => K k ∨ F1 k) o1 fps1 (f1 ++ f2) w' := by
   refine hsw.widen p1 (fun k hk => .inr hk) (fun n b hb hk => ?_) (fun b hb hk => ?_)
   ·rcases hk with hk | hk
    ·exact (hsw.lv n b hb).2 hk
    ·rcases p2 b hk with hk | hk
     ·exact (hsw.lv n b hb).2 (hsw.kp b hk)
     ·exact hk ⟨(g2.lv n b hb).1, fun hc => g2.fdj n b (by simp [hc]) hb⟩
   ·rcases hk with hk | hk
    ·exact (hsw.flv b hb).2 hk
    ·exact (q5 b hb).2.1 hk
  obtain ⟨fpsa, ha⟩ := ff7 h1 hgr q1 (fun i hi => (hrw i hi).keep (fun k hk => hnot k (.inl hk)) p1)
  obtain ⟨k1, fpsb, hb⟩ := gw7 h2 (fl := []) (by simpa using ha) q2 (fun i u hi => by simp [List.getD_eq_getElem?_getD, hi])
  refine ⟨F1, fun k => K k ∨ F1 k, p1, fun k hk => ?_, fun k hk => .inl hk, fun k hk => ?_, pT7 k1, ⟨fpsb, hb⟩, hst⟩
  ·rcases p2 k hk with hk | hk
   ·exact .inl hk
   ·refine .inr fun hK => hk ⟨hF k hK, fun hc => (g2.flv k (by simp [hc])).2 hK⟩
  ·rcases hk with hk | hk
   ·exact Nat.lt_of_lt_of_le (hF k hk) hp.size
   ·exact p3 k hk
 ·obtain ⟨q1, q2⟩ := hconv F1 vs us f1 f2 q1 q2
  obtain ⟨fpsa, ha⟩ := ff7 h1 hsw q1 (fun i hi => (hrw i hi).keep (fun k hk => hnot k (.inl hk)) (fun _ h => h))
  obtain ⟨k1, fpsb, hb⟩ := gw7 h2 (fl := []) (by simpa using ha) q2 (fun i u hi => by simp [List.getD_eq_getElem?_getD, hi])
  exact ⟨F, K, fun _ h => h, fun _ h => .inl h, fun _ h => h, fun k hk => Nat.lt_of_lt_of_le (hF k hk) hp.size, pT7 k1, ⟨fpsb, hb⟩, hst⟩
theorem pW7 {t : Tm} {xs : List (Bool × Od)} {as : List AV} {ins : List In} {o o1 : aj7} {fps : Nat → List Nat} {us : List Value} {f d : Nat} {caps cs : List AV} {cvs : List Value} {r : Ans} {o2 : aj7} (hg : F67 P tb f (as ++ cs) (ins.map fun i => (i.e.box, i.e.k, i.e.rows)) r)
  (h : (args t xs).run o = some ((as, ins), o1)) (hc : (wl7 caps).run o1 = some (cs, o2)) (hr : HRel tb F K o fps [] w) (hx : aW7 tb F w (xs.map fun x => ev t x.2) us) (hcv : aW7 tb F w caps cvs) (hF : ∀ k, K k → k < w.heap.size) (hgl : GlOk tb F w)
  (hown : ((gr7 t xs && u57 caps) || (d27 (r.res.map (·.2)) && r.outs.all gl7)) = true) :
  o2 = o1 ∧ Calls P (tb.fn f) (us ++ cvs).toArray w fun e w' => match e with
   | .returned v => ∃ ch, ∀ x hp', (tail ins r d ch).run o1 = some (x, hp') → wF7 tb F K w w' fps x v hp'
   | _ => False := by
 unfold args at h
 obtain ⟨⟨ys, ins1⟩, oa, h1, h⟩ := run_bind.1 h
 obtain ⟨zs, ob, h2, h3⟩ := run_bind.1 h
 simp only [ab7] at h3
 obtain ⟨h3, rfl⟩ := h3
 cases h3
 obtain ⟨f0, fps1, g1, g2, g3, g4, g5⟩ := hF7 h1 hr hx
 let bs : Nat → Option Nat × Nat := fun j => ((ins[j]?).map fun x => (x.e.b, x.e.cap)).getD (none, 0)
 have htells : Tells bs 0 ins := fun j x hj => by simp [bs, hj]
 have hent : ∀ (j : Nat) (e : Ent), (ins.map (·.e))[j]? = some e → bs j = (e.b, e.cap) := fun j e he => by
  simp only [List.getElem?_map, Option.map_eq_some_iff] at he
  obtain ⟨x, hx, rfl⟩ := he
  simp [bs, hx]
 have hnd := (List.nodup_append.1 g2.fnd).1
 have hrw : ∀ i ∈ ins, RwOk F w i.e.rows := fun i hi => wE7 g1 i.e (List.mem_map_of_mem hi)
 by_cases hf : (gr7 t xs && u57 caps) = true
 ·simp only [Bool.and_eq_true] at hf
  obtain ⟨rfl, k1⟩ := hG7 (F' := F) g2 (fun _ h => h) (.inl hf.1) h2 (g5 bs htells)
  obtain ⟨rfl, k2, k3⟩ := eT7 (F' := F) g2 (fun _ h => h) caps (.inl hf.2) hc hcv
  refine ⟨rfl, ?_⟩
  have hrel : aW7 tb F w ((as ++ cs).map (ow7 bs)) (us ++ cvs) := by
   rw [List.map_append, (k3 bs).2]
   exact hz7 k1 k2
  refine (hg.2 F w (us ++ cvs) (ins.map (·.e)) f0 bs (by simp) hent hrel g1 hnd (fun b hb => ⟨(g2.flv b (by simp [hb])).1, fun hf => (g2.flv b (by simp [hb])).2 (g2.kp b hf)⟩) (fun k hk => hF k (g2.kp k hk)) hgl).mono fun e w' he => ?_
  cases e with
  | returned v => exact pV7 g2 hF g4 he (.inl rfl) (fun _ h => h) hrw
  | _ => exact he
 ·have hown' : (d27 (r.res.map (·.2)) && r.outs.all gl7) = true := by
   simp only [Bool.or_eq_true] at hown
   exact hown.resolve_left hf
  simp only [Bool.and_eq_true] at hown'
  let F2 : Nat → Prop := fun k => F k ∨ ∃ n, k ∈ fps1 n
  have hF2 : ∀ k, F k → F2 k := fun k hk => .inl hk
  have ho2 : ∀ n k, k ∈ fps1 n → F2 k := fun n k hk => .inr ⟨n, hk⟩
  obtain ⟨rfl, k1⟩ := hG7 (F' := F2) g2 hF2 (.inr ho2) h2 (g5 bs htells)
  obtain ⟨rfl, k2, k3⟩ := eT7 (F' := F2) g2 hF2 caps (.inr ho2) hc hcv
  refine ⟨rfl, ?_⟩
  have hrel : aW7 tb F2 w ((as ++ cs).map (ow7 bs)) (us ++ cvs) := by
   rw [List.map_append, (k3 bs).2]
   exact hz7 k1 k2
  refine (hg.2 F2 w (us ++ cvs) (ins.map (·.e)) f0 bs (by simp) hent hrel (pU7 (fun _ _ => rfl) hF2 (fun _ _ => rfl) g1) hnd (fun b hb => ⟨(g2.flv b (by simp [hb])).1, fun hf => ?_⟩) (fun k hk => ?_) (hgl.keep (fun _ _ => rfl) hF2)).mono fun e w' he => ?_
  ·rcases hf with hf | ⟨n, hn⟩
   ·exact (g2.flv b (by simp [hb])).2 (g2.kp b hf)
   ·exact g2.fdj n b (by simp [hb]) hn
  ·rcases hk with hk | ⟨n, hn⟩
   ·exact hF k (g2.kp k hk)
   ·exact (g2.lv n k hn).1
  cases e with
  | returned v => exact pV7 g2 hF g4 he (.inr fun _ _ _ _ _ a b => ⟨oC7 hown'.2 a, tC7 hown'.1 b⟩) hF2 hrw
  | _ => exact he
end Go.Proofs.AM
