/- Lemmas of the proof (HCall), on an abstract machine. Conditions: none. -/
import Derived.Test.YtnnfdbdheoajgaaGreatHArg
set_option linter.unusedVariables false
set_option linter.unusedSimpArgs false
namespace Go.Proofs.AM
open Go.RowKit
variable {P : Program} {tb : Tab} {F F' K : Nat → Prop} {w : World}
def M97 : AV → Bool
 | .agg _ => false
 | _ => true
theorem dS7 : ∀ {i : Nat} {cs ys : List AV} {ins : List In} {o o' : aj7}, (cg7 i cs).run o = some ((ys, ins), o') → ∀ y ∈ ys, M97 y = true
 | i, [], ys, ins, o, o', h => by
  simp only [cg7, ab7] at h
  obtain ⟨h, rfl⟩ := h
  cases h
  simp
 | i, .ref n b cap off len k :: cs, ys, ins, o, o', h => by
  simp only [cg7, aK7, aq7, aE7] at h
  obtain ⟨e, he, _, h⟩ := h
  obtain ⟨⟨xs, ins1⟩, o1, h1, h2⟩ := run_bind.1 h
  simp only [ab7] at h2
  obtain ⟨h2, rfl⟩ := h2
  cases h2
  have := dS7 h1
  simp only [List.mem_cons, forall_eq_or_imp]
  exact ⟨rfl, this⟩
 | i, .ptr n b k rr c :: cs, ys, ins, o, o', h => by
  simp only [cg7, aK7, aq7, aE7] at h
  obtain ⟨e, he, _, h⟩ := h
  obtain ⟨row, o0, h0, h⟩ := run_bind.1 h
  obtain ⟨⟨xs, ins1⟩, o1, h1, h2⟩ := run_bind.1 h
  simp only [ab7] at h2
  obtain ⟨h2, rfl⟩ := h2
  cases h2
  have := dS7 h1
  simp only [List.mem_cons, forall_eq_or_imp]
  exact ⟨rfl, this⟩
 | i, .nil :: cs, ys, ins, o, o', h => by
  simp only [cg7] at h
  obtain ⟨⟨xs, ins1⟩, o1, h1, h2⟩ := run_bind.1 h
  simp only [ab7] at h2
  obtain ⟨h2, rfl⟩ := h2
  cases h2
  have := dS7 h1
  simp only [List.mem_cons, forall_eq_or_imp]
  exact ⟨rfl, this⟩
 | i, .v x :: cs, ys, ins, o, o', h => by
  simp only [cg7] at h
  obtain ⟨⟨xs, ins1⟩, o1, h1, h2⟩ := run_bind.1 h
  simp only [ab7] at h2
  obtain ⟨h2, rfl⟩ := h2
  cases h2
  have := dS7 h1
  simp only [List.mem_cons, forall_eq_or_imp]
  exact ⟨rfl, this⟩
 | i, .ro _ :: cs, ys, ins, o, o', h => by simp [cg7, al7] at h
 | i, .rptr _ :: cs, ys, ins, o, o', h => by simp [cg7, al7] at h
 | i, .agg _ :: cs, ys, ins, o, o', h => by simp [cg7, al7] at h
 | i, .tup _ :: cs, ys, ins, o, o', h => by simp [cg7, al7] at h
 | i, .fn .. :: cs, ys, ins, o, o', h => by simp [cg7, al7] at h
 | i, .io .. :: cs, ys, ins, o, o', h => by simp [cg7, al7] at h
 | i, .pio .. :: cs, ys, ins, o, o', h => by simp [cg7, al7] at h
 | i, .junk :: cs, ys, ins, o, o', h => by simp [cg7, al7] at h
def BQ7 (tb : Tab) (F : Nat → Prop) (w : World) (bs : Nat → Option Nat × Nat) (t : Tm) : List (Bool × Od) → List (Option AV) → List Value → Prop
 | [], [], us => us = []
 | (m, x) :: xs, y :: ys, us => ∃ u us', us = u :: us' ∧ ay7 tb F w (ev t x) u ∧ (match y with | some y => ay7 tb F w (ow7 bs y) u | none => m = false) ∧ BQ7 tb F w bs t xs ys us'
 | _, _, _ => False
theorem hF7 {t : Tm} : ∀ {i : Nat} {xs : List (Bool × Od)} {ys : List (Option AV)} {ins : List In} {o o' : aj7} {fps : Nat → List Nat} {fl : List Nat} {us : List Value}, (i87 t i xs).run o = some ((ys, ins), o') → HRel tb F K o fps fl w → aW7 tb F w (xs.map fun x => ev t x.2) us →
  ∃ f fps', eH7 tb F w (ins.map (·.e)) f ∧ HRel tb F K o' fps' (f ++ fl) w ∧ Sub fps' fps ∧ (∀ b, b ∈ f → ∃ n, b ∈ fps n) ∧ ∀ bs, Tells bs i ins → BQ7 tb F w bs t xs ys us
 | i, [], ys, ins, o, o', fps, fl, us, h, hr, r => by
  simp only [i87, ab7] at h
  obtain ⟨h, rfl⟩ := h
  cases h
  exact ⟨[], fps, rfl, by simpa using hr, Sub.refl _, by simp, fun bs _ => by simpa only [BQ7, List.map_nil, aW7] using r⟩
 | i, (m, x) :: xs, ys, ins, o, o', fps, fl, us, h, hr, r => by
  simp only [i87] at h
  simp only [List.map_cons, aW7] at r
  obtain ⟨u, us', rfl, r1, r2⟩ := r
  split at h
  ·obtain ⟨⟨ys1, ins1⟩, o1, h1, h⟩ := run_bind.1 h
   simp only [bE7] at h
   obtain ⟨y, hy, h⟩ := h
   obtain ⟨⟨zs, more⟩, o2, h2, h3⟩ := run_bind.1 h
   simp only [ab7] at h3
   obtain ⟨h3, rfl⟩ := h3
   cases h3
   have key : ∃ vs, aW7 tb F w (hf7 (ev t x)) vs ∧ ∀ bs, aW7 tb F w (ys1.map (zn7 bs)) vs → ay7 tb F w (ow7 bs y) u := by
    have na := dS7 h1
    generalize ev t x = z at *
    cases z with
    | agg cs =>
     simp only [ay7] at r1
     obtain ⟨vs, rfl, r1⟩ := r1
     simp only [ia7, one, if_true, Option.some.injEq] at hy
     subst hy
     exact ⟨vs, r1, fun bs hb => by simp only [ow7, ay7]; exact ⟨vs, rfl, hb⟩⟩
    | _ =>
     simp only [ia7, one, Bool.false_eq_true, if_false] at hy
     split at hy
     ·cases hy
      refine ⟨[u], by simp only [hf7, aW7]; exact ⟨u, [], rfl, r1, rfl⟩, fun bs hb => ?_⟩
      simp only [List.map_cons, List.map_nil, aW7] at hb
      obtain ⟨u1, us1, hu, hb, _⟩ := hb
      cases hu
      have hna := na y (by simp)
      cases y <;> first | exact hb | (cases hna)
     ·cases hy
   obtain ⟨vs, k1, k2⟩ := key
   obtain ⟨f1, fps1, g1, g2, g3, g4, g5⟩ := dR7 h1 hr k1
   obtain ⟨f2, fps2, c1, c2, c3, c4, c5⟩ := hF7 h2 g2 r2
   refine ⟨f1 ++ f2, fps2, by rw [List.map_append]; exact lm7 g1 c1, c2.perm ?_, c3.trans g3, fun b hb => ?_, fun bs hb => ?_⟩
   ·rw [← List.append_assoc]
    exact List.Perm.append_right _ List.perm_append_comm
   ·rcases List.mem_append.1 hb with hb | hb
    ·exact g4 b hb
    ·obtain ⟨n, hn⟩ := c4 b hb
     exact g3 n b hn
   ·simp only [BQ7]
    refine ⟨u, us', rfl, r1, k2 bs (g5 bs fun j z hz => hb j z ?_), c5 bs fun j z hz => ?_⟩
    ·rw [List.getElem?_append_left (List.getElem?_eq_some_iff.1 hz).1]; exact hz
    ·have := hb (ins1.length + j) z (by rw [List.getElem?_append_right (by omega)]; simpa using hz)
     rwa [← Nat.add_assoc] at this
  ·rename_i hm
   obtain ⟨⟨zs, more⟩, o2, h2, h3⟩ := run_bind.1 h
   simp only [ab7] at h3
   obtain ⟨h3, rfl⟩ := h3
   cases h3
   obtain ⟨f2, fps2, c1, c2, c3, c4, c5⟩ := hF7 h2 hr r2
   refine ⟨f2, fps2, c1, c2, c3, c4, fun bs hb => ?_⟩
   simp only [BQ7]
   exact ⟨u, us', rfl, r1, by simpa using hm, c5 bs hb⟩
theorem hG7 {t : Tm} {o : aj7} {fps : Nat → List Nat} {fl : List Nat} (hr : HRel tb F K o fps fl w) (hF : ∀ k, F k → F' k) {bs : Nat → Option Nat × Nat} : ∀ {xs : List (Bool × Od)} {ys : List (Option AV)} {zs : List AV} {o' : aj7} {us : List Value}, (gr7 t xs = true ∨ ∀ n k, k ∈ fps n → F' k) → (g87 t xs ys).run o = some (zs, o') → BQ7 tb F w bs t xs ys us →
  o' = o ∧ aW7 tb F' w (zs.map (ow7 bs)) us
 | [], [], zs, o', us, hown, h, r => by
  simp only [g87, ab7] at h
  obtain ⟨rfl, rfl⟩ := h
  exact ⟨rfl, by simpa only [BQ7, List.map_nil, aW7] using r⟩
 | (m, x) :: xs, y :: ys, zs, o', us, hown, h, r => by
  simp only [g87] at h
  obtain ⟨z, o1, h1, h⟩ := run_bind.1 h
  obtain ⟨zs1, o2, h2, h3⟩ := run_bind.1 h
  simp only [ab7] at h3
  obtain ⟨rfl, rfl⟩ := h3
  simp only [BQ7] at r
  obtain ⟨u, us', rfl, r1, r2, r3⟩ := r
  have hown2 : gr7 t xs = true ∨ ∀ n k, k ∈ fps n → F' k := by
   rcases hown with h | h
   ·simp only [gr7, List.all_cons, Bool.and_eq_true] at h; exact .inl h.2
   ·exact .inr h
  have key : o1 = o ∧ ay7 tb F' w (ow7 bs z) u := by
   cases y with
   | some y =>
    simp only [ab7] at h1
    obtain ⟨rfl, rfl⟩ := h1
    exact ⟨rfl, co7 (fun _ _ => rfl) hF _ _ r2⟩
   | none =>
    simp only at r2 h1
    subst r2
    obtain ⟨k1, k2, k3, k4⟩ := pP7 hr hF _ (by
     rcases hown with h | h
     ·simp only [gr7, List.all_cons, Bool.and_eq_true, Bool.false_or] at h; exact .inl h.1
     ·exact .inr h) h1 r1
    exact ⟨k1, by rw [k4]; exact k2⟩
  obtain ⟨rfl, k1⟩ := key
  obtain ⟨rfl, k2⟩ := hG7 hr hF hown2 h2 r3
  exact ⟨rfl, by simp only [List.map_cons, aW7]; exact ⟨u, us', rfl, k1, k2⟩⟩
 | [], _ :: _, zs, o', us, hown, h, r => by simp [g87, al7] at h
 | _ :: _, [], zs, o', us, hown, h, r => by simp [g87, al7] at h
mutual
theorem wB7 : ∀ (c : T) {u : Value} {f : List Nat}, zx7 c = true → OWc tb F' w c u f → OWc tb F w c u f
 | .v x, u, f, h, r => by simpa only [OWc] using r
 | .sl true k rows, u, f, h, r => by
  simp only [zx7] at h
  simp only [OWc] at r ⊢
  rcases r with r | ⟨g, cap, cur, fp', h1, h2, h3, h4, h5, h6, h7⟩
  ·exact .inl r
  ·exact .inr ⟨g, cap, cur, fp', h1, h2, h3, h4, h5, h6, jh7 rows h h7⟩
 | .sl false k rows, u, f, h, r => by
  simp only [zx7, List.isEmpty_iff] at h
  subst h
  simp only [OWc] at r ⊢
  obtain ⟨h0, A, cap, e, h1, h2, h3⟩ := r
  exact ⟨h0, A, cap, e, h1, h2, by simp [aI7]⟩
 | .al .., u, f, h, r => by simp [zx7] at h
 | .bx .., u, f, h, r => by simp [zx7] at h
 | .junk, u, f, h, r => by simp [zx7] at h
theorem ln7 {cur : Array Value} : ∀ (cs : List T) {p : Nat} {f : List Nat}, fb7 cs = true → ar7 tb F' w cur p cs f → ar7 tb F w cur p cs f
 | [], p, f, h, r => by simpa only [ar7] using r
 | c :: cs, p, f, h, r => by
  simp only [fb7, Bool.and_eq_true] at h
  simp only [ar7] at r ⊢
  obtain ⟨f1, f2, u, rfl, h1, h2, h3⟩ := r
  exact ⟨f1, f2, u, rfl, h1, wB7 c h.1 h2, ln7 cs h.2 h3⟩
theorem jh7 {cur : Array Value} {k : Nat} : ∀ (rows : Rows) {i : Nat} {f : List Nat}, d27 rows = true → at7 tb F' w cur k i rows f → at7 tb F w cur k i rows f
 | [], i, f, h, r => by simpa only [at7] using r
 | c :: cs, i, f, h, r => by
  simp only [d27, Bool.and_eq_true] at h
  simp only [at7] at r ⊢
  obtain ⟨f1, f2, rfl, h1, h2, h3⟩ := r
  exact ⟨f1, f2, rfl, h1, ln7 c h.1 h2, jh7 cs h.2 h3⟩
end
theorem wC7 : ∀ {cs : List T} {us : List Value} {f : List Nat}, fb7 cs = true → OWl tb F' w cs us f → OWl tb F w cs us f
 | [], us, f, h, r => by simpa only [OWl] using r
 | c :: cs, us, f, h, r => by
  simp only [fb7, Bool.and_eq_true] at h
  simp only [OWl] at r ⊢
  obtain ⟨u, us', f1, f2, h1, h2, h3, h4⟩ := r
  exact ⟨u, us', f1, f2, h1, h2, wB7 c h.1 h3, wC7 h.2 h4⟩
theorem wD7 {e : Ent} {f : List Nat} (h : d27 e.rows = true) (r : OWe tb F' w e f) : OWe tb F w e f := by
 unfold OWe at r ⊢
 split
 ·rename_i hb; rw [hb] at r; exact r
 ·rename_i g hb; rw [hb] at r
  obtain ⟨cur, fp', h1, h2, h3, h4, h5, h6⟩ := r
  exact ⟨cur, fp', h1, h2, h3, h4, h5, jh7 _ h h6⟩
def F57 (tb : Tab) (F : Nat → Prop) (w : World) (r : Bool × List T) (u : Value) (us : List Value) (f : List Nat) : Prop := OWl tb F w r.2 us f ∧ (if r.1 then u = .agg us.toArray else us = [u])
def sv7 (tb : Tab) (F : Nat → Prop) (w : World) : List (Bool × List T) → List Value → List Value → List Nat → Prop
 | [], vs, us, f => vs = [] ∧ us = [] ∧ f = []
 | r :: rs, vs, us, f => ∃ v vs' u1 u2 f1 f2, vs = v :: vs' ∧ us = u1 ++ u2 ∧ f = f1 ++ f2 ∧ F57 tb F w r v u1 f1 ∧ sv7 tb F w rs vs' u2 f2
def CT7 : List Value → Value
 | [u] => u
 | us => .tuple us.toArray
def bh7 : List Ent → List (Option Rows) → List Ent
 | [], [] => []
 | e :: es, some r :: rs => { e with rows := r } :: bh7 es rs
 | e :: es, none :: rs => { b := none, cap := 0, k := e.k, box := false, rows := [] } :: bh7 es rs
 | _, _ => []
structure Mx7 (tb : Tab) (F : Nat → Prop) (w : World) (es : List Ent) (fp : List Nat) (ans : Ans) (v : Value) (w' : World) : Prop where
 len : es.length = ans.outs.length
 rel : ∃ (F1 : Nat → Prop) (vs us : List Value) (f1 f2 : List Nat), (∀ k, F k → F1 k) ∧ (∀ k, F1 k → F k ∨ ¬ (k < w.heap.size ∧ k ∉ fp)) ∧ (∀ k, F1 k → k < w'.heap.size) ∧ eH7 tb F1 w' (bh7 es ans.outs) f1 ∧ sv7 tb F1 w' ans.res vs us f2 ∧ v = CT7 vs ∧ (f1 ++ f2).Nodup ∧ ∀ b, b ∈ f1 ++ f2 → b < w'.heap.size ∧ ¬ F1 b ∧ (b ∈ fp ∨ w.heap.size ≤ b)
 os : w'.os = w.os
 tape : w'.tape = w.tape
 output : w'.output = w.output
 size : w.heap.size ≤ w'.heap.size
 blk : ∀ k, k < w.heap.size → k ∉ fp → w'.heap[k]? = w.heap[k]?
def F67 (P : Program) (tb : Tab) (f : Nat) (xs : List AV) (ins : List (Bool × Nat × Rows)) (ans : Ans) : Prop :=
 mN7 P (tb.fn f) = true ∧ ∀ (F : Nat → Prop) (w : World) (us : List Value) (es : List Ent) (fp : List Nat) (bs : Nat → Option Nat × Nat),
  es.map (fun e => (e.box, e.k, e.rows)) = ins → (∀ (j : Nat) (e : Ent), es[j]? = some e → bs j = (e.b, e.cap)) → aW7 tb F w (xs.map (ow7 bs)) us → eH7 tb F w es fp → fp.Nodup → (∀ b, b ∈ fp → b < w.heap.size ∧ ¬ F b) → (∀ k, F k → k < w.heap.size) → GlOk tb F w →
  Calls P (tb.fn f) us.toArray w fun e w' => match e with
   | .returned v => Mx7 tb F w es fp ans v w'
   | _ => False
end Go.Proofs.AM
