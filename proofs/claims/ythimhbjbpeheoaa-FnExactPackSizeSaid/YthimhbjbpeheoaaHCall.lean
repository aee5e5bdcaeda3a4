/- A part of the proof of 'FnExactPackSizeSaid' (HCall): lemmas on an abstract machine for the program's functions. Conditions: none. -/
import Derived.Test.YthimhbjbpeheoaaHArg
set_option linter.unusedVariables false
set_option linter.unusedSimpArgs false
namespace Go.Proofs.AM
open Go.RowKit
variable {P : Program} {tb : Tab} {F F' K : Nat → Prop} {w : World}
def noagg : AV → Bool
  | .agg _ => false
  | _ => true
theorem giveL_noagg : ∀ {i : Nat} {cs ys : List AV} {ins : List In} {o o' : Heap}, (giveL i cs).run o = some ((ys, ins), o') → ∀ y ∈ ys, noagg y = true
  | i, [], ys, ins, o, o', h => by
    simp only [giveL, run_ret2] at h
    obtain ⟨h, rfl⟩ := h
    cases h
    simp
  | i, .ref n b cap off len k :: cs, ys, ins, o, o', h => by
    simp only [giveL, run_askb, run_needb, run_layb] at h
    obtain ⟨e, he, _, h⟩ := h
    obtain ⟨⟨xs, ins1⟩, o1, h1, h2⟩ := run_bind.1 h
    simp only [run_ret2] at h2
    obtain ⟨h2, rfl⟩ := h2
    cases h2
    have := giveL_noagg h1
    simp only [List.mem_cons, forall_eq_or_imp]
    exact ⟨rfl, this⟩
  | i, .ptr n b k rr c :: cs, ys, ins, o, o', h => by
    simp only [giveL, run_askb, run_needb, run_layb] at h
    obtain ⟨e, he, _, h⟩ := h
    obtain ⟨row, o0, h0, h⟩ := run_bind.1 h
    obtain ⟨⟨xs, ins1⟩, o1, h1, h2⟩ := run_bind.1 h
    simp only [run_ret2] at h2
    obtain ⟨h2, rfl⟩ := h2
    cases h2
    have := giveL_noagg h1
    simp only [List.mem_cons, forall_eq_or_imp]
    exact ⟨rfl, this⟩
  | i, .nil :: cs, ys, ins, o, o', h => by
    simp only [giveL] at h
    obtain ⟨⟨xs, ins1⟩, o1, h1, h2⟩ := run_bind.1 h
    simp only [run_ret2] at h2
    obtain ⟨h2, rfl⟩ := h2
    cases h2
    have := giveL_noagg h1
    simp only [List.mem_cons, forall_eq_or_imp]
    exact ⟨rfl, this⟩
  | i, .v x :: cs, ys, ins, o, o', h => by
    simp only [giveL] at h
    obtain ⟨⟨xs, ins1⟩, o1, h1, h2⟩ := run_bind.1 h
    simp only [run_ret2] at h2
    obtain ⟨h2, rfl⟩ := h2
    cases h2
    have := giveL_noagg h1
    simp only [List.mem_cons, forall_eq_or_imp]
    exact ⟨rfl, this⟩
  | i, .ro _ :: cs, ys, ins, o, o', h => by simp [giveL, run_fail] at h
  | i, .rptr _ :: cs, ys, ins, o, o', h => by simp [giveL, run_fail] at h
  | i, .agg _ :: cs, ys, ins, o, o', h => by simp [giveL, run_fail] at h
  | i, .tup _ :: cs, ys, ins, o, o', h => by simp [giveL, run_fail] at h
  | i, .fn .. :: cs, ys, ins, o, o', h => by simp [giveL, run_fail] at h
  | i, .io .. :: cs, ys, ins, o, o', h => by simp [giveL, run_fail] at h
  | i, .pio .. :: cs, ys, ins, o, o', h => by simp [giveL, run_fail] at h
  | i, .junk :: cs, ys, ins, o, o', h => by simp [giveL, run_fail] at h
def GRel (tb : Tab) (F : Nat → Prop) (w : World) (bs : Nat → Option Nat × Nat) (t : Tm) : List (Bool × Od) → List (Option AV) → List Value → Prop
  | [], [], us => us = []
  | (m, x) :: xs, y :: ys, us => ∃ u us', us = u :: us' ∧ RelV tb F w (ev t x) u ∧ (match y with | some y => RelV tb F w (parA bs y) u | none => m = false) ∧ GRel tb F w bs t xs ys us'
  | _, _, _ => False
theorem gives_sound {t : Tm} : ∀ {i : Nat} {xs : List (Bool × Od)} {ys : List (Option AV)} {ins : List In} {o o' : Heap} {fps : Nat → List Nat} {fl : List Nat} {us : List Value}, (gives t i xs).run o = some ((ys, ins), o') → HRel tb F K o fps fl w → RelL tb F w (xs.map fun x => ev t x.2) us →
    ∃ f fps', OWes tb F w (ins.map (·.e)) f ∧ HRel tb F K o' fps' (f ++ fl) w ∧ Sub fps' fps ∧ (∀ b, b ∈ f → ∃ n, b ∈ fps n) ∧ ∀ bs, Tells bs i ins → GRel tb F w bs t xs ys us
  | i, [], ys, ins, o, o', fps, fl, us, h, hr, r => by
    simp only [gives, run_ret2] at h
    obtain ⟨h, rfl⟩ := h
    cases h
    exact ⟨[], fps, rfl, by simpa using hr, Sub.refl _, by simp, fun bs _ => by simpa only [GRel, List.map_nil, RelL] using r⟩
  | i, (m, x) :: xs, ys, ins, o, o', fps, fl, us, h, hr, r => by
    simp only [gives] at h
    simp only [List.map_cons, RelL] at r
    obtain ⟨u, us', rfl, r1, r2⟩ := r
    split at h
    · obtain ⟨⟨ys1, ins1⟩, o1, h1, h⟩ := run_bind.1 h
      simp only [run_orFailb] at h
      obtain ⟨y, hy, h⟩ := h
      obtain ⟨⟨zs, more⟩, o2, h2, h3⟩ := run_bind.1 h
      simp only [run_ret2] at h3
      obtain ⟨h3, rfl⟩ := h3
      cases h3
      have key : ∃ vs, RelL tb F w (flat (ev t x)) vs ∧ ∀ bs, RelL tb F w (ys1.map (parC bs)) vs → RelV tb F w (parA bs y) u := by
        have na := giveL_noagg h1
        generalize ev t x = z at *
        cases z with
        | agg cs =>
          simp only [RelV] at r1
          obtain ⟨vs, rfl, r1⟩ := r1
          simp only [isAgg', one, if_true, Option.some.injEq] at hy
          subst hy
          exact ⟨vs, r1, fun bs hb => by simp only [parA, RelV]; exact ⟨vs, rfl, hb⟩⟩
        | _ =>
          simp only [isAgg', one, Bool.false_eq_true, if_false] at hy
          split at hy
          · cases hy
            refine ⟨[u], by simp only [flat, RelL]; exact ⟨u, [], rfl, r1, rfl⟩, fun bs hb => ?_⟩
            simp only [List.map_cons, List.map_nil, RelL] at hb
            obtain ⟨u1, us1, hu, hb, _⟩ := hb
            cases hu
            have hna := na y (by simp)
            cases y <;> first | exact hb | (cases hna)
          · cases hy
      obtain ⟨vs, k1, k2⟩ := key
      obtain ⟨f1, fps1, g1, g2, g3, g4, g5⟩ := giveL_sound h1 hr k1
      obtain ⟨f2, fps2, c1, c2, c3, c4, c5⟩ := gives_sound h2 g2 r2
      refine ⟨f1 ++ f2, fps2, by rw [List.map_append]; exact OWes_append g1 c1, c2.perm ?_, c3.trans g3, fun b hb => ?_, fun bs hb => ?_⟩
      · rw [← List.append_assoc]
        exact List.Perm.append_right _ List.perm_append_comm
      · rcases List.mem_append.1 hb with hb | hb
        · exact g4 b hb
        · obtain ⟨n, hn⟩ := c4 b hb
          exact g3 n b hn
      · simp only [GRel]
        refine ⟨u, us', rfl, r1, k2 bs (g5 bs fun j z hz => hb j z ?_), c5 bs fun j z hz => ?_⟩
        · rw [List.getElem?_append_left (List.getElem?_eq_some_iff.1 hz).1]; exact hz
        · have := hb (ins1.length + j) z (by rw [List.getElem?_append_right (by omega)]; simpa using hz)
          rwa [← Nat.add_assoc] at this
    · rename_i hm
      obtain ⟨⟨zs, more⟩, o2, h2, h3⟩ := run_bind.1 h
      simp only [run_ret2] at h3
      obtain ⟨h3, rfl⟩ := h3
      cases h3
      obtain ⟨f2, fps2, c1, c2, c3, c4, c5⟩ := gives_sound h2 hr r2
      refine ⟨f2, fps2, c1, c2, c3, c4, fun bs hb => ?_⟩
      simp only [GRel]
      exact ⟨u, us', rfl, r1, by simpa using hm, c5 bs hb⟩
theorem lends_sound {t : Tm} {o : Heap} {fps : Nat → List Nat} {fl : List Nat} (hr : HRel tb F K o fps fl w) (hF : ∀ k, F k → F' k) {bs : Nat → Option Nat × Nat} : ∀ {xs : List (Bool × Od)} {ys : List (Option AV)} {zs : List AV} {o' : Heap} {us : List Value}, (frzA t xs = true ∨ ∀ n k, k ∈ fps n → F' k) → (lends t xs ys).run o = some (zs, o') → GRel tb F w bs t xs ys us →
    o' = o ∧ RelL tb F' w (zs.map (parA bs)) us
  | [], [], zs, o', us, hown, h, r => by
    simp only [lends, run_ret2] at h
    obtain ⟨rfl, rfl⟩ := h
    exact ⟨rfl, by simpa only [GRel, List.map_nil, RelL] using r⟩
  | (m, x) :: xs, y :: ys, zs, o', us, hown, h, r => by
    simp only [lends] at h
    obtain ⟨z, o1, h1, h⟩ := run_bind.1 h
    obtain ⟨zs1, o2, h2, h3⟩ := run_bind.1 h
    simp only [run_ret2] at h3
    obtain ⟨rfl, rfl⟩ := h3
    simp only [GRel] at r
    obtain ⟨u, us', rfl, r1, r2, r3⟩ := r
    have hown2 : frzA t xs = true ∨ ∀ n k, k ∈ fps n → F' k := by
      rcases hown with h | h
      · simp only [frzA, List.all_cons, Bool.and_eq_true] at h; exact .inl h.2
      · exact .inr h
    have key : o1 = o ∧ RelV tb F' w (parA bs z) u := by
      cases y with
      | some y =>
        simp only [run_ret2] at h1
        obtain ⟨rfl, rfl⟩ := h1
        exact ⟨rfl, RelV_keep (fun _ _ => rfl) hF _ _ r2⟩
      | none =>
        simp only at r2 h1
        subst r2
        obtain ⟨k1, k2, k3, k4⟩ := bor_sound hr hF _ (by
          rcases hown with h | h
          · simp only [frzA, List.all_cons, Bool.and_eq_true, Bool.false_or] at h; exact .inl h.1
          · exact .inr h) h1 r1
        exact ⟨k1, by rw [k4]; exact k2⟩
    obtain ⟨rfl, k1⟩ := key
    obtain ⟨rfl, k2⟩ := lends_sound hr hF hown2 h2 r3
    exact ⟨rfl, by simp only [List.map_cons, RelL]; exact ⟨u, us', rfl, k1, k2⟩⟩
  | [], _ :: _, zs, o', us, hown, h, r => by simp [lends, run_fail] at h
  | _ :: _, [], zs, o', us, hown, h, r => by simp [lends, run_fail] at h
mutual
theorem OWc_own : ∀ (c : T) {u : Value} {f : List Nat}, ownT c = true → OWc tb F' w c u f → OWc tb F w c u f
  | .v x, u, f, h, r => by simpa only [OWc] using r
  | .sl true k rows, u, f, h, r => by
    simp only [ownT] at h
    simp only [OWc] at r ⊢
    rcases r with r | ⟨g, cap, cur, fp', h1, h2, h3, h4, h5, h6, h7⟩
    · exact .inl r
    · exact .inr ⟨g, cap, cur, fp', h1, h2, h3, h4, h5, h6, OWrows_own rows h h7⟩
  | .sl false k rows, u, f, h, r => by
    simp only [ownT, List.isEmpty_iff] at h
    subst h
    simp only [OWc] at r ⊢
    obtain ⟨h0, A, cap, e, h1, h2, h3⟩ := r
    exact ⟨h0, A, cap, e, h1, h2, by simp [ROrows]⟩
  | .al .., u, f, h, r => by simp [ownT] at h
  | .junk, u, f, h, r => by simp [ownT] at h
theorem OWcells_own {cur : Array Value} : ∀ (cs : List T) {p : Nat} {f : List Nat}, ownL cs = true → OWcells tb F' w cur p cs f → OWcells tb F w cur p cs f
  | [], p, f, h, r => by simpa only [OWcells] using r
  | c :: cs, p, f, h, r => by
    simp only [ownL, Bool.and_eq_true] at h
    simp only [OWcells] at r ⊢
    obtain ⟨f1, f2, u, rfl, h1, h2, h3⟩ := r
    exact ⟨f1, f2, u, rfl, h1, OWc_own c h.1 h2, OWcells_own cs h.2 h3⟩
theorem OWrows_own {cur : Array Value} {k : Nat} : ∀ (rows : Rows) {i : Nat} {f : List Nat}, ownR rows = true → OWrows tb F' w cur k i rows f → OWrows tb F w cur k i rows f
  | [], i, f, h, r => by simpa only [OWrows] using r
  | c :: cs, i, f, h, r => by
    simp only [ownR, Bool.and_eq_true] at h
    simp only [OWrows] at r ⊢
    obtain ⟨f1, f2, rfl, h1, h2, h3⟩ := r
    exact ⟨f1, f2, rfl, h1, OWcells_own c h.1 h2, OWrows_own cs h.2 h3⟩
end
theorem OWl_own : ∀ {cs : List T} {us : List Value} {f : List Nat}, ownL cs = true → OWl tb F' w cs us f → OWl tb F w cs us f
  | [], us, f, h, r => by simpa only [OWl] using r
  | c :: cs, us, f, h, r => by
    simp only [ownL, Bool.and_eq_true] at h
    simp only [OWl] at r ⊢
    obtain ⟨u, us', f1, f2, h1, h2, h3, h4⟩ := r
    exact ⟨u, us', f1, f2, h1, h2, OWc_own c h.1 h3, OWl_own h.2 h4⟩
theorem OWe_own {e : Ent} {f : List Nat} (h : ownR e.rows = true) (r : OWe tb F' w e f) : OWe tb F w e f := by
  unfold OWe at r ⊢
  split
  · rename_i hb; rw [hb] at r; exact r
  · rename_i g hb; rw [hb] at r
    obtain ⟨cur, fp', h1, h2, h3, h4, h5, h6⟩ := r
    exact ⟨cur, fp', h1, h2, h3, h4, h5, OWrows_own _ h h6⟩
def ResV (tb : Tab) (F : Nat → Prop) (w : World) (r : Bool × List T) (u : Value) (us : List Value) (f : List Nat) : Prop := OWl tb F w r.2 us f ∧ (if r.1 then u = .agg us.toArray else us = [u])
def ResL (tb : Tab) (F : Nat → Prop) (w : World) : List (Bool × List T) → List Value → List Value → List Nat → Prop
  | [], vs, us, f => vs = [] ∧ us = [] ∧ f = []
  | r :: rs, vs, us, f => ∃ v vs' u1 u2 f1 f2, vs = v :: vs' ∧ us = u1 ++ u2 ∧ f = f1 ++ f2 ∧ ResV tb F w r v u1 f1 ∧ ResL tb F w rs vs' u2 f2
def tupV : List Value → Value
  | [u] => u
  | us => .tuple us.toArray
def withRows : List Ent → List Rows → List Ent
  | [], [] => []
  | e :: es, r :: rs => { e with rows := r } :: withRows es rs
  | _, _ => []
structure Post (tb : Tab) (F : Nat → Prop) (w : World) (es : List Ent) (fp : List Nat) (ans : Ans) (v : Value) (w' : World) : Prop where
  len : es.length = ans.outs.length
  rel : ∃ (F1 : Nat → Prop) (vs us : List Value) (f1 f2 : List Nat), (∀ k, F k → F1 k) ∧ (∀ k, F1 k → F k ∨ ¬ (k < w.heap.size ∧ k ∉ fp)) ∧ (∀ k, F1 k → k < w'.heap.size) ∧ OWes tb F1 w' (withRows es ans.outs) f1 ∧ ResL tb F1 w' ans.res vs us f2 ∧ v = tupV vs ∧ (f1 ++ f2).Nodup ∧ ∀ b, b ∈ f1 ++ f2 → b < w'.heap.size ∧ ¬ F1 b ∧ (b ∈ fp ∨ w.heap.size ≤ b)
  os : w'.os = w.os
  tape : w'.tape = w.tape
  output : w'.output = w.output
  size : w.heap.size ≤ w'.heap.size
  blk : ∀ k, k < w.heap.size → k ∉ fp → w'.heap[k]? = w.heap[k]?
def Good (P : Program) (tb : Tab) (f : Nat) (xs : List AV) (ins : List (Bool × Nat × Rows)) (ans : Ans) : Prop :=
  funOk P (tb.fn f) = true ∧ ∀ (F : Nat → Prop) (w : World) (us : List Value) (es : List Ent) (fp : List Nat) (bs : Nat → Option Nat × Nat),
    es.map (fun e => (e.box, e.k, e.rows)) = ins → (∀ (j : Nat) (e : Ent), es[j]? = some e → bs j = (e.b, e.cap)) → RelL tb F w (xs.map (parA bs)) us → OWes tb F w es fp → fp.Nodup → (∀ b, b ∈ fp → b < w.heap.size ∧ ¬ F b) → (∀ k, F k → k < w.heap.size) →
    Calls P (tb.fn f) us.toArray w fun e w' => match e with
      | .returned v => Post tb F w es fp ans v w'
      | _ => False
end Go.Proofs.AM
