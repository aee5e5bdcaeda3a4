/- A part of the proof of 'FnExactPackSizeSaid' (HArg): lemmas on an abstract machine for the program's functions. Conditions: none. -/
import Derived.Test.YthimhbjbpeheoaaHBor
set_option linter.unusedVariables false
set_option linter.unusedSimpArgs false
namespace Go.Proofs.AM
open Go.RowKit
variable {P : Program} {tb : Tab} {F F' K : Nat → Prop} {w : World}
def OWes (tb : Tab) (F : Nat → Prop) (w : World) : List Ent → List Nat → Prop
  | [], f => f = []
  | e :: es, f => ∃ f1 f2, f = f1 ++ f2 ∧ OWe tb F w e f1 ∧ OWes tb F w es f2
theorem OWes_append : ∀ {as bs : List Ent} {f g : List Nat}, OWes tb F w as f → OWes tb F w bs g → OWes tb F w (as ++ bs) (f ++ g)
  | [], bs, f, g, h, h' => by simp only [OWes] at h; subst h; simpa using h'
  | a :: as, bs, f, g, h, h' => by
    simp only [OWes] at h
    obtain ⟨f1, f2, rfl, h1, h2⟩ := h
    simp only [List.cons_append, OWes, List.append_assoc]
    exact ⟨f1, f2 ++ g, rfl, h1, OWes_append h2 h'⟩
theorem closeT_sound {o o' : Heap} {fps : Nat → List Nat} {fl f : List Nat} {c c' : T} {u : Value} (h : (closeT c).run o = some (c', o')) (hr : HRel tb F K o fps (f ++ fl) w) (r : OWc tb F w c u f) :
    ∃ f' fps', OWc tb F w c' u f' ∧ HRel tb F K o' fps' (f' ++ fl) w ∧ Sub fps' fps ∧ (∀ b, b ∈ f' → b ∈ f ∨ ∃ n, b ∈ fps n) := by
  cases c with
  | al n b cap off len k =>
    simp only [closeT, run_askb, run_needb, run_layb, run_ret2, Bool.and_eq_true, decide_eq_true_eq, Bool.not_eq_true'] at h
    obtain ⟨e, he, ⟨⟨⟨⟨⟨q1, q2⟩, q3⟩, q4⟩, q5⟩, q6⟩, rfl, rfl⟩ := h
    simp only [OWc] at r
    obtain ⟨rfl, r⟩ := r
    subst q3
    obtain ⟨f', g1, g2, g3⟩ := move_sound (by simpa using hr) he q1 q2 q6 q4 r
    exact ⟨f', _, g1, g2, Sub.take _ _, fun b hb => .inr ⟨n, g3 b hb⟩⟩
  | _ =>
    simp only [closeT, run_ret2] at h
    obtain ⟨rfl, rfl⟩ := h
    exact ⟨f, fps, r, hr, Sub.refl _, fun b hb => .inl hb⟩
theorem closeTs_sound : ∀ {cs cs' : List T} {o o' : Heap} {fps : Nat → List Nat} {fl f : List Nat} {us : List Value}, (closeTs cs).run o = some (cs', o') → HRel tb F K o fps (f ++ fl) w → OWl tb F w cs us f →
    ∃ f' fps', OWl tb F w cs' us f' ∧ cs'.length = cs.length ∧ HRel tb F K o' fps' (f' ++ fl) w ∧ Sub fps' fps ∧ (∀ b, b ∈ f' → b ∈ f ∨ ∃ n, b ∈ fps n)
  | [], cs', o, o', fps, fl, f, us, h, hr, r => by
    simp only [closeTs, run_ret2] at h
    obtain ⟨rfl, rfl⟩ := h
    exact ⟨f, fps, r, rfl, hr, Sub.refl _, fun b hb => .inl hb⟩
  | c :: cs, cs', o, o', fps, fl, f, us, h, hr, r => by
    simp only [closeTs] at h
    obtain ⟨x, o1, h1, h⟩ := run_bind.1 h
    obtain ⟨xs, o2, h2, h3⟩ := run_bind.1 h
    simp only [run_ret2] at h3
    obtain ⟨rfl, rfl⟩ := h3
    simp only [OWl] at r
    obtain ⟨u, us', f1, f2, rfl, rfl, r1, r2⟩ := r
    obtain ⟨f1', fps1, g1, g2, g3, g4⟩ := closeT_sound h1 (by rwa [List.append_assoc] at hr) r1
    obtain ⟨f2', fps2, k1, k2, k3, k4, k5⟩ := closeTs_sound (fl := f1' ++ fl) h2 (g2.perm (by
      rw [← List.append_assoc, ← List.append_assoc]
      exact List.Perm.append_right _ List.perm_append_comm)) r2
    refine ⟨f1' ++ f2', fps2, by simp only [OWl]; exact ⟨u, us', f1', f2', rfl, rfl, g1, k1⟩, by simp [k2], k3.perm ?_, k4.trans g3, fun b hb => ?_⟩
    · rw [← List.append_assoc]
      exact List.Perm.append_right _ List.perm_append_comm
    · rcases List.mem_append.1 hb with hb | hb
      · rcases g4 b hb with h | h
        · exact .inl (by simp [h])
        · exact .inr h
      · rcases k5 b hb with h | ⟨n, hn⟩
        · exact .inl (by simp [h])
        · exact .inr (g3 n b hn)
theorem box_close {o o' : Heap} {fps : Nat → List Nat} {fl fp : List Nat} {e : Ent} {row : List T} (hE : OWe tb F w e fp) (h1 : e.rows.length = 1) (hr : HRel tb F K o fps (fp ++ fl) w) (h : (closeTs (e.rows.getD 0 [])).run o = some (row, o')) :
    ∃ fp' fps', OWe tb F w { e with rows := [row] } fp' ∧ HRel tb F K o' fps' (fp' ++ fl) w ∧ Sub fps' fps ∧ (∀ b, b ∈ fp' → b ∈ fp ∨ ∃ n, b ∈ fps n) ∧
      ∃ (g : Nat) (cur : Array Value) (us : List Value) (f : List Nat), e.b = some g ∧ w.heap[g]? = some (.cells cur (tb.ty e.k) (0, 0)) ∧ OWl tb F w row us f ∧ fp' = g :: f ∧ row.length = esz e.k ∧ (∀ (j : Nat) (u : Value), us[j]? = some u → cur[j]? = some u) := by
  match hrows : e.rows with
  | [] => rw [hrows] at h1; simp at h1
  | r0 :: rs =>
    have hrs : rs = [] := by rw [hrows] at h1; simpa using h1
    subst hrs
    unfold OWe at hE
    cases heb : e.b with
    | none => rw [heb] at hE; rw [hrows] at hE; exact absurd hE.1 (by simp)
    | some g =>
      rw [heb, hrows] at hE
      obtain ⟨cur, f0, e1, e2, e3, e4, rfl, e6⟩ := hE
      simp only [OWrows, Nat.zero_mul] at e6
      obtain ⟨f1, f2, rfl, e7, e8, rfl⟩ := e6
      rw [hrows] at h
      simp only [List.getD_cons_zero] at h
      obtain ⟨us, m1, m2⟩ := OWcells_l e8
      obtain ⟨f', fps', k1, k2, k3, k4, k5⟩ := closeTs_sound (fl := g :: fl) h (hr.perm (by
        simp only [List.append_nil, List.cons_append]
        exact List.perm_middle)) m1
      refine ⟨g :: f', fps', ?_, k3.perm ?_, k4, fun b hb => ?_, g, cur, us, f', rfl, e1, k1, rfl, by rw [k2, e7], by simpa using m2⟩
      · unfold OWe
        simp only [heb]
        refine ⟨cur, f', e1, e2, by simpa using e3, e4, rfl, ?_⟩
        simp only [OWrows, Nat.zero_mul]
        exact ⟨f', [], by simp, by rw [k2, e7], OWl_cells k1 m2, rfl⟩
      · simp only [List.cons_append]
        exact List.perm_middle.symm
      · rcases List.mem_cons.1 hb with rfl | hb
        · exact .inl (by simp)
        · rcases k5 b hb with h | h
          · exact .inl (by simp [h])
          · exact .inr h
def Tells (bs : Nat → Option Nat × Nat) (i : Nat) (ins : List In) : Prop := ∀ (j : Nat) (x : In), ins[j]? = some x → bs (i + j) = (x.e.b, x.e.cap)
theorem Tells.tail {bs : Nat → Option Nat × Nat} {i : Nat} {x : In} {ins : List In} (h : Tells bs i (x :: ins)) : Tells bs (i + 1) ins := fun j y hy => by
  have := h (j + 1) y (by simpa using hy)
  rwa [show i + (j + 1) = i + 1 + j by omega] at this
theorem giveL_sound : ∀ {i : Nat} {cs ys : List AV} {ins : List In} {o o' : Heap} {fps : Nat → List Nat} {fl : List Nat} {us : List Value}, (giveL i cs).run o = some ((ys, ins), o') → HRel tb F K o fps fl w → RelL tb F w cs us →
    ∃ f fps', OWes tb F w (ins.map (·.e)) f ∧ HRel tb F K o' fps' (f ++ fl) w ∧ Sub fps' fps ∧ (∀ b, b ∈ f → ∃ n, b ∈ fps n) ∧ ∀ bs, Tells bs i ins → RelL tb F w (ys.map (parC bs)) us
  | i, [], ys, ins, o, o', fps, fl, us, h, hr, r => by
    simp only [giveL, run_ret2] at h
    obtain ⟨h, rfl⟩ := h
    cases h
    exact ⟨[], fps, rfl, by simpa using hr, Sub.refl _, by simp, fun bs _ => by simpa only [List.map_nil, RelL] using r⟩
  | i, .ref n b cap off len k :: cs, ys, ins, o, o', fps, fl, us, h, hr, r => by
    simp only [giveL, run_askb, run_needb, run_layb, Bool.and_eq_true, decide_eq_true_eq, Bool.not_eq_true'] at h
    obtain ⟨e, he, ⟨⟨⟨⟨⟨q1, q2⟩, q3⟩, q4⟩, q5⟩, q6⟩, h⟩ := h
    obtain ⟨⟨xs, ins1⟩, o1, h1, h2⟩ := run_bind.1 h
    simp only [run_ret2] at h2
    obtain ⟨h2, rfl⟩ := h2
    cases h2
    simp only [RelL] at r
    obtain ⟨u, us', rfl, r1, r2⟩ := r
    have hE := hr.ents n e he
    obtain ⟨f, fps1, g1, g2, g3, g4, g5⟩ := giveL_sound h1 (hr.take n) r2
    subst q4
    refine ⟨fps n ++ f, fps1, ?_, g2.perm ?_, g3.trans (Sub.take _ _), fun x hx => ?_, fun bs hb => ?_⟩
    · simp only [List.map_cons, OWes]
      exact ⟨_, _, rfl, hE, g1⟩
    · rw [← List.append_assoc]
      exact List.Perm.append_right _ List.perm_append_comm
    · rcases List.mem_append.1 hx with hx | hx
      · exact ⟨n, hx⟩
      · obtain ⟨m, hm⟩ := g4 x hx
        exact Sub.take _ _ m x hm
    · have hb0 := hb 0 _ rfl
      simp only [List.map_cons, RelL]
      refine ⟨u, us', rfl, ?_, g5 bs hb.tail⟩
      simp only [Nat.add_zero] at hb0
      simp only [parC, hb0, q1, q2]
      simpa only [RelV] using r1
  | i, .ptr n b k rr c :: cs, ys, ins, o, o', fps, fl, us, h, hr, r => by
    simp only [giveL, run_askb, run_needb, run_layb, Bool.and_eq_true, decide_eq_true_eq, Bool.not_eq_true'] at h
    obtain ⟨e, he, ⟨⟨⟨⟨⟨q1, q2⟩, q3⟩, q4⟩, q5⟩, q6⟩, h⟩ := h
    obtain ⟨row, o0, h0, h⟩ := run_bind.1 h
    obtain ⟨⟨xs, ins1⟩, o1, h1, h2⟩ := run_bind.1 h
    simp only [run_ret2] at h2
    obtain ⟨h2, rfl⟩ := h2
    cases h2
    simp only [RelL] at r
    obtain ⟨u, us', rfl, r1, r2⟩ := r
    have hE := hr.ents n e he
    obtain ⟨fp', fps0, c1, c2, c3, c4, c5⟩ := box_close hE q3 (hr.take n) h0
    obtain ⟨f, fps1, g1, g2, g3, g4, g5⟩ := giveL_sound h1 c2 r2
    subst q4
    subst q5
    refine ⟨fp' ++ f, fps1, ?_, g2.perm ?_, g3.trans (c3.trans (Sub.take _ _)), fun x hx => ?_, fun bs hb => ?_⟩
    · simp only [List.map_cons, OWes]
      exact ⟨_, _, rfl, c1, g1⟩
    · rw [← List.append_assoc]
      exact List.Perm.append_right _ List.perm_append_comm
    · rcases List.mem_append.1 hx with hx | hx
      · rcases c4 x hx with h | ⟨m, hm⟩
        · exact ⟨n, h⟩
        · exact Sub.take _ _ m x hm
      · obtain ⟨m, hm⟩ := g4 x hx
        obtain ⟨m', hm'⟩ := c3 m x hm
        exact Sub.take _ _ m' x hm'
    · have hb0 := hb 0 _ rfl
      simp only [List.map_cons, RelL]
      refine ⟨u, us', rfl, ?_, g5 bs hb.tail⟩
      simp only [Nat.add_zero] at hb0
      simp only [parC, hb0, q1]
      simpa only [RelV] using r1
  | i, .nil :: cs, ys, ins, o, o', fps, fl, us, h, hr, r => by
    simp only [giveL] at h
    obtain ⟨⟨xs, ins1⟩, o1, h1, h2⟩ := run_bind.1 h
    simp only [run_ret2] at h2
    obtain ⟨h2, rfl⟩ := h2
    cases h2
    simp only [RelL] at r
    obtain ⟨u, us', rfl, r1, r2⟩ := r
    obtain ⟨f, fps1, g1, g2, g3, g4, g5⟩ := giveL_sound h1 hr r2
    refine ⟨f, fps1, g1, g2, g3, g4, fun bs hb => ?_⟩
    simp only [List.map_cons, RelL]
    refine ⟨u, us', rfl, ?_, g5 bs hb⟩
    simp only [RelV] at r1
    simp only [parC, RelV]
    exact ⟨none, 0, 0, r1, Nat.le_refl _, by simp [ROrows]⟩
  | i, .v x :: cs, ys, ins, o, o', fps, fl, us, h, hr, r => by
    simp only [giveL] at h
    obtain ⟨⟨xs, ins1⟩, o1, h1, h2⟩ := run_bind.1 h
    simp only [run_ret2] at h2
    obtain ⟨h2, rfl⟩ := h2
    cases h2
    simp only [RelL] at r
    obtain ⟨u, us', rfl, r1, r2⟩ := r
    obtain ⟨f, fps1, g1, g2, g3, g4, g5⟩ := giveL_sound h1 hr r2
    refine ⟨f, fps1, g1, g2, g3, g4, fun bs hb => ?_⟩
    simp only [List.map_cons, RelL]
    exact ⟨u, us', rfl, by simpa only [parC] using r1, g5 bs hb⟩
  | i, .ro _ :: cs, ys, ins, o, o', fps, fl, us, h, hr, r => by simp [giveL, run_fail] at h
  | i, .rptr _ :: cs, ys, ins, o, o', fps, fl, us, h, hr, r => by simp [giveL, run_fail] at h
  | i, .agg _ :: cs, ys, ins, o, o', fps, fl, us, h, hr, r => by simp [giveL, run_fail] at h
  | i, .tup _ :: cs, ys, ins, o, o', fps, fl, us, h, hr, r => by simp [giveL, run_fail] at h
  | i, .fn .. :: cs, ys, ins, o, o', fps, fl, us, h, hr, r => by simp [giveL, run_fail] at h
  | i, .io .. :: cs, ys, ins, o, o', fps, fl, us, h, hr, r => by simp [giveL, run_fail] at h
  | i, .pio .. :: cs, ys, ins, o, o', fps, fl, us, h, hr, r => by simp [giveL, run_fail] at h
  | i, .junk :: cs, ys, ins, o, o', fps, fl, us, h, hr, r => by simp [giveL, run_fail] at h
end Go.Proofs.AM
