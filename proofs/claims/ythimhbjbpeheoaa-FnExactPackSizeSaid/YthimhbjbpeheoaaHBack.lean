/- A part of the proof of 'FnExactPackSizeSaid' (HBack): lemmas on an abstract machine for the program's functions. Conditions: none. -/
import Derived.Test.YthimhbjbpeheoaaHCall
set_option linter.unusedVariables false
set_option linter.unusedSimpArgs false
namespace Go.Proofs.AM
open Go.RowKit
variable {P : Program} {tb : Tab} {F F' K : Nat → Prop} {w : World}
theorem HRel.swap {o : Heap} {fps : Nat → List Nat} {fl fl' : List Nat} {w' : World} (h : HRel tb F K o fps fl w) (hs : w.heap.size ≤ w'.heap.size) (hF : ∀ k, F k → w'.heap[k]? = w.heap[k]?) (ho : ∀ n k, k ∈ fps n → w'.heap[k]? = w.heap[k]?) (hK : ∀ k, K k → k < w.heap.size)
    (hn : fl'.Nodup) (hl : ∀ b, b ∈ fl' → b < w'.heap.size ∧ (b ∈ fl ∨ w.heap.size ≤ b)) : HRel tb F K o fps fl' w' := by
  have h1 := h.step hs hF ho
  refine ⟨h1.kp, h1.ents, h1.nil, h1.nd, h1.dj, h1.lv, hn, fun n b hb hc => ?_, fun b hb => ⟨(hl b hb).1, fun hk => ?_⟩⟩
  · rcases (hl b hb).2 with h2 | h2
    · exact h.fdj n b h2 hc
    · have := (h.lv n b hc).1
      omega
  · rcases (hl b hb).2 with h2 | h2
    · exact (h.flv b h2).2 hk
    · have := hK b hk
      omega
theorem backs_sound : ∀ {ins : List In} {rs : List Rows} {o o' : Heap} {fps : Nat → List Nat} {f fl : List Nat} {x : Unit}, (backs ins rs).run o = some (x, o') → HRel tb F K o fps (f ++ fl) w → OWes tb F w (withRows (ins.map (·.e)) rs) f → ∃ fps', HRel tb F K o' fps' fl w
  | [], [], o, o', fps, f, fl, x, h, hr, r => by
    simp only [backs, run_ret2] at h
    obtain ⟨_, rfl⟩ := h
    simp only [List.map_nil, withRows, OWes] at r
    subst r
    exact ⟨fps, by simpa using hr⟩
  | i :: is, r :: rs, o, o', fps, f, fl, x, h, hr, q => by
    simp only [backs, run_layb] at h
    simp only [List.map_cons, withRows, OWes] at q
    obtain ⟨f1, f2, rfl, q1, q2⟩ := q
    exact backs_sound h (HRel.put (fl := f2 ++ fl) (by rwa [List.append_assoc] at hr) i.n q1) q2
  | [], _ :: _, o, o', fps, f, fl, x, h, hr, q => by simp [backs, run_fail] at h
  | _ :: _, [], o, o', fps, f, fl, x, h, hr, q => by simp [backs, run_fail] at h
theorem deliv_sound {d : Nat} {ch : Ch} : ∀ {cs : List T} {j : Nat} {xs : List AV} {o o' : Heap} {fps : Nat → List Nat} {f fl : List Nat} {us : List Value}, (deliv d ch j cs).run o = some (xs, o') → HRel tb F K o fps (f ++ fl) w → OWl tb F w cs us f →
    (∀ i u, us[i]? = some u → ch (j + i) = hdrOf u) → RelL tb F w xs us ∧ ∃ fps', HRel tb F K o' fps' fl w
  | [], j, xs, o, o', fps, f, fl, us, h, hr, hl, hch => by
    simp only [deliv, run_ret2] at h
    obtain ⟨rfl, rfl⟩ := h
    simp only [OWl] at hl
    obtain ⟨rfl, rfl⟩ := hl
    exact ⟨by simp [RelL], fps, by simpa using hr⟩
  | c :: cs, j, xs, o, o', fps, f, fl, us, h, hr, hl, hch => by
    simp only [deliv] at h
    obtain ⟨x, o1, h1, h⟩ := run_bind.1 h
    obtain ⟨xs1, o3, h3, h4⟩ := run_bind.1 h
    simp only [run_ret2] at h4
    obtain ⟨rfl, rfl⟩ := h4
    simp only [OWl] at hl
    obtain ⟨u, us', f1, f2, rfl, rfl, hc1, hc2⟩ := hl
    have hch0 := hch 0 u (by simp)
    simp only [Nat.add_zero] at hch0
    have key : RelV tb F w x u ∧ ∃ fps1, HRel tb F K o1 fps1 (f2 ++ fl) w := by
      have hany : HRel tb F K o fps (f2 ++ fl) w := hr.sub (fun b hb => by
        rcases List.mem_append.1 hb with h | h <;> simp [h]) (by
        have := hr.fnd
        rw [List.append_assoc] at this
        exact (List.nodup_append.1 this).2.1)
      cases c with
      | v y =>
        simp only [run_ret2] at h1
        obtain ⟨rfl, rfl⟩ := h1
        simp only [OWc] at hc1
        exact ⟨by simp [RelV, hc1.1], fps, hany⟩
      | sl own k rows =>
        cases own
        · simp only [run_ret2] at h1
          obtain ⟨rfl, rfl⟩ := h1
          simp only [OWc] at hc1
          exact ⟨by simp only [RelV]; exact hc1.2, fps, hany⟩
        · simp only [run_layb, run_ret2] at h1
          obtain ⟨rfl, rfl⟩ := h1
          simp only [OWc] at hc1
          rcases hc1 with ⟨rfl, rfl, rfl⟩ | ⟨g, cap, cur, fp', rfl, q1, q2, q3, q4, rfl, q5⟩
          · simp only [hdrOf] at hch0
            have hH : Hdr none k 0 0 0 (.slice none 0 0) := ⟨none, rfl, by omega, by simp, .inl (by simp)⟩
            simp only [hch0]
            refine ⟨by simp only [RelV]; exact hH, _, HRel.put (f := []) (by simpa using hr) _ ?_⟩
            unfold OWe
            exact ⟨rfl, rfl, rfl, rfl⟩
          · simp only [hdrOf] at hch0
            have hH : Hdr (some g) k 0 rows.length cap (.slice (some ⟨g, 0, none⟩) rows.length cap) := ⟨_, rfl, by omega, by simp, .inl (by simp)⟩
            simp only [hch0]
            refine ⟨by simp only [RelV]; exact hH, _, HRel.put (f := g :: fp') (by rwa [List.append_assoc] at hr) _ ?_⟩
            unfold OWe
            exact ⟨cur, fp', q1, q2, q3, q4, rfl, q5⟩
      | al n b cap off len k =>
        simp only [run_ret2] at h1
        obtain ⟨rfl, rfl⟩ := h1
        exact ⟨by simp [RelV], fps, hany⟩
      | junk =>
        simp only [run_ret2] at h1
        obtain ⟨rfl, rfl⟩ := h1
        exact ⟨by simp [RelV], fps, hany⟩
    obtain ⟨k1, fps1, k3⟩ := key
    obtain ⟨g1, fps2, g4⟩ := deliv_sound h3 k3 hc2 (fun i v hi => by have := hch (i + 1) v (by simpa using hi); rwa [show j + (i + 1) = j + 1 + i by omega] at this)
    exact ⟨by simp only [RelL]; exact ⟨u, us', rfl, k1, g1⟩, fps2, g4⟩
theorem delivs_sound {d : Nat} {ch : Ch} : ∀ {rs : List (Bool × List T)} {j : Nat} {xs : List AV} {o o' : Heap} {fps : Nat → List Nat} {f fl : List Nat} {vs us : List Value}, (delivs d ch j rs).run o = some (xs, o') → HRel tb F K o fps (f ++ fl) w → ResL tb F w rs vs us f →
    (∀ i u, us[i]? = some u → ch (j + i) = hdrOf u) → RelL tb F w xs vs ∧ ∃ fps', HRel tb F K o' fps' fl w
  | [], j, xs, o, o', fps, f, fl, vs, us, h, hr, r, hch => by
    simp only [delivs, run_ret2] at h
    obtain ⟨rfl, rfl⟩ := h
    simp only [ResL] at r
    obtain ⟨rfl, rfl, rfl⟩ := r
    exact ⟨by simp [RelL], fps, by simpa using hr⟩
  | (agg, cs) :: rs, j, xs, o, o', fps, f, fl, vs, us, h, hr, r, hch => by
    simp only [delivs] at h
    obtain ⟨ys, o1, h1, h⟩ := run_bind.1 h
    simp only [run_orFailb] at h
    obtain ⟨y, hy, h⟩ := h
    obtain ⟨zs, o3, h3, h4⟩ := run_bind.1 h
    simp only [run_ret2] at h4
    obtain ⟨rfl, rfl⟩ := h4
    simp only [ResL, ResV] at r
    obtain ⟨v, vs', u1, u2, f1, f2, rfl, rfl, rfl, ⟨r1, r2⟩, r3⟩ := r
    have hl1 := OWl_length r1
    obtain ⟨k1, fps1, k2⟩ := deliv_sound h1 (fl := f2 ++ fl) (by rwa [List.append_assoc] at hr) r1 (fun i u hi => hch i u (by rw [List.getElem?_append_left (List.getElem?_eq_some_iff.1 hi).1]; exact hi))
    obtain ⟨g1, fps2, g2⟩ := delivs_sound h3 k2 r3 (fun i u hi => by
      have := hch (u1.length + i) u (by rw [List.getElem?_append_right (by omega)]; simpa using hi)
      rw [hl1] at this
      rwa [← Nat.add_assoc] at this)
    refine ⟨?_, fps2, g2⟩
    simp only [RelL]
    refine ⟨v, vs', rfl, ?_, g1⟩
    have := one_sound hy k1
    cases agg
    · simp only [Bool.false_eq_true, if_false] at this r2
      rw [r2] at this
      simpa using this
    · simp only [if_true] at this r2
      rw [r2]
      exact this
theorem tup_sound {ys : List AV} {vs : List Value} (h : RelL tb F w ys vs) : RelV tb F w (tupA ys) (tupV vs) := by
  match ys, h with
  | [], h =>
    simp only [RelL] at h
    subst h
    simp only [tupA, tupV, RelV]
    exact ⟨[], rfl, by simp [RelL]⟩
  | [y], h =>
    simp only [RelL] at h
    obtain ⟨u, us', rfl, h1, rfl⟩ := h
    exact h1
  | y :: z :: ys, h =>
    have h' := h
    simp only [RelL] at h
    obtain ⟨u, us', rfl, h1, u2, us2, rfl, h2, h3⟩ := h
    simp only [tupA, tupV, RelV]
    exact ⟨_, rfl, h'⟩
theorem ResL_own : ∀ {rs : List (Bool × List T)} {vs us : List Value} {f : List Nat}, ownR (rs.map (·.2)) = true → ResL tb F' w rs vs us f → ResL tb F w rs vs us f
  | [], vs, us, f, h, r => by simpa only [ResL] using r
  | r0 :: rs, vs, us, f, h, r => by
    simp only [List.map_cons, ownR, Bool.and_eq_true] at h
    simp only [ResL, ResV] at r ⊢
    obtain ⟨v, vs', u1, u2, f1, f2, h1, h2, h3, ⟨h4, h5⟩, h6⟩ := r
    exact ⟨v, vs', u1, u2, f1, f2, h1, h2, h3, ⟨OWl_own h.1 h4, h5⟩, ResL_own h.2 h6⟩
theorem OWes_keep {w' : World} (h : ∀ k, F k → w'.heap[k]? = w.heap[k]?) (hF : ∀ k, F k → F' k) : ∀ {es : List Ent} {f : List Nat}, (∀ k ∈ f, w'.heap[k]? = w.heap[k]?) → OWes tb F w es f → OWes tb F' w' es f
  | [], f, hf, r => by simpa only [OWes] using r
  | e :: es, f, hf, r => by
    simp only [OWes] at r ⊢
    obtain ⟨f1, f2, rfl, h1, h2⟩ := r
    exact ⟨f1, f2, rfl, OWe_keep h hF (fun k hk => hf k (by simp [hk])) h1, OWes_keep h hF (fun k hk => hf k (by simp [hk])) h2⟩
theorem OWes_own : ∀ {es : List Ent} {rs : List Rows} {f : List Nat}, rs.all ownR = true → OWes tb F' w (withRows es rs) f → OWes tb F w (withRows es rs) f
  | [], [], f, h, r => by simpa only [withRows, OWes] using r
  | e :: es, r0 :: rs, f, h, r => by
    simp only [List.all_cons, Bool.and_eq_true] at h
    simp only [withRows, OWes] at r ⊢
    obtain ⟨f1, f2, h1, h2, h3⟩ := r
    exact ⟨f1, f2, h1, OWe_own h.1 h2, OWes_own h.2 h3⟩
  | [], _ :: _, f, h, r => by simpa only [withRows, OWes] using r
  | _ :: _, [], f, h, r => by simpa only [withRows, OWes] using r
def AllGood (P : Program) (tb : Tab) (G : Gam) : Prop := ∀ f xs ins ans, G f xs ins = some ans → Good P tb f xs ins ans
theorem HRel.widen {F2 K2 : Nat → Prop} {o : Heap} {fps : Nat → List Nat} {fl : List Nat} (h : HRel tb F K o fps fl w) (hF : ∀ k, F k → F2 k) (hk : ∀ k, F2 k → K2 k) (h1 : ∀ n b, b ∈ fps n → ¬ K2 b) (h2 : ∀ b, b ∈ fl → ¬ K2 b) : HRel tb F2 K2 o fps fl w :=
  ⟨hk, fun n e he => OWe_keep (w := w) (w' := w) (fun _ _ => rfl) hF (fun _ _ => rfl) (h.ents n e he), h.nil, h.nd, h.dj, fun n b hb => ⟨(h.lv n b hb).1, h1 n b hb⟩, h.fnd, h.fdj, fun b hb => ⟨(h.flv b hb).1, h2 b hb⟩⟩
def Behind (tb : Tab) (F K : Nat → Prop) (w w' : World) (fps : Nat → List Nat) (x : AV) (v : Value) (hp' : Heap) : Prop :=
  ∃ F2 K2, (∀ k, F k → F2 k) ∧ (∀ k, F2 k → F k ∨ ¬ K k) ∧ (∀ k, K k → K2 k) ∧ (∀ k, K2 k → k < w'.heap.size) ∧ RelV tb F2 w' x v ∧ (∃ fps', HRel tb F2 K2 hp' fps' [] w') ∧ Stp fps w w'
theorem call_post {o1 : Heap} {fps fps1 : Nat → List Nat} {f0 : List Nat} {ins : List In} {r : Ans} {v : Value} {w' : World} {d : Nat} (g2 : HRel tb F K o1 fps1 (f0 ++ []) w) (hF : ∀ k, K k → k < w.heap.size) (hf : ∀ b, b ∈ f0 → ∃ n, b ∈ fps n) (hp : Post tb F' w (ins.map (·.e)) f0 r v w')
    (hconv : F' = F ∨ ∀ F1 vs us f1 f2, OWes tb F1 w' (withRows (ins.map (·.e)) r.outs) f1 → ResL tb F1 w' r.res vs us f2 → OWes tb F w' (withRows (ins.map (·.e)) r.outs) f1 ∧ ResL tb F w' r.res vs us f2) (hFF : ∀ k, F k → F' k) :
    ∃ ch, ∀ x hp', (tail ins r d ch).run o1 = some (x, hp') → Behind tb F K w w' fps x v hp' := by
  obtain ⟨F1, vs, us, f1, f2, p1, p2, p3, q1, q2, rfl, q4, q5⟩ := hp.rel
  refine ⟨fun j => hdrOf (us.getD j undef), fun x hp' h => ?_⟩
  unfold tail at h
  obtain ⟨_, oa, h1, h⟩ := run_bind.1 h
  obtain ⟨ys, ob, h2, h3⟩ := run_bind.1 h
  simp only [run_ret2] at h3
  obtain ⟨rfl, rfl⟩ := h3
  have hnot : ∀ k, (F k ∨ ∃ n, k ∈ fps1 n) → w'.heap[k]? = w.heap[k]? := fun k hk => by
    rcases hk with hk | ⟨n, hk⟩
    · exact hp.blk k (hF k (g2.kp k hk)) (fun hc => (g2.flv k (by simp [hc])).2 (g2.kp k hk))
    · exact hp.blk k (g2.lv n k hk).1 (fun hc => g2.fdj n k (by simp [hc]) hk)
  have hsw := g2.swap (fl' := f1 ++ f2) hp.size (fun k hk => hnot k (.inl hk)) (fun n k hk => hnot k (.inr ⟨n, hk⟩)) hF q4 (fun b hb => by
    obtain ⟨a1, a2, a3⟩ := q5 b hb
    exact ⟨a1, a3.imp (fun h => by simp [h]) id⟩)
  have hst : Stp fps w w' := ⟨hp.os, hp.tape, hp.output, hp.size, fun k hk hn => hp.blk k hk (fun hc => by
    obtain ⟨n, h⟩ := hf k hc
    exact hn n h)⟩
  rcases hconv with rfl | hconv
  · have hgr : HRel tb F1 (fun k => K k ∨ F1 k) o1 fps1 (f1 ++ f2) w' := by
      refine hsw.widen p1 (fun k hk => .inr hk) (fun n b hb hk => ?_) (fun b hb hk => ?_)
      · rcases hk with hk | hk
        · exact (hsw.lv n b hb).2 hk
        · rcases p2 b hk with hk | hk
          · exact (hsw.lv n b hb).2 (hsw.kp b hk)
          · exact hk ⟨(g2.lv n b hb).1, fun hc => g2.fdj n b (by simp [hc]) hb⟩
      · rcases hk with hk | hk
        · exact (hsw.flv b hb).2 hk
        · exact (q5 b hb).2.1 hk
    obtain ⟨fpsa, ha⟩ := backs_sound h1 hgr q1
    obtain ⟨k1, fpsb, hb⟩ := delivs_sound h2 (fl := []) (by simpa using ha) q2 (fun i u hi => by simp [List.getD_eq_getElem?_getD, hi])
    refine ⟨F1, fun k => K k ∨ F1 k, p1, fun k hk => ?_, fun k hk => .inl hk, fun k hk => ?_, tup_sound k1, ⟨fpsb, hb⟩, hst⟩
    · rcases p2 k hk with hk | hk
      · exact .inl hk
      · refine .inr fun hK => hk ⟨hF k hK, fun hc => (g2.flv k (by simp [hc])).2 hK⟩
    · rcases hk with hk | hk
      · exact Nat.lt_of_lt_of_le (hF k hk) hp.size
      · exact p3 k hk
  · obtain ⟨q1, q2⟩ := hconv F1 vs us f1 f2 q1 q2
    obtain ⟨fpsa, ha⟩ := backs_sound h1 hsw q1
    obtain ⟨k1, fpsb, hb⟩ := delivs_sound h2 (fl := []) (by simpa using ha) q2 (fun i u hi => by simp [List.getD_eq_getElem?_getD, hi])
    exact ⟨F, K, fun _ h => h, fun _ h => .inl h, fun _ h => h, fun k hk => Nat.lt_of_lt_of_le (hF k hk) hp.size, tup_sound k1, ⟨fpsb, hb⟩, hst⟩
theorem call_core {t : Tm} {xs : List (Bool × Od)} {as : List AV} {ins : List In} {o o1 : Heap} {fps : Nat → List Nat} {us : List Value} {f d : Nat} {caps cs : List AV} {cvs : List Value} {r : Ans} {o2 : Heap} (hg : Good P tb f (as ++ cs) (ins.map fun i => (i.e.box, i.e.k, i.e.rows)) r)
    (h : (args t xs).run o = some ((as, ins), o1)) (hc : (bors caps).run o1 = some (cs, o2)) (hr : HRel tb F K o fps [] w) (hx : RelL tb F w (xs.map fun x => ev t x.2) us) (hcv : RelL tb F w caps cvs) (hF : ∀ k, K k → k < w.heap.size)
    (hown : ((frzA t xs && frzs caps) || (ownR (r.res.map (·.2)) && r.outs.all ownR)) = true) :
    o2 = o1 ∧ Calls P (tb.fn f) (us ++ cvs).toArray w fun e w' => match e with
      | .returned v => ∃ ch, ∀ x hp', (tail ins r d ch).run o1 = some (x, hp') → Behind tb F K w w' fps x v hp'
      | _ => False := by
  unfold args at h
  obtain ⟨⟨ys, ins1⟩, oa, h1, h⟩ := run_bind.1 h
  obtain ⟨zs, ob, h2, h3⟩ := run_bind.1 h
  simp only [run_ret2] at h3
  obtain ⟨h3, rfl⟩ := h3
  cases h3
  obtain ⟨f0, fps1, g1, g2, g3, g4, g5⟩ := gives_sound h1 hr hx
  let bs : Nat → Option Nat × Nat := fun j => ((ins[j]?).map fun x => (x.e.b, x.e.cap)).getD (none, 0)
  have htells : Tells bs 0 ins := fun j x hj => by simp [bs, hj]
  have hent : ∀ (j : Nat) (e : Ent), (ins.map (·.e))[j]? = some e → bs j = (e.b, e.cap) := fun j e he => by
    simp only [List.getElem?_map, Option.map_eq_some_iff] at he
    obtain ⟨x, hx, rfl⟩ := he
    simp [bs, hx]
  have hnd := (List.nodup_append.1 g2.fnd).1
  by_cases hf : (frzA t xs && frzs caps) = true
  · simp only [Bool.and_eq_true] at hf
    obtain ⟨rfl, k1⟩ := lends_sound (F' := F) g2 (fun _ h => h) (.inl hf.1) h2 (g5 bs htells)
    obtain ⟨rfl, k2, k3⟩ := bors_sound (F' := F) g2 (fun _ h => h) caps (.inl hf.2) hc hcv
    refine ⟨rfl, ?_⟩
    have hrel : RelL tb F w ((as ++ cs).map (parA bs)) (us ++ cvs) := by
      rw [List.map_append, (k3 bs).2]
      exact RelL_append k1 k2
    refine (hg.2 F w (us ++ cvs) (ins.map (·.e)) f0 bs (by simp) hent hrel g1 hnd (fun b hb => ⟨(g2.flv b (by simp [hb])).1, fun hf => (g2.flv b (by simp [hb])).2 (g2.kp b hf)⟩) (fun k hk => hF k (g2.kp k hk))).mono fun e w' he => ?_
    cases e with
    | returned v => exact call_post g2 hF g4 he (.inl rfl) (fun _ h => h)
    | _ => exact he
  · have hown' : (ownR (r.res.map (·.2)) && r.outs.all ownR) = true := by
      simp only [Bool.or_eq_true] at hown
      exact hown.resolve_left hf
    simp only [Bool.and_eq_true] at hown'
    let F2 : Nat → Prop := fun k => F k ∨ ∃ n, k ∈ fps1 n
    have hF2 : ∀ k, F k → F2 k := fun k hk => .inl hk
    have ho2 : ∀ n k, k ∈ fps1 n → F2 k := fun n k hk => .inr ⟨n, hk⟩
    obtain ⟨rfl, k1⟩ := lends_sound (F' := F2) g2 hF2 (.inr ho2) h2 (g5 bs htells)
    obtain ⟨rfl, k2, k3⟩ := bors_sound (F' := F2) g2 hF2 caps (.inr ho2) hc hcv
    refine ⟨rfl, ?_⟩
    have hrel : RelL tb F2 w ((as ++ cs).map (parA bs)) (us ++ cvs) := by
      rw [List.map_append, (k3 bs).2]
      exact RelL_append k1 k2
    refine (hg.2 F2 w (us ++ cvs) (ins.map (·.e)) f0 bs (by simp) hent hrel (OWes_keep (fun _ _ => rfl) hF2 (fun _ _ => rfl) g1) hnd (fun b hb => ⟨(g2.flv b (by simp [hb])).1, fun hf => ?_⟩) (fun k hk => ?_)).mono fun e w' he => ?_
    · rcases hf with hf | ⟨n, hn⟩
      · exact (g2.flv b (by simp [hb])).2 (g2.kp b hf)
      · exact g2.fdj n b (by simp [hb]) hn
    · rcases hk with hk | ⟨n, hn⟩
      · exact hF k (g2.kp k hk)
      · exact (g2.lv n k hn).1
    cases e with
    | returned v => exact call_post g2 hF g4 he (.inr fun _ _ _ _ _ a b => ⟨OWes_own hown'.2 a, ResL_own hown'.1 b⟩) hF2
    | _ => exact he
end Go.Proofs.AM
