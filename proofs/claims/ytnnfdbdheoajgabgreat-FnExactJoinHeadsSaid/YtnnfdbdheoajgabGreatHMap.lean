/- Lemmas of the proof (HMap), on an abstract machine. Conditions: none. -/
import Derived.Test.YtnnfdbdheoajgabGreatHNew
import Derived.MapKept
import Derived.Carry
set_option linter.unusedVariables false
set_option linter.unusedSimpArgs false
namespace Go.Proofs.AM
open Go.RowKit
variable {P : Program} {tb : Tab} {F K : Nat → Prop} {w : World} {G : Gam} {d : Nat} {o : Oper} {t : Tm} {a : Act} {hp hp' : al7} {fps : Nat → List Nat} {x : AV}
theorem ne7 : ∀ {rs : Rows} {es : List (Int × Int)}, w27 rs = some es → rs = es.map kI7
 | [], es, h => by simp only [w27, Option.some.injEq] at h; subst h; rfl
 | r :: rs, es, h => by
  unfold w27 at h
  split at h
  ·rename_i heq; cases heq
  ·rename_i a b rs' heq
   cases heq
   obtain ⟨es', h1, rfl⟩ := Option.map_eq_some_iff.1 h
   rw [ne7 h1]
   rfl
  ·cases h
theorem vK7 {g : Nat} {rs : Rows} {es : List (Int × Int)} (h : w37 g rs = some es) : rs = ci7 g es := by
 unfold w37 at h
 split at h
 ·split at h
  ·rename_i hg
   subst hg
   rw [ne7 h]
   rfl
  ·cases h
 ·cases h
theorem nf7 : ∀ {as bs : List (Int × Int)}, as.map kI7 = bs.map kI7 → as = bs
 | [], [], _ => rfl
 | [], b :: bs, h => by simp at h
 | a :: as, [], h => by simp at h
 | a :: as, b :: bs, h => by
  simp only [List.map_cons, List.cons.injEq, kI7, T.v.injEq, Value.int.injEq, true_and, and_true] at h
  rw [nf7 h.2, Prod.ext h.1.1 h.1.2]
theorem sE7 {g g' : Nat} {as bs : List (Int × Int)} (h : ci7 g as = ci7 g' bs) : g = g' ∧ as = bs := by
 simp only [ci7, List.cons.injEq, T.v.injEq, Value.map.injEq, Option.some.injEq, true_and, and_true] at h
 exact ⟨h.1, nf7 h.2⟩
abbrev kvI (p : Int × Int) : Value × Value := (.int .i64 p.1, .int .i64 p.2)
theorem or7 {ki : IntKind} {k v : Int} : ∀ (l : List MapEntry) (es : List (Int × Int)) (i : Nat), l.map (fun x => (x.key, x.val)) = es.map kvI →
  (Instr.findNow (.int ki) (.int .i64 k) l i = some none ∧ mget es k = 0 ∧ wK7 es k v = es ++ [(k, v)]) ∨
  ∃ j e, Instr.findNow (.int ki) (.int .i64 k) l i = some (some (i + j, e.val)) ∧ l[j]? = some e ∧ e.key = .int .i64 k ∧ e.val = .int .i64 (mget es k) ∧ wK7 es k v = es.set j (k, v)
 | [], [], i, h => .inl ⟨rfl, rfl, rfl⟩
 | [], _ :: _, i, h => by simp at h
 | _ :: _, [], i, h => by simp at h
 | e :: l, p :: es, i, h => by
  simp only [List.map_cons, List.cons.injEq, Prod.mk.injEq] at h
  obtain ⟨⟨h1, h2⟩, h3⟩ := h
  by_cases hk : k = p.1
  ·refine .inr ⟨0, e, ?_, rfl, by rw [h1, hk], by rw [h2]; simp [mget, hk], by simp [wK7, hk]⟩
   simp [Instr.findNow, Instr.sameNow, h1, hk]
  ·have hne : (k == p.1) = false := by simpa using hk
   rcases or7 (ki := ki) (k := k) (v := v) l es (i + 1) h3 with ⟨g1, g2, g3⟩ | ⟨j, e', g1, g2, g3, g4, g5⟩
   ·exact .inl ⟨by simp [Instr.findNow, Instr.sameNow, h1, hne, g1], by simp [mget, hk, g2], by simp [wK7, hk, g3]⟩
   ·refine .inr ⟨j + 1, e', ?_, by simpa using g2, g3, by simp [mget, hk, g4], by simp [wK7, hk, g5]⟩
    simp [Instr.findNow, Instr.sameNow, h1, hne, g1]
    omega
theorem CU7 {ty : TypeId} (h : An7 P ty = true) : ∃ kt et, P.underlying ty = some (.map kt et) ∧ P.underlying kt = some (.int .i64) ∧ ∀ w, (zeroValue et).run P w = .ok (.int .i64 0) w := by
 unfold An7 at h
 split at h
 ·rename_i kt et hu
  simp only [Bool.and_eq_true] at h
  refine ⟨kt, et, hu, ?_, ?_⟩
  ·have h1 := h.1
   unfold HJ7 at h1
   split at h1
   ·assumption
   ·cases h1
  ·have h2 := h.2
   unfold TU7 at h2
   split at h2
   ·rename_i hz
    obtain ⟨i0, hi0, hzz⟩ := Option.bind_eq_some_iff.1 hz
    intro w
    simp [zeroValue, typeInfo, hi0, hzz]
   ·cases h2
 ·cases h
theorem xg7 {n g : Nat} {e : Ent} {es : List (Int × Int)} (hE : OWe tb F w e (fps n)) (h1 : e.b = none) (h2 : e.box = true) (h3 : w37 g e.rows = some es) : ∃ arr clock, e.cap = 0 ∧ fps n = [g] ∧ w.heap[g]? = some (.map arr clock) ∧ arr.toList.map (fun x => (x.key, x.val)) = es.map kvI := by
 unfold OWe at hE
 rw [h1] at hE
 rcases hE with ⟨_, _, h4, _⟩ | ⟨g', es', arr, clock, r1, r2, r3, r4, r5, r6⟩
 ·rw [h2] at h4; cases h4
 ·rw [vK7 h3] at r1
  obtain ⟨rfl, rfl⟩ := sE7 r1
  exact ⟨arr, clock, r2, r4, r5, r6⟩
theorem xh7 {t : Tm} {a : Act} {y : Operand} {y' : Od} {g : Nat} (r : dy7 tb F w t a) (hc : bc7 tb y y' = true) (h : Ai7 (ev t y') = some g) : a.eval y = .map (some g) := by
 have r1 := au7 r hc
 unfold Ai7 at h
 split at h
 ·rename_i g' hg
  rw [hg] at r1
  simp only [ax7] at r1
  subst h
  exact r1
 ·cases h
theorem DQ7 {t : Tm} {a : Act} {y : Operand} {y' : Od} {k : Int} (r : dy7 tb F w t a) (hc : bc7 tb y y' = true) (h : asK (ev t y') = some k) : a.eval y = .int .i64 k := by
 have r1 := au7 r hc
 unfold asK at h
 split at h
 ·rename_i n hg
  rw [hg] at r1
  simp only [ax7] at r1
  cases h
  exact r1
 ·cases h
theorem HP7 {ch : Ch} (hc : aD7 P tb o.op .mnew = true) (hr : HRel tb F K hp fps [] w) (hF : ∀ k, K k → k < w.heap.size) (hch : (ch 0).1 = some w.heap.size)
  (h : (at7 G d ch t .mnew).run hp = some (x, hp')) : hU7 P tb F K w fps o a x hp' := by
 unfold hU7 execOp
 cases ho : o.op <;> rw [ho] at hc <;> simp only [aD7, Bool.false_eq_true] at hc
 rename_i ty rs
 cases rs with
 | some _ => simp at hc
 | none =>
  simp only [at7, aA7, ab7, hch, Option.getD_some] at h
  obtain ⟨rfl, rfl⟩ := h
  have ha := hr.alloc (.map #[] 0) hF
  refine ⟨.value (.map (some w.heap.size)), w.alloc (.map #[] 0), _, ?_, .inl ⟨_, rfl, by simp [ax7]⟩, HRel.put (f := [w.heap.size]) (fl := []) ha (d * 8) ?_, Stp.alloc _ _ _⟩
  ·simp [run_makeMap]
  ·unfold OWe
   exact .inr ⟨w.heap.size, [], #[], 0, rfl, rfl, rfl, rfl, (MapKept.heap_alloc w _).1, rfl⟩
theorem HQ7 {ch : Ch} {n : Nat} {m k : Od} (hc : aD7 P tb o.op (.mget n m k) = true) (r : dy7 tb F w t a) (hr : HRel tb F K hp fps [] w)
  (h : (at7 G d ch t (.mget n m k)).run hp = some (x, hp')) : hU7 P tb F K w fps o a x hp' := by
 unfold hU7 execOp
 cases ho : o.op <;> rw [ho] at hc <;> simp only [aD7, Bool.false_eq_true] at hc
 rename_i ty x' k' ok
 simp only [Bool.and_eq_true, Bool.not_eq_true'] at hc
 obtain ⟨⟨⟨hm, rfl⟩, h1⟩, h2⟩ := hc
 simp only [at7] at h
 split at h
 ·rename_i g c hg hk
  simp only [aB7, an7, bi7, ab7, Bool.and_eq_true, Option.isNone_iff_eq_none] at h
  obtain ⟨e, he, ⟨q1, q2⟩, es, q3, rfl, rfl⟩ := h
  obtain ⟨kt, et, hu, hkt, hz⟩ := CU7 hm
  obtain ⟨arr, clock, _, r2, r3, r4⟩ := xg7 (hr.ents n e he) q1 q2 q3
  have e1 := xh7 r h1 hg
  have e2 := DQ7 r h2 hk
  have hik : MapKept.IsKey (.int .i64) (.int .i64 c) := by simp [MapKept.IsKey]
  refine ⟨.value (.int .i64 (mget es c)), w, fps, ?_, .inl ⟨_, rfl, by simp [ax7]⟩, hr, Stp.refl _ _⟩
  simp only [e1, e2]
  rcases or7 (ki := .i64) (k := c) (v := 0) arr.toList es 0 r4 with ⟨f1, f2, _⟩ | ⟨j, e', f1, f2, f3, f4, _⟩
  ·simp [Instr.lookup, run_underlying hu, MapKept.run_getObj_map r3, MapKept.run_checkKey hkt hik, MapKept.run_findKey hkt f1, hz, Result.andThen, f2]
  ·simp [Instr.lookup, run_underlying hu, MapKept.run_getObj_map r3, MapKept.run_checkKey hkt hik, MapKept.run_findKey hkt f1, hz, Result.andThen, f4]
 ·simp only [ai7] at h
 all_goals simp only [ai7] at h
theorem HR7 {ch : Ch} {n : Nat} {m k v : Od} (hc : aD7 P tb o.op (.mset n m k v) = true) (r : dy7 tb F w t a) (hr : HRel tb F K hp fps [] w)
  (h : (at7 G d ch t (.mset n m k v)).run hp = some (x, hp')) : hU7 P tb F K w fps o a x hp' := by
 unfold hU7 execOp
 cases ho : o.op <;> rw [ho] at hc <;> simp only [aD7, Bool.false_eq_true] at hc
 rename_i ty x' k' v'
 simp only [Bool.and_eq_true] at hc
 obtain ⟨⟨⟨hm, h1⟩, h2⟩, h3⟩ := hc
 simp only [at7] at h
 split at h
 ·rename_i g c y hg hk hv
  simp only [aB7, an7, bi7, aA7, ab7, Bool.and_eq_true, Option.isNone_iff_eq_none] at h
  obtain ⟨e, he, ⟨q1, q2⟩, es, q3, rfl, rfl⟩ := h
  obtain ⟨kt, et, hu, hkt, hz⟩ := CU7 hm
  obtain ⟨arr, clock, r1, r2, r3, r4⟩ := xg7 (hr.ents n e he) q1 q2 q3
  have e1 := xh7 r h1 hg
  have e2 := DQ7 r h2 hk
  have e3 := DQ7 r h3 hv
  have hik : MapKept.IsKey (.int .i64) (.int .i64 c) := by simp [MapKept.IsKey]
  have hgn : g ∈ fps n := by rw [r2]; simp
  have key : ∃ arr' clock', (Instr.mapUpdate ty (.map (some g)) (.int .i64 c) (.int .i64 y)).run P w = .ok () { w with heap := w.heap.setIfInBounds g (.map arr' clock') } ∧ arr'.toList.map (fun x => (x.key, x.val)) = (wK7 es c y).map kvI := by
   rcases or7 (ki := .i64) (k := c) (v := y) arr.toList es 0 r4 with ⟨f1, f2, f3⟩ | ⟨j, e', f1, f2, f3, f4, f5⟩
   ·refine ⟨arr.push { key := .int .i64 c, val := .int .i64 y, born := clock }, clock + 1, ?_, by simp [f3, r4]⟩
    simp [Instr.mapUpdate, run_underlying hu, MapKept.run_getObj_map r3, MapKept.run_checkKey hkt hik, MapKept.run_findKey hkt f1, MapKept.run_setObj_map _ r3, Result.andThen]
   ·have hj : arr[j]? = some e' := by simpa using f2
    refine ⟨arr.modify j fun z => { z with key := .int .i64 c, val := .int .i64 y }, clock, ?_, ?_⟩
    ·simp [Instr.mapUpdate, run_underlying hu, MapKept.run_getObj_map r3, MapKept.run_checkKey hkt hik, MapKept.run_findKey hkt f1, hj, f3, MapKept.run_keyThatStays hik, MapKept.run_setObj_map _ r3, Result.andThen]
    ·rw [f5, List.map_set, ← r4]
     apply List.ext_getElem?
     intro q
     simp only [List.getElem?_map, Array.getElem?_toList, Array.getElem?_modify, List.getElem?_set, List.length_map, Array.length_toList]
     by_cases hq : j = q
     ·subst hq
      obtain ⟨hlt, _⟩ := Array.getElem?_eq_some_iff.1 hj
      simp [hj, hlt]
     ·simp [hq]
  obtain ⟨arr', clock', k1, k2⟩ := key
  obtain ⟨s1, s2⟩ := MapKept.heap_set (w := w) (o' := .map arr' clock') r3
  have hgF : ¬ K g := (hr.lv n g hgn).2
  have hst : Stp fps w { w with heap := w.heap.setIfInBounds g (.map arr' clock') } := ⟨rfl, rfl, rfl, by simp, fun k _ hn => s2 k (fun e => hn n (e ▸ hgn))⟩
  have ht := hr.take n
  rw [r2] at ht
  have ht2 := ht.step (w' := { w with heap := w.heap.setIfInBounds g (.map arr' clock') }) (by simp) (fun k hk => s2 k (fun e => hgF (hr.kp _ (e ▸ hk)))) (fun m k hk => s2 k (fun e => by
   subst e
   by_cases hmn : m = n
   ·subst hmn; rw [aT7] at hk; cases hk
   ·rw [aZ7 _ _ hmn] at hk
    exact hr.dj m n k hmn hk hgn))
  have hp2 := HRel.put (e := { e with rows := ci7 g (wK7 es c y) }) (f := [g]) (fl := []) ht2 n (by
   unfold OWe
   simp only [q1]
   exact .inr ⟨g, wK7 es c y, arr', clock', rfl, r1, q2, rfl, s1, k2⟩)
  have e0 : upd (upd hp n none) n (some { e with rows := ci7 g (wK7 es c y) }) = upd hp n (some { e with rows := ci7 g (wK7 es c y) }) := by
   funext m; simp only [upd]; split <;> rfl
  rw [e0] at hp2
  refine ⟨.skip, _, _, ?_, .inr ⟨rfl, rfl⟩, hp2, hst⟩
  simp [e1, e2, e3, k1]
 all_goals simp only [ai7] at h
end Go.Proofs.AM
