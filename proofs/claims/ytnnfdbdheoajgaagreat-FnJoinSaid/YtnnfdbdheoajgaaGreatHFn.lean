/- Lemmas of the proof (HFn), on an abstract machine. Conditions: none. -/
import Derived.Test.YtnnfdbdheoajgaaGreatHCode
set_option linter.unusedVariables false
set_option linter.unusedSimpArgs false
namespace Go.Proofs.AM
open Go.RowKit
def vr7 (P : Program) (tb : Tab) (f : Nat) (ir : IFn) : Bool := match P.funcs[tb.fn f]? with
 | some fn => fn.name != "runtime.NumGoroutine" && fn.ntmps == ir.ntmps && vq7 P fn.results.toList ir.res && (match fn.body with | some c => mQ7 P tb ir.ntmps c ir.body | none => false)
 | none => false
section
variable {P : Program} {tb : Tab} {F K : Nat → Prop} {N : Nat} {w0 : World} {G : Gam} {w : World}
def jY7 : aj7 → Nat → List Ent → aj7
 | o, _, [] => o
 | o, i, e :: es => jY7 (upd o (i * 8) (some e)) (i + 1) es
theorem nw7 : ∀ {es : List Ent} {o : aj7} {i n : Nat}, jY7 o i es n = if n % 8 = 0 ∧ i ≤ n / 8 ∧ n / 8 < i + es.length then es[n / 8 - i]? else o n
 | [], o, i, n => by
  simp only [jY7, List.length_nil]
  rw [if_neg (by omega)]
 | e :: es, o, i, n => by
  simp only [jY7]
  rw [nw7]
  by_cases h1 : n % 8 = 0 ∧ i + 1 ≤ n / 8 ∧ n / 8 < i + 1 + es.length
  ·rw [if_pos h1, if_pos (by simp; omega), show n / 8 - i = (n / 8 - (i + 1)) + 1 by omega]
   simp
  ·rw [if_neg h1]
   by_cases h2 : n = i * 8
   ·subst h2
    rw [if_pos (by simp)]
    simp [upd]
   ·rw [if_neg (by simp; omega)]
    simp [upd, h2]
theorem nx7 : ∀ {es : List Ent} {o : aj7} {i : Nat} {fps : Nat → List Nat} {f fl : List Nat}, HRel tb F K o fps (f ++ fl) w → eH7 tb F w es f → ∃ fps', HRel tb F K (jY7 o i es) fps' fl w
 | [], o, i, fps, f, fl, hr, h => by
  simp only [eH7] at h
  subst h
  exact ⟨fps, by simpa [jY7] using hr⟩
 | e :: es, o, i, fps, f, fl, hr, h => by
  simp only [eH7] at h
  obtain ⟨f1, f2, rfl, h1, h2⟩ := h
  simp only [jY7]
  exact nx7 (o := upd o (i * 8) (some e)) (i := i + 1) (HRel.put (fl := f2 ++ fl) (by rwa [List.append_assoc] at hr) (i * 8) h1) h2
theorem sE7 {bs : Nat → Option Nat × Nat} {es : List Ent} {ins : List (Bool × Nat × Rows)} (he : es.map (fun e => (e.box, e.k, e.rows)) = ins) (hb : ∀ (j : Nat) (e : Ent), es[j]? = some e → bs j = (e.b, e.cap)) : v17 bs ins = jY7 (fun _ => none) 0 es := by
 subst he
 funext n
 rw [nw7]
 unfold v17
 by_cases h : n % 8 = 0
 ·rw [if_pos h]
  by_cases h2 : n / 8 < es.length
  ·rw [if_pos ⟨h, Nat.zero_le _, by omega⟩, List.getElem?_map, Nat.sub_zero, List.getElem?_eq_getElem h2]
   simp only [Option.map_some]
   rw [hb (n / 8) es[n / 8] (List.getElem?_eq_getElem h2)]
  ·rw [if_neg (by omega), List.getElem?_map, List.getElem?_eq_none (by omega)]
   rfl
 ·rw [if_neg h, if_neg (by omega)]
theorem wT7 (hFK : ∀ k, F k → K k) {fl : List Nat} (hn : fl.Nodup) (hl : ∀ b, b ∈ fl → b < w.heap.size ∧ ¬ K b) : HRel tb F K (fun _ => none) (fun _ => []) fl w :=
 ⟨hFK, fun n e h => (by cases h), fun _ _ => rfl, fun _ => List.nodup_nil, fun _ _ _ _ h => (by cases h), fun _ _ h => (by cases h), hn, fun _ _ _ h => (by cases h), hl⟩
theorem p87 : ∀ {xs : List AV} {us : List Value} (i : Nat), aW7 tb F w xs us → i < xs.length → ay7 tb F w (xs.getD i .junk) (us.getD i undef)
 | x :: xs, us, i, h, hi => by
  simp only [aW7] at h
  obtain ⟨u, us', rfl, h1, h2⟩ := h
  cases i with
  | zero => simpa using h1
  | succ i => simpa using p87 i h2 (by simpa using hi)
 | [], us, i, h, hi => by simp at hi
theorem CW7 (hmix : P.follows .mixedOrders = true) (hG : dT7 P tb G) {f : Nat} {ir : IFn} (hc : vr7 P tb f ir = true) {ks : List (List (Option Nat))} {xs : List AV} {ins : List (Bool × Nat × Rows)} {ans : Ans} (hlen : xs.length ≤ ir.ntmps) (hd : BL7 G ir ks xs ins ans) : F67 P tb f xs ins ans := by
 unfold vr7 at hc
 split at hc
 ·rename_i fn hfn
  simp only [Bool.and_eq_true, beq_iff_eq] at hc
  obtain ⟨⟨⟨hname, hnt⟩, hrs⟩, hbody⟩ := hc
  split at hbody
  ·rename_i c hb
   refine ⟨by unfold mN7; rw [hfn]; simp [hb, hname], fun F w us es fp bs he hbs hx hes hnd hfp hF hgl => ?_⟩
   have hlu : us.length = xs.length := by rw [c97 hx]; simp
   refine calls_of_wp hfn hb ?_
   let K : Nat → Prop := fun k => k < w.heap.size ∧ k ∉ fp
   have hFK : ∀ k, F k → K k := fun k hk => ⟨hF k hk, fun hc => (hfp k hc).2 hk⟩
   obtain ⟨fps, hr⟩ := nx7 (i := 0) (o := fun _ => none) (fl := []) (wT7 (K := K) (fl := fp ++ []) hFK (by simpa using hnd) (fun b hb => by
    simp only [List.append_nil] at hb
    exact ⟨(hfp b hb).1, fun hk => hk.2 hb⟩)) hes
   rw [← sE7 he hbs] at hr
   have hsr : SR tb F K K ir.ntmps w ⟨u77 bs xs, v17 bs ins⟩ { tmps := us.toArray ++ Array.replicate (fn.ntmps - us.toArray.size) undef, defers := [] } w := by
    refine ⟨⟨fun i => ?_, hgl⟩, ⟨fps, hr⟩, fun k hk => hk.1, by simp; omega, rfl, rfl, rfl, rfl, Nat.le_refl _, fun _ hk => hk, fun _ _ => rfl⟩
    unfold u77
    by_cases hi : i < xs.length
    ·have := p87 i hx (by simpa using hi)
     have e1 : (xs.map (ow7 bs)).getD i .junk = ow7 bs (xs.getD i .junk) := by simp [List.getD_eq_getElem?_getD, hi]
     rw [e1] at this
     have e2 : (us.toArray ++ Array.replicate (fn.ntmps - us.toArray.size) undef).getD i undef = us.getD i undef := by
      simp only [Array.getD_eq_getD_getElem?, List.getD_eq_getElem?_getD]
      rw [Array.getElem?_append_left (by simp; omega)]
      simp
     rw [e2]
     exact this
    ·have e1 : xs.getD i .junk = .junk := by simp [List.getD_eq_getElem?_getD, List.getElem?_eq_none (Nat.not_lt.1 hi)]
     show ay7 tb F w (ow7 bs (xs.getD i .junk)) _
     rw [e1]
     simp [ow7, zn7, ay7]
   refine vp7 (tb := tb) (F := F) (K := K) (w0 := w) hmix hG ir.body c _ _ _ _ w hbody (hd bs) ⟨F, K, ⟨fun _ h => h, fun _ h => .inl h⟩, hsr⟩ fun e s' a' w' hq hs' => ?_
   obtain ⟨F1, K1, hg, hs'⟩ := hs'
   have fin : u87 ir ks bs ins ans s' → ∃ v, (results fn a'.tmps).run P w' = .ok v w' ∧ Mx7 tb F w es fp ans v w' := fun hq => by
    unfold u87 at hq
    split at hq
    ·rename_i r os o' hrun
     obtain ⟨rfl, rfl⟩ := hq
     obtain ⟨os1, o1, h1, h2⟩ := run_bind.1 hrun
     obtain ⟨r1, o2, h3, h4⟩ := run_bind.1 h2
     simp only [ab7] at h4
     obtain ⟨h4, rfl⟩ := h4
     cases h4
     obtain ⟨fps1, hr1⟩ := hs'.hr
     obtain ⟨g1, f1, fps2, g2, g3⟩ := hI7 he (by simpa using hbs) h1 hr1
     obtain ⟨vs, us2, f2, fps3, k1, k2, k3⟩ := hi7 hs'.rt hrs h3 g3
     refine ⟨CT7 vs, sC7 k1, g1, ⟨F1, vs, us2, f1, f2, hg.1, hg.2, fun k hk => hs'.hK k (hr1.kp k hk), g2, k2, rfl, ?_, fun b hb => ?_⟩, hs'.os, hs'.tape, hs'.output, hs'.size, fun k hk hn => hs'.blk k ⟨hk, hn⟩⟩
     ·have := k3.fnd
      simp only [List.append_nil] at this
      exact (List.perm_append_comm.nodup_iff).1 this
     ·have hb' : b ∈ f2 ++ (f1 ++ []) := by
       simp only [List.append_nil]
       exact List.perm_append_comm.mem_iff.1 hb
      have := k3.flv b hb'
      refine ⟨this.1, fun hf => this.2 (hr1.kp b hf), ?_⟩
      by_cases hm : b ∈ fp
      ·exact .inl hm
      ·exact .inr (Nat.not_lt.1 fun hlt => this.2 (hs'.k0 b ⟨hlt, hm⟩))
    ·exact hq.elim
   cases e with
   | norm => exact ⟨hs'.df, fin hq⟩
   | ret => exact ⟨hs'.df, fin hq⟩
   | exit i => exact hq.elim
  ·cases hbody
 ·cases hc
end
end Go.Proofs.AM
