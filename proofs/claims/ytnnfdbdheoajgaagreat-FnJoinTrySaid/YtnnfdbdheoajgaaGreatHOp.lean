/- Lemmas of the proof (HOp), on an abstract machine. Conditions: none. -/
import Derived.Test.YtnnfdbdheoajgaaGreatHBack
set_option linter.unusedVariables false
set_option linter.unusedSimpArgs false
namespace Go.Proofs.AM
open Go.RowKit
variable {P : Program} {tb : Tab} {F F' K : Nat → Prop} {w : World}
structure SR (tb : Tab) (F K K0 : Nat → Prop) (N : Nat) (w0 : World) (s : St) (a : Act) (w : World) : Prop where
 rt : dK7 tb F w s.t a
 hr : ∃ fps, HRel tb F K s.o fps [] w
 hK : ∀ k, K k → k < w.heap.size
 sz : a.tmps.size = N
 df : a.defers = []
 os : w.os = w0.os
 tape : w.tape = w0.tape
 output : w.output = w0.output
 size : w0.heap.size ≤ w.heap.size
 k0 : ∀ k, K0 k → K k
 blk : ∀ k, K0 k → w.heap[k]? = w0.heap[k]?
def SRx (tb : Tab) (F K : Nat → Prop) (N : Nat) (w0 : World) (s : St) (a : Act) (w : World) : Prop := ∃ F' K', ((∀ k, F k → F' k) ∧ (∀ k, F' k → F k ∨ ¬ K k)) ∧ SR tb F' K' K N w0 s a w
theorem tj7 (a : Act) (d : Option Tmp) (v : Value) : (a.put d v).tmps.size = a.tmps.size := by cases d <;> simp [Act.put]
theorem mT7 (a : Act) (d : Option Tmp) (v : Value) : (a.put d v).defers = a.defers := by cases d <;> rfl
section
variable {K0 : Nat → Prop} {N : Nat} {w0 : World} {s : St} {a : Act} {o : Oper} {G : Gam} {next : Act → World → Prop} {Q : Exit → Act → World → Prop}
theorem SR.put (h : SR tb F K K0 N w0 s a w) {fps : Nat → List Nat} (hr : HRel tb F K s.o fps [] w) {w' : World} {o' : ah7} {fps' : Nat → List Nat} (hr' : HRel tb F K o' fps' [] w') (hs : Stp fps w w') {d : Option Nat} (hd : ∀ n, d = some n → n < N) {x : AV} {u : Value} (hx : at7 tb F w' x u) :
  SR tb F K K0 N w0 ⟨aA7 s.t d x, o'⟩ (a.put d u) w' := by
 have hk : ∀ k, K k → w'.heap[k]? = w.heap[k]? := fun k hk => hs.blk k (h.hK k hk) (fun n hn => (hr.lv n k hn).2 hk)
 exact ⟨s97 (kJ7 (fun k hf => hk k (hr.kp k hf)) (fun _ h => h) h.rt) (by rw [h.sz]; exact hd) hx, ⟨fps', hr'⟩, fun k hk => Nat.lt_of_lt_of_le (h.hK k hk) hs.size, by rw [tj7]; exact h.sz, by rw [mT7]; exact h.df,
  hs.os.trans h.os, hs.tape.trans h.tape, hs.output.trans h.output, Nat.le_trans h.size hs.size, h.k0, fun k hk' => (hk k (h.k0 k hk')).trans (h.blk k hk')⟩
theorem SR.putG (h : SR tb F K K0 N w0 s a w) {fps : Nat → List Nat} {w' : World} {x : AV} {u : Value} {o' : ah7} {d : Option Nat} (hr : HRel tb F K s.o fps [] w) (hb : wu7 tb F K w w' fps x u o') (hd : ∀ n, d = some n → n < N) :
  ∃ F' K', ((∀ k, F k → F' k) ∧ (∀ k, F' k → F k ∨ ¬ K k)) ∧ SR tb F' K' K0 N w0 ⟨aA7 s.t d x, o'⟩ (a.put d u) w' := by
 obtain ⟨F2, K2, g1, g2, g3, g4, hx, hr', hs⟩ := hb
 have hk : ∀ k, K k → w'.heap[k]? = w.heap[k]? := fun k hk => hs.blk k (h.hK k hk) (fun n hn => (hr.lv n k hn).2 hk)
 exact ⟨F2, K2, ⟨g1, g2⟩, s97 (kJ7 (fun k hf => hk k (hr.kp k hf)) g1 h.rt) (by rw [h.sz]; exact hd) hx, hr', g4, by rw [tj7]; exact h.sz, by rw [mT7]; exact h.df,
  hs.os.trans h.os, hs.tape.trans h.tape, hs.output.trans h.output, Nat.le_trans h.size hs.size, fun k hk0 => g3 k (h.k0 k hk0), fun k hk' => (hk k (h.k0 k hk')).trans (h.blk k hk')⟩
theorem pu7 (h : SR tb F K K0 N w0 s a w) {fps : Nat → List Nat} (hr : HRel tb F K s.o fps [] w) (hd : ∀ n, o.dst = some n → n < N) {x : AV} {o' : ah7} (hrun : hU7 P tb F K w fps o a x o') (hn : ∀ a' w', SR tb F K K0 N w0 ⟨aA7 s.t o.dst x, o'⟩ a' w' → next a' w') : o.wp P a w next Q := by
 obtain ⟨nx, w', fps', h1, h2, h3, h4⟩ := hrun
 unfold Oper.wp
 rw [h1]
 rcases h2 with ⟨u, rfl, hx⟩ | ⟨rfl, rfl⟩
 ·exact hn _ _ (h.put hr h3 h4 hd hx)
 ·exact hn _ _ (h.put hr h3 h4 hd (by simp [at7]))
theorem uZ7 (h : SR tb F K K0 N w0 s a w) (hd : ∀ n, o.dst = some n → n < N) {x : AV} (hrun : aK7 P tb F w o a x) (hn : ∀ a' w', SR tb F K K0 N w0 ⟨aA7 s.t o.dst x, s.o⟩ a' w' → next a' w') : o.wp P a w next Q := by
 obtain ⟨u, h1, h2⟩ := hrun
 obtain ⟨fps, hr⟩ := h.hr
 exact pu7 h hr hd ⟨_, w, fps, h1, .inl ⟨u, rfl, h2⟩, hr, Stp.refl _ _⟩ hn
theorem u07 {io : Opx} {t : Tm} {x : AV} (hc : aB7 P tb o.op io = true) (r : dK7 tb F w t a) (h : evp t io = some x) : aK7 P tb F w o a x := by
 cases io with
 | mv _ => exact Qy7 hc r h
 | nilck _ => exact Ci7 hc r h
 | pick _ _ _ => exact FG7 hc r h
 | bin _ _ _ => exact Mp7 hc r h
 | eqs _ _ _ _ _ => exact Mq7 hc r h
 | un _ _ => exact Qz7 hc r h
 | mxi _ _ => exact Ms7 hc r h
 | conv _ _ => exact FH7 hc r h
 | len _ _ => exact Mr7 hc r h
 | iaddr _ _ _ => exact Cj7 hc r h
 | faddr _ _ => exact Ck7 hc r h
 | fld _ _ _ _ => exact Mt7 hc r h
 | sidx _ _ => exact FI7 hc r h
 | ssl _ _ _ => exact Mu7 hc r h
 | sls _ _ _ _ => exact Mv7 hc r h
 | sl3 _ _ _ _ _ => exact Mw7 hc r h
 | load _ _ _ => exact FJ7 hc r h
 | build _ _ => exact Cl7 hc r h
 | mkf _ _ => exact My7 hc r h
 | ext _ _ => exact Mx7 hc r h
 | _ => simp [evp] at h
theorem u17 {g : FuncId} (h : mh7 P g = true) (args : Array Value) : (callFunc g args).run P w = .ok (.enter g args) w := by
 unfold mh7 at h
 split at h
 ·rename_i fn hf
  simp only [Bool.and_eq_true] at h
  obtain ⟨h1, h2⟩ := h
  have h2' : (fn.name == "runtime.NumGoroutine") = false := by simpa [bne] using h2
  have h1' : fn.body.isNone = false := by
   cases hb : fn.body with
   | none => rw [hb] at h1; cases h1
   | some c => rfl
  unfold callFunc
  rw [Sem.run_bind, run_program, Result.andThen_ok]
  rw [hf]
  simp only [h2', h1', Bool.false_eq_true, if_false, Sem.run_pure]
 ·cases h
theorem pv7 {c : Call} {f : Operand} {g : FuncId} {cs : Array Value} (ho : o.op = .call c) (hcal : c.callee = .value f) (hf : a.eval f = .func (.func g) #[] cs) (hfo : mh7 P g = true) : (execOp a.eval o).run P w = .ok (.enter g (c.args.map a.eval ++ cs)) w := by
 unfold execOp
 rw [ho]
 simp only [resolve, hcal, hf, Deferred.ofValue, Sem.run_bind, Sem.run_pure, Result.andThen_ok, invoke]
 simpa using u17 hfo _
def pw7 : Opx → Bool
 | .load .. | .store .. | .box .. | .alloc .. | .mks .. | .lit .. | .app .. | .call .. | .calld .. | .bytes .. | .frz .. | .ren .. | .shut .. | .ldr .. | .rawl .. | .unr .. | .pfz .. | .trn .. | .slx .. | .ain .. | .clr .. | .mnew .. | .mset .. | .mget .. | .opa .. | .cla .. => true
 | _ => false
theorem i37 {d : Nat} {ch : Ch} {t : Tm} {io : Opx} (h : pw7 io = false) : aq7 G d ch t io = bN7 (evp t io) := by
 cases io <;> first | rfl | (cases h)
theorem wv7 {f : FuncId} {args : Array Value} (hx : (execOp a.eval o).run P w = .ok (.enter f args) w) (hc : Calls P f args w fun e w' => match e with | .returned v => next (a.put o.dst v) w' | _ => False) : o.wp P a w next Q := by
 unfold Oper.wp
 rw [hx]
 refine hc.mono fun e w' he => ?_
 cases e with
 | returned v => exact he
 | _ => exact he.elim
theorem Cv7 (hG : dO7 P tb G) {f : Nat} {xs : List (Bool × Od)} (hc : aB7 P tb o.op (.call f xs) = true) (hd : ∀ n, o.dst = some n → n < N) (h : SR tb F K K0 N w0 s a w) {fps : Nat → List Nat} (hr : HRel tb F K s.o fps [] w) {d : Nat}
  (H : ∀ ch, match (aq7 G d ch s.t (.call f xs)).run s.o with
   | some (x, o') => ∀ a' w', (∃ F' K', ((∀ k, F k → F' k) ∧ (∀ k, F' k → F k ∨ ¬ K k)) ∧ SR tb F' K' K0 N w0 ⟨aA7 s.t o.dst x, o'⟩ a' w') → next a' w'
   | none => False) : o.wp P a w next Q := by
 have H0 := H (fun _ => (none, 0))
 split at H0
 ·rename_i x0 o0 hrun0
  simp only [aq7] at hrun0
  obtain ⟨⟨as, ins⟩, o1, h1, h2⟩ := run_bind.1 hrun0
  simp only [bo7, ak7] at h2
  obtain ⟨r, h2, h3, _⟩ := h2
  have hg := hG _ _ _ _ h2
  cases ho : o.op <;> rw [ho] at hc <;> simp only [aB7, Bool.false_eq_true] at hc
  rename_i c
  split at hc
  ·rename_i g hcal
   simp only [Bool.and_eq_true, decide_eq_true_eq] at hc
   obtain ⟨⟨rfl, hfo⟩, hod⟩ := hc
   have hrel := hQ7 h.rt hod
   rw [List.map_map] at hrel
   have hg' : FQ7 P tb f (as ++ []) (ins.map fun i => (i.e.box, i.e.k, i.e.rows)) r := by rw [List.append_nil]; exact hg
   have hb : (v07 []).run o1 = some ([], o1) := rfl
   have hn : aS7 tb F w [] [] := by simp only [aS7]
   have h3' : ((f97 s.t xs && uQ7 []) || (dW7 (r.res.map (·.2)) && r.outs.all f17)) = true := by
    rw [show uQ7 [] = true from rfl, Bool.and_true]
    exact h3
   have hcc := pt7 (d := d) hg' h1 hb hr hrel hn h.hK h.rt.gl h3'
   have hE : (execOp a.eval o).run P w = .ok (.enter (tb.fn f) (c.args.toList.map a.eval ++ []).toArray) w := by
    have : (c.args.toList.map a.eval ++ []).toArray = c.args.map a.eval ++ #[] := by apply Array.ext'; simp
    rw [this]
    exact pv7 ho hcal rfl hfo
   refine wv7 hE (Calls.mono hcc.2 ?_)
   intro e w' he
   ·cases e with
    | returned v =>
     obtain ⟨ch, he⟩ := he
     have Hc := H ch
     split at Hc
     ·rename_i x o' hrun
      simp only [aq7] at hrun
      obtain ⟨⟨as', ins'⟩, o1', h1', h2'⟩ := run_bind.1 hrun
      rw [h1] at h1'
      cases h1'
      simp only [bo7, ak7] at h2'
      obtain ⟨r', h4, _, h5⟩ := h2'
      rw [h2] at h4
      cases h4
      exact Hc _ _ (h.putG hr (he x o' h5) hd)
     ·exact Hc.elim
    | _ => exact he
  ·cases hc
 ·exact H0.elim
theorem zo7 (hG : dO7 P tb G) {f : Od} {xs : List (Bool × Od)} (hc : aB7 P tb o.op (.calld f xs) = true) (hd : ∀ n, o.dst = some n → n < N) (h : SR tb F K K0 N w0 s a w) {fps : Nat → List Nat} (hr : HRel tb F K s.o fps [] w) {d : Nat}
  (H : ∀ ch, match (aq7 G d ch s.t (.calld f xs)).run s.o with
   | some (x, o') => ∀ a' w', (∃ F' K', ((∀ k, F k → F' k) ∧ (∀ k, F' k → F k ∨ ¬ K k)) ∧ SR tb F' K' K0 N w0 ⟨aA7 s.t o.dst x, o'⟩ a' w') → next a' w'
   | none => False) : o.wp P a w next Q := by
 have H0 := H (fun _ => (none, 0))
 split at H0
 ·rename_i x0 o0 hrun0
  simp only [aq7] at hrun0
  split at hrun0
  ·rename_i g caps hfv
   obtain ⟨⟨as, ins⟩, o1, h1, h2⟩ := run_bind.1 hrun0
   obtain ⟨cs, o2, hb, h2b⟩ := run_bind.1 h2
   simp only [bo7, ak7] at h2b
   obtain ⟨r, hq, h3, _⟩ := h2b
   have hg := hG _ _ _ _ hq
   cases ho : o.op <;> rw [ho] at hc <;> simp only [aB7, Bool.false_eq_true] at hc
   rename_i c
   split at hc
   ·rename_i g' hcal
    simp only [Bool.and_eq_true] at hc
    obtain ⟨hof, hod⟩ := hc
    have hrf := ar7 h.rt hof
    rw [hfv] at hrf
    simp only [at7] at hrf
    obtain ⟨cvs, hfe, hcv⟩ := hrf
    have hrel := hQ7 h.rt hod
    rw [List.map_map] at hrel
    have hcc := pt7 (d := d) hg h1 hb hr hrel hcv h.hK h.rt.gl h3
    obtain ⟨rfl, hcc⟩ := hcc
    have hE : (execOp a.eval o).run P w = .ok (.enter (tb.fn g) (c.args.toList.map a.eval ++ cvs).toArray) w := by
     have : (c.args.toList.map a.eval ++ cvs).toArray = c.args.map a.eval ++ cvs.toArray := by apply Array.ext'; simp
     rw [this]
     exact pv7 ho hcal hfe hg.1
    refine wv7 hE (Calls.mono hcc ?_)
    intro e w' he
    ·cases e with
     | returned v =>
      obtain ⟨ch, he⟩ := he
      have Hc := H ch
      split at Hc
      ·rename_i x o' hrun
       simp only [aq7, hfv] at hrun
       obtain ⟨⟨as', ins'⟩, o1', h1', h2'⟩ := run_bind.1 hrun
       rw [h1] at h1'
       cases h1'
       obtain ⟨cs', o2', hb', h2'⟩ := run_bind.1 h2'
       rw [hb] at hb'
       cases hb'
       simp only [bo7, ak7] at h2'
       obtain ⟨r', h4, _, h5⟩ := h2'
       rw [hq] at h4
       cases h4
       exact Hc _ _ (h.putG hr (he x o' h5) hd)
      ·exact Hc.elim
     | _ => exact he
   ·cases hc
  ·simp only [ag7] at hrun0
 ·exact H0.elim
def FS7 : Opx → Bool
 | .frz _ => true
 | .ren _ _ _ => true
 | .shut _ _ => true
 | .rawl _ => true
 | .unr _ _ => true
 | .pfz _ _ => true
 | .trn _ => true
 | .opa _ _ _ => true
 | .cla _ _ => true
 | _ => false
theorem ww7 (hG : dO7 P tb G) {io : Opx} (hz : FS7 io = false) (hc : aB7 P tb o.op io = true) (hd : ∀ n, o.dst = some n → n < N) (h : SR tb F K K0 N w0 s a w) {d : Nat}
  (H : match evp s.t io with
   | some x => ∀ a' w', (∃ F' K', ((∀ k, F k → F' k) ∧ (∀ k, F' k → F k ∨ ¬ K k)) ∧ SR tb F' K' K0 N w0 ⟨aA7 s.t o.dst x, s.o⟩ a' w') → next a' w'
   | none => ∀ ch, match (aq7 G d ch s.t io).run s.o with
    | some (x, o') => ∀ a' w', (∃ F' K', ((∀ k, F k → F' k) ∧ (∀ k, F' k → F k ∨ ¬ K k)) ∧ SR tb F' K' K0 N w0 ⟨aA7 s.t o.dst x, o'⟩ a' w') → next a' w'
    | none => False) : o.wp P a w next Q := by
 cases hev : evp s.t io with
 | some x =>
  rw [hev] at H
  exact uZ7 h hd (u07 hc h.rt hev) fun a' w' hs => H a' w' ⟨F, K, ⟨fun _ h => h, fun _ h => .inl h⟩, hs⟩
 | none =>
  rw [hev] at H
  simp only at H
  by_cases hp : pw7 io = false
  ·have := H (fun _ => (none, 0))
   rw [i37 hp, hev] at this
   simp [bN7, HM.run] at this
  ·obtain ⟨fps, hr⟩ := h.hr
   have fin : ∀ ch, (∀ x hp', (aq7 G d ch s.t io).run s.o = some (x, hp') → hU7 P tb F K w fps o a x hp') → o.wp P a w next Q := fun ch hh => by
    have := H ch
    split at this
    ·rename_i x o' hrun
     exact pu7 h hr hd (hh x o' hrun) fun a' w' hs => this a' w' ⟨F, K, ⟨fun _ h => h, fun _ h => .inl h⟩, hs⟩
    ·exact this.elim
   cases io with
   | load sz agg y =>
    obtain ⟨ch, hch⟩ := Cr7 (G := G) (d := d) hc h.rt hr hev
    exact fin ch hch
   | store ks p y => exact fin (fun _ => (none, 0)) (fun x hp' hh => Co7 hc h.rt hr hh)
   | box k ks y => exact fin (fun _ => (some w.heap.size, 0)) (fun x hp' hh => Mz7 hc h.rt hr h.hK rfl hh)
   | alloc k z => exact fin (fun _ => (some w.heap.size, 0)) (fun x hp' hh => Cp7 hc hr h.hK rfl hh)
   | mks k z n m => exact fin (fun _ => (some w.heap.size, 0)) (fun x hp' hh => MA7 hc h.rt hr h.hK rfl hh)
   | lit k ks z n ps => exact fin (fun _ => (some w.heap.size, 0)) (fun x hp' hh => MB7 hc h.rt hr h.hK rfl hh)
   | app k mv y z =>
    obtain ⟨ch, hch⟩ := MD7 (G := G) (d := d) hc h.rt hr h.hK
    exact fin ch hch
   | slx e y lo hi => exact fin (fun _ => (none, 0)) (fun x hp' hh => ME7 hc h.rt hr hh)
   | ain k y z => exact fin (fun _ => (none, 0)) (fun x hp' hh => MF7 hc h.rt hr hh)
   | clr k z y => exact fin (fun _ => (none, 0)) (fun x hp' hh => MG7 hc h.rt hr hh)
   | mnew => exact fin (fun _ => (some w.heap.size, 0)) (fun x hp' hh => FL7 hc hr h.hK rfl hh)
   | mset n y k v => exact fin (fun _ => (none, 0)) (fun x hp' hh => FN7 hc h.rt hr hh)
   | mget n y k => exact fin (fun _ => (none, 0)) (fun x hp' hh => FM7 hc h.rt hr hh)
   | bytes y => exact fin (fun _ => (none, 0)) (fun x hp' hh => Cs7 hc h.rt hr hh)
   | call f xs => exact Cv7 hG hc hd h hr H
   | calld f xs => exact zo7 hG hc hd h hr H
   | frz _ => cases hz
   | ren _ _ _ => cases hz
   | shut _ _ => cases hz
   | rawl _ => cases hz
   | unr _ _ => cases hz
   | pfz _ _ => cases hz
   | trn _ => cases hz
   | opa _ _ _ => cases hz
   | cla _ _ => cases hz
   | ldr sz y => exact fin (fun _ => (none, 0)) (fun x hp' hh => MC7 hc h.rt hr hh)
   | _ => exact absurd rfl hp
mutual
theorem mU7 (w : World) : ∀ (x : AV) {F K : Nat → Prop} {y : AV} {o o' : ah7} {fps : Nat → List Nat} {fl : List Nat}, (e17 x).run o = some (y, o') → HRel tb F K o fps fl w → (∀ k, K k → k < w.heap.size) → ∃ (F' K' : Nat → Prop) (fps' : Nat → List Nat), ((∀ k, F k → F' k) ∧ (∀ k, F' k → F k ∨ ¬ K k)) ∧ (∀ k, K k → K' k) ∧ (∀ k, K' k → k < w.heap.size) ∧ HRel tb F' K' o' fps' fl w ∧ ∀ u, at7 tb F w x u → at7 tb F' w y u
 | .v x, F, K, y, o, o', fps, fl, h, hr, hs => by
  simp only [e17, ab7] at h
  obtain ⟨rfl, rfl⟩ := h
  exact ⟨F, K, fps, ⟨fun _ h => h, fun _ h => .inl h⟩, fun _ h => h, hs, hr, fun u h => h⟩
 | .ro rows, F, K, y, o, o', fps, fl, h, hr, hs => by
  simp only [e17, ab7] at h
  obtain ⟨rfl, rfl⟩ := h
  exact ⟨F, K, fps, ⟨fun _ h => h, fun _ h => .inl h⟩, fun _ h => h, hs, hr, fun u h => h⟩
 | .raw A cap rows, F, K, y, o, o', fps, fl, h, hr, hs => by
  simp only [e17, ab7] at h
  obtain ⟨rfl, rfl⟩ := h
  refine ⟨F, K, fps, ⟨fun _ h => h, fun _ h => .inl h⟩, fun _ h => h, hs, hr, fun u h => ?_⟩
  simp only [at7] at h ⊢
  obtain ⟨h1, h2, e, h3⟩ := h
  exact ⟨A, cap, e, h1, h2, h3⟩
 | .nil, F, K, y, o, o', fps, fl, h, hr, hs => by
  simp only [e17, ab7] at h
  obtain ⟨rfl, rfl⟩ := h
  refine ⟨F, K, fps, ⟨fun _ h => h, fun _ h => .inl h⟩, fun _ h => h, hs, hr, fun u h => ?_⟩
  simp only [at7] at h ⊢
  exact ⟨none, 0, 0, h, Nat.le_refl _, by simp [aC7]⟩
 | .ref n b cap off len k, F, K, y, o, o', fps, fl, h, hr, hs => by
  simp only [e17, ay7, ak7, ax7, Bool.and_eq_true, decide_eq_true_eq, Bool.not_eq_true'] at h
  obtain ⟨e, he, ⟨⟨⟨q1, q2⟩, q3⟩, q4⟩, h⟩ := h
  replace h : (bN7 (erR ((e.rows.drop off).take len)) >>= fun r => HM.ret (AV.ro r)).run (upd o n none) = some (y, o') := h
  rw [bo7] at h
  obtain ⟨r, h1, h2⟩ := h
  rw [ab7] at h2
  obtain ⟨rfl, rfl⟩ := h2
  refine ⟨fun k => F k ∨ k ∈ fps n, fun k => K k ∨ k ∈ fps n, mj7 fps n [], ⟨fun _ h => .inl h, fun k hk => hk.imp id fun h => (hr.lv n k h).2⟩, fun _ h => .inl h, fun k hk => ?_, ?_, fun u hu => ?_⟩
  ·rcases hk with hk | hk
   ·exact hs k hk
   ·exact (hr.lv n k hk).1
  ·refine ⟨fun k hk => hk.imp (hr.kp k) id, fun m e' hm => ?_, fun m hm => ?_, fun m => ?_, fun m m' b' hmm hb => ?_, fun m b' hb => ?_, hr.fnd, fun m b' hb => ?_, fun b' hb => ?_⟩
   ·by_cases hmn : m = n
    ·subst hmn; simp [upd] at hm
    ·rw [cm7 _ _ hmn] at hm
     rw [a07 _ _ hmn]
     exact kk7 (w := w) (w' := w) (fun _ _ => rfl) (fun k hk => .inl hk) (fun _ _ => rfl) (hr.ents m e' hm)
   ·by_cases hmn : m = n
    ·subst hmn; rw [aT7]
    ·rw [cm7 _ _ hmn] at hm
     rw [a07 _ _ hmn]
     exact hr.nil m hm
   ·by_cases hmn : m = n
    ·subst hmn; rw [aT7]; exact List.nodup_nil
    ·rw [a07 _ _ hmn]; exact hr.nd m
   ·by_cases hmn : m = n
    ·subst hmn; rw [aT7] at hb; cases hb
    ·rw [a07 _ _ hmn] at hb
     by_cases hmn' : m' = n
     ·subst hmn'; rw [aT7]; simp
     ·rw [a07 _ _ hmn']; exact hr.dj m m' b' hmm hb
   ·by_cases hmn : m = n
    ·subst hmn; rw [aT7] at hb; cases hb
    ·rw [a07 _ _ hmn] at hb
     refine ⟨(hr.lv m b' hb).1, fun hk => ?_⟩
     rcases hk with hk | hk
     ·exact (hr.lv m b' hb).2 hk
     ·exact hr.dj m n b' hmn hb hk
   ·by_cases hmn : m = n
    ·subst hmn; rw [aT7]; simp
    ·rw [a07 _ _ hmn]; exact hr.fdj m b' hb
   ·refine ⟨(hr.flv b' hb).1, fun hk => ?_⟩
    rcases hk with hk | hk
    ·exact (hr.flv b' hb).2 hk
    ·exact hr.fdj n b' hb hk
  ·simp only [at7] at hu ⊢
   exact th7 hr (fun k hk => .inl hk) (fun k hk => .inr hk) he q1 q2 q3 h1 hu
 | .agg cs, F, K, y, o, o', fps, fl, h, hr, hs => by
  simp only [e17] at h
  obtain ⟨xs, o1, h1, h2⟩ := run_bind.1 h
  rw [ab7] at h2
  obtain ⟨rfl, rfl⟩ := h2
  obtain ⟨F', K', fps', g1, g2, g3, g4, g5⟩ := hr7 w cs h1 hr hs
  refine ⟨F', K', fps', g1, g2, g3, g4, fun u hu => ?_⟩
  simp only [at7] at hu ⊢
  obtain ⟨us, h3, h4⟩ := hu
  exact ⟨us, h3, g5 us h4⟩
 | .tup cs, F, K, y, o, o', fps, fl, h, hr, hs => by
  simp only [e17] at h
  obtain ⟨xs, o1, h1, h2⟩ := run_bind.1 h
  rw [ab7] at h2
  obtain ⟨rfl, rfl⟩ := h2
  obtain ⟨F', K', fps', g1, g2, g3, g4, g5⟩ := hr7 w cs h1 hr hs
  refine ⟨F', K', fps', g1, g2, g3, g4, fun u hu => ?_⟩
  simp only [at7] at hu ⊢
  obtain ⟨us, h3, h4⟩ := hu
  exact ⟨us, h3, g5 us h4⟩
 | .ptr .., F, K, y, o, o', fps, fl, h, hr, hs => by simp only [e17, ag7] at h
 | .lref .., F, K, y, o, o', fps, fl, h, hr, hs => by simp only [e17, ag7] at h
 | .rptr .., F, K, y, o, o', fps, fl, h, hr, hs => by simp only [e17, ag7] at h
 | .fn .., F, K, y, o, o', fps, fl, h, hr, hs => by simp only [e17, ag7] at h
 | .io .., F, K, y, o, o', fps, fl, h, hr, hs => by simp only [e17, ag7] at h
 | .pio .., F, K, y, o, o', fps, fl, h, hr, hs => by simp only [e17, ag7] at h
 | .junk, F, K, y, o, o', fps, fl, h, hr, hs => by simp only [e17, ag7] at h
theorem hr7 (w : World) : ∀ (xs : List AV) {F K : Nat → Prop} {ys : List AV} {o o' : ah7} {fps : Nat → List Nat} {fl : List Nat}, (rZ7 xs).run o = some (ys, o') → HRel tb F K o fps fl w → (∀ k, K k → k < w.heap.size) → ∃ (F' K' : Nat → Prop) (fps' : Nat → List Nat), ((∀ k, F k → F' k) ∧ (∀ k, F' k → F k ∨ ¬ K k)) ∧ (∀ k, K k → K' k) ∧ (∀ k, K' k → k < w.heap.size) ∧ HRel tb F' K' o' fps' fl w ∧ ∀ us, aS7 tb F w xs us → aS7 tb F' w ys us
 | [], F, K, ys, o, o', fps, fl, h, hr, hs => by
  simp only [rZ7, ab7] at h
  obtain ⟨rfl, rfl⟩ := h
  exact ⟨F, K, fps, ⟨fun _ h => h, fun _ h => .inl h⟩, fun _ h => h, hs, hr, fun u h => by simpa [aS7] using h⟩
 | x :: xs, F, K, ys, o, o', fps, fl, h, hr, hs => by
  simp only [rZ7] at h
  obtain ⟨y, o1, h1, h⟩ := run_bind.1 h
  obtain ⟨ys1, o2, h2, h3⟩ := run_bind.1 h
  rw [ab7] at h3
  obtain ⟨rfl, rfl⟩ := h3
  obtain ⟨F1, K1, fps1, g1, g2, g3, g4, g5⟩ := mU7 w x h1 hr hs
  obtain ⟨F2, K2, fps2, k1, k2, k3, k4, k5⟩ := hr7 w xs h2 g4 g3
  refine ⟨F2, K2, fps2, ⟨fun k h => k1.1 k (g1.1 k h), fun k h => (k1.2 k h).elim (g1.2 k) fun h => .inr fun hk => h (g2 k hk)⟩, fun k h => k2 k (g2 k h), k3, k4, fun us hu => ?_⟩
  simp only [aS7] at hu ⊢
  obtain ⟨u, us', rfl, h5, h6⟩ := hu
  exact ⟨u, us', rfl, cl7 (w := w) (w' := w) (fun _ _ => rfl) k1.1 _ _ (g5 u h5), k5 us' (gc7 (w := w) (w' := w) (fun _ _ => rfl) g1.1 _ _ h6)⟩
end
theorem u27 : ∀ {m : Nat} {cs ys : List AV} {o o' : ah7} {fps : Nat → List Nat} {fl : List Nat}, (Bl7 m cs).run o = some (ys, o') → HRel tb F K o fps fl w → ∃ fps', HRel tb F K o' fps' fl w ∧ ∀ us, aS7 tb F w cs us → aS7 tb F w ys us := by
 intro m cs
 induction cs generalizing m with
 | nil =>
  intro ys o o' fps fl h hr
  simp only [Bl7, ab7] at h
  obtain ⟨rfl, rfl⟩ := h
  exact ⟨fps, hr, fun us h => h⟩
 | cons c cs ih =>
  intro ys o o' fps fl h hr
  have skip : (∀ (xs : List AV) (o1 : ah7), (Bl7 (m + 1) cs).run o = some (xs, o1) → (ys, o') = (c :: xs, o1) → ∃ fps', HRel tb F K o' fps' fl w ∧ ∀ us, aS7 tb F w (c :: cs) us → aS7 tb F w ys us) := by
   intro xs o1 h1 h2
   cases h2
   obtain ⟨fps', g1, g2⟩ := ih h1 hr
   refine ⟨fps', g1, fun us hu => ?_⟩
   simp only [aS7] at hu ⊢
   obtain ⟨u, us', rfl, h3, h4⟩ := hu
   exact ⟨u, us', rfl, h3, g2 us' h4⟩
  cases c with
  | ref n b cap off len k =>
   simp only [Bl7, ay7, ax7] at h
   obtain ⟨e, he, h⟩ := h
   obtain ⟨xs, o1, h1, h2⟩ := run_bind.1 h
   rw [ab7] at h2
   obtain ⟨rfl, rfl⟩ := h2
   obtain ⟨fps', g1, g2⟩ := ih h1 (HRel.put (hr.take n) m (hr.ents n e he))
   refine ⟨fps', g1, fun us hu => ?_⟩
   simp only [aS7] at hu ⊢
   obtain ⟨u, us', rfl, h3, h4⟩ := hu
   exact ⟨u, us', rfl, by simpa only [at7] using h3, g2 us' h4⟩
  | _ =>
   simp only [Bl7] at h
   obtain ⟨xs, o1, h1, h2⟩ := run_bind.1 h
   rw [ab7] at h2
   obtain ⟨rfl, rfl⟩ := h2
   exact skip xs o1 h1 rfl
theorem u37 {m k0 : Nat} {x y : AV} {o o' : ah7} {fps : Nat → List Nat} {fl : List Nat} (h : (kj7 m k0 x).run o = some (y, o')) (hr : HRel tb F K o fps fl w) : ∃ fps', HRel tb F K o' fps' fl w ∧ ∀ u, at7 tb F w x u → at7 tb F w y u := by
 unfold kj7 at h
 split at h
 ·simp only [ax7, ab7] at h
  obtain ⟨rfl, rfl⟩ := h
  refine ⟨_, HRel.put (f := []) (by simpa using hr) m (e := ⟨none, 0, k0, false, []⟩) (by simp [OWe]), fun u hu => ?_⟩
  simp only [at7] at hu ⊢
  exact ⟨none, by rw [hu], Nat.le_refl _, fun _ => rfl, .inl rfl⟩
 ·rename_i n b cap off len k
  simp only [ay7, ax7, ab7] at h
  obtain ⟨e, he, rfl, rfl⟩ := h
  exact ⟨_, HRel.put (hr.take n) m (hr.ents n e he), fun u hu => by simpa only [at7] using hu⟩
 ·obtain ⟨ys, o1, h1, h2⟩ := run_bind.1 h
  rw [ab7] at h2
  obtain ⟨rfl, rfl⟩ := h2
  obtain ⟨fps', g1, g2⟩ := u27 h1 hr
  refine ⟨fps', g1, fun u hu => ?_⟩
  simp only [at7] at hu ⊢
  obtain ⟨us, h3, h4⟩ := hu
  exact ⟨us, h3, g2 us h4⟩
 ·simp only [ag7] at h
theorem sb7 {p x y : AV} {o o' : ah7} {fps : Nat → List Nat} {fl : List Nat} (h : (mg7 p x).run o = some (y, o')) (hr : HRel tb F K o fps fl w) : y = x ∧ ∃ fps', HRel tb F K o' fps' fl w := by
 unfold mg7 at h
 split at h
 ·rename_i n b k r c
  simp only [ay7, ak7, ax7, decide_eq_true_eq] at h
  obtain ⟨e, he, hlt, h⟩ := h
  obtain ⟨row, o1, h1, h2⟩ := run_bind.1 h
  simp only [ax7, ab7] at h2
  obtain ⟨rfl, rfl⟩ := h2
  obtain ⟨fp', fps', g1, g2⟩ := wp7 (hr.ents n e he) hlt (hr.take n) h1
  exact ⟨rfl, _, HRel.put g2 n g1⟩
 ·simp only [ag7] at h
theorem k57 {x : AV} {u : Value} (h : at7 tb F w x u) : at7 tb F w (uR7 x) u := by
 unfold uR7
 split
 ·simpa only [at7] using h
 ·exact h
theorem k67 : ∀ {xs : List AV} {us : List Value}, aS7 tb F w xs us → aS7 tb F w (xs.map uR7) us
 | [], us, h => by simpa only [List.map_nil, aS7] using h
 | x :: xs, us, h => by
  simp only [List.map_cons, aS7] at h ⊢
  obtain ⟨u, us', rfl, h1, h2⟩ := h
  exact ⟨u, us', rfl, k57 h1, k67 h2⟩
theorem sc7 {x : AV} {u : Value} (h : at7 tb F w x u) : at7 tb F w (r07 x) u := by
 unfold r07
 split
 ·simp only [at7] at h ⊢
  obtain ⟨us, h1, h2⟩ := h
  exact ⟨us, h1, k67 h2⟩
 ·exact k57 h
theorem u47 {n : Nat} {x y : AV} {o o' : ah7} {fps : Nat → List Nat} {fl : List Nat} (h : (Mm7 n x).run o = some (y, o')) (hr : HRel tb F K o fps fl w) : o' = o ∧ ∀ u, at7 tb F w x u → at7 tb F w y u := by
 unfold Mm7 at h
 split at h
 ·rename_i A len cap
  simp only [ay7, ak7, ab7, Bool.and_eq_true, decide_eq_true_eq, Bool.not_eq_true'] at h
  obtain ⟨e, he, ⟨⟨⟨q1, q2⟩, q3⟩, q4⟩, rfl, rfl⟩ := h
  refine ⟨rfl, fun u hu => ?_⟩
  simp only [at7] at hu ⊢
  have hE := hr.ents n e he
  subst q1 q2 q3
  cases hb : e.b with
  | none =>
   replace hE := e37 hE hb q4
   refine ⟨none, by rw [hu]; simp [uM7, hb], by rw [hE.1]; simp, fun _ => hE.2.1, .inl rfl⟩
  | some g =>
   unfold OWe at hE
   rw [hb] at hE
   obtain ⟨cur, fp', g1, g2, g3, g4, g5, g6⟩ := hE
   refine ⟨some ⟨g, 0, none⟩, by rw [hu]; simp [uM7, hb], by omega, fun h => (nomatch h), .inl (by simp)⟩
 ·simp only [ab7] at h
  obtain ⟨rfl, rfl⟩ := h
  exact ⟨rfl, fun u hu => hu⟩
theorem mV7 : ∀ {ns : List Nat} {xs ys : List AV} {o o' : ah7} {fps : Nat → List Nat} {fl : List Nat}, (Cf7 ns xs).run o = some (ys, o') → HRel tb F K o fps fl w → o' = o ∧ ∀ us, aS7 tb F w xs us → aS7 tb F w ys us
 | n :: ns, x :: xs, ys, o, o', fps, fl, h, hr => by
  simp only [Cf7] at h
  obtain ⟨y, o1, h1, h⟩ := run_bind.1 h
  obtain ⟨ys1, o2, h2, h3⟩ := run_bind.1 h
  rw [ab7] at h3
  obtain ⟨rfl, rfl⟩ := h3
  obtain ⟨rfl, k1⟩ := u47 h1 hr
  obtain ⟨rfl, k2⟩ := mV7 h2 hr
  refine ⟨rfl, fun us hu => ?_⟩
  simp only [aS7] at hu ⊢
  obtain ⟨u, us', rfl, h5, h6⟩ := hu
  exact ⟨u, us', rfl, k1 u h5, k2 us' h6⟩
 | [], xs, ys, o, o', fps, fl, h, hr => by
  simp only [Cf7, ab7] at h
  obtain ⟨rfl, rfl⟩ := h
  exact ⟨rfl, fun us hu => hu⟩
 | _ :: _, [], ys, o, o', fps, fl, h, hr => by
  simp only [Cf7, ab7] at h
  obtain ⟨rfl, rfl⟩ := h
  exact ⟨rfl, fun us hu => hu⟩
theorem u57 {ns : List Nat} {x y : AV} {o o' : ah7} {fps : Nat → List Nat} {fl : List Nat} (h : (mb7 ns x).run o = some (y, o')) (hr : HRel tb F K o fps fl w) : o' = o ∧ ∀ u, at7 tb F w x u → at7 tb F w y u := by
 unfold mb7 at h
 split at h
 ·obtain ⟨ys, o1, h1, h2⟩ := run_bind.1 h
  rw [ab7] at h2
  obtain ⟨rfl, rfl⟩ := h2
  obtain ⟨rfl, k⟩ := mV7 h1 hr
  refine ⟨rfl, fun u hu => ?_⟩
  simp only [at7] at hu ⊢
  obtain ⟨us, h1, h2⟩ := hu
  exact ⟨us, h1, k us h2⟩
 ·simp only [ab7] at h
  obtain ⟨rfl, rfl⟩ := h
  exact ⟨rfl, fun u hu => hu⟩
theorem u67 {x y : AV} {o o' : ah7} {fps : Nat → List Nat} {fl : List Nat} (h : (mc7 x).run o = some (y, o')) (hr : HRel tb F K o fps fl w) : y = x ∧ ∃ fps', HRel tb F K o' fps' fl w := by
 unfold mc7 at h
 split at h
 ·rename_i n b cap off len k
  simp only [ay7, ak7, ax7, ab7, Bool.and_eq_true, decide_eq_true_eq, Bool.not_eq_true'] at h
  obtain ⟨e, he, ⟨⟨⟨⟨q1, q2⟩, q3⟩, q4⟩, q5⟩, rfl, rfl⟩ := h
  refine ⟨rfl, ?_⟩
  have hE := hr.ents n e he
  have key : ∃ f1 f2 : List Nat, fps n = f1 ++ f2 ∧ OWe tb F w { e with rows := e.rows.take len } f1 := by
   cases hb : e.b with
   | none =>
    obtain ⟨r1, r2, r3, r4⟩ := e37 hE hb (by simpa using q5)
    refine ⟨[], [], by rw [r4]; rfl, ?_⟩
    unfold OWe
    simp only [hb]
    exact .inl ⟨by rw [r1]; simp, r2, r3, trivial⟩
   | some g =>
    unfold OWe at hE
    rw [hb] at hE
    obtain ⟨cur, fp', r1, r2, r3, r4, r5, r6⟩ := hE
    obtain ⟨f1, f2, rfl, r7⟩ := hl7 len r6
    refine ⟨g :: f1, f2, by rw [r5]; rfl, ?_⟩
    unfold OWe
    simp only [hb]
    exact ⟨cur, f1, r1, r2, by rw [List.length_take]; omega, r4, rfl, r7⟩
  obtain ⟨f1, f2, k1, k2⟩ := key
  have ht := hr.take n
  rw [k1] at ht
  have hnd := ht.fnd
  have ht2 : HRel tb F K (upd o n none) (mj7 fps n []) (f1 ++ fl) w := ht.sub (fun b hb => by
   rcases List.mem_append.1 hb with hb | hb <;> simp [hb]) (by
   rw [bx7] at hnd ⊢
   intro x
   have := hnd x
   simp only [List.count_append] at this ⊢
   omega)
  have hp := HRel.put ht2 n k2
  have e1 : upd (upd o n none) n (some { e with rows := e.rows.take len }) = upd o n (some { e with rows := e.rows.take len }) := by
   funext m; simp only [upd]; split <;> rfl
  rw [e1] at hp
  exact ⟨_, hp⟩
 ·simp only [ag7] at h
theorem i47 {cur : Array Value} {k : Nat} (hk : esz k = 1) : ∀ {rows : Rows} {i : Nat} {fp : List Nat}, ap7 tb F w cur k i rows fp → an7 tb F w cur i rows.flatten fp
 | [], i, fp, h => by
  simp only [ap7] at h
  simpa [an7] using h
 | r :: rs, i, fp, h => by
  simp only [ap7, hk, Nat.mul_one] at h
  obtain ⟨f1, f2, rfl, h1, h2, h3⟩ := h
  rw [List.flatten_cons]
  exact aO7.2 ⟨f1, f2, rfl, h2, by rw [h1]; exact i47 hk h3⟩
theorem ez7 {cur : Array Value} {k : Nat} (hk : esz k = 1) : ∀ {cs : List T} {i : Nat} {fp : List Nat}, an7 tb F w cur i cs fp → ap7 tb F w cur k i (cs.map fun c => [c]) fp
 | [], i, fp, h => by
  simp only [an7] at h
  simpa [ap7] using h
 | c :: cs, i, fp, h => by
  simp only [an7] at h
  obtain ⟨f1, f2, u, rfl, h1, h2, h3⟩ := h
  simp only [List.map_cons, ap7, hk, Nat.mul_one, an7]
  exact ⟨f1, f2, rfl, rfl, ⟨f1, [], u, by simp, h1, h2, rfl⟩, ez7 hk h3⟩
theorem n97 {cur : Array Value} {k : Nat} (hk : esz k = 1) : ∀ {rows : Rows} {i : Nat} {fp : List Nat}, ap7 tb F w cur k i rows fp → rows.flatten.length = rows.length
 | [], i, fp, h => rfl
 | r :: rs, i, fp, h => by
  simp only [ap7, hk] at h
  obtain ⟨f1, f2, rfl, h1, h2, h3⟩ := h
  rw [List.flatten_cons, List.length_append, n97 hk h3, h1, List.length_cons]
  omega
theorem u77 {o : ah7} {fps : Nat → List Nat} {fl : List Nat} (n m : Nat) (x : AV) (hr : HRel tb F K o fps fl w) : ∃ ch : Ch, ∀ y o', (Fr7 n m ch x).run o = some (y, o') → y = x ∧ ∃ fps', HRel tb F K o' fps' fl w := by
 cases hn : o n with
 | none =>
  refine ⟨fun _ => (none, 0), fun y o' h => ?_⟩
  simp only [Fr7, ay7, hn] at h
  obtain ⟨e, h, _⟩ := h
  cases h
 | some e =>
  by_cases hq : (e.b.isSome && decide (esz e.k = 1)) = true
  ·have hq' := hq
   simp only [Bool.and_eq_true, decide_eq_true_eq, Option.isSome_iff_exists] at hq'
   obtain ⟨⟨g, hb⟩, hk⟩ := hq'
   have hE := hr.ents n e hn
   unfold OWe at hE
   rw [hb] at hE
   obtain ⟨cur, fp', r1, r2, r3, r4, r5, r6⟩ := hE
   have hlen := n97 hk r6
   obtain ⟨us, hl, hus⟩ := cJ7 (i47 hk r6)
   have ht := hr.take n
   rw [r5] at ht
   have ht2 : HRel tb F K (upd o n none) (mj7 fps n []) (fp' ++ (g :: fl)) w := ht.perm (by
    rw [List.perm_iff_count]
    intro z
    simp only [List.cons_append, List.count_cons, List.count_append]
    omega)
   refine ⟨fun j => cn7 (us.getD j undef), fun y o' h => ?_⟩
   simp only [Fr7, ay7, hn, ak7, ax7] at h
   obtain ⟨e', he', _, h⟩ := h
   cases he'
   obtain ⟨p, o1, h1, h2⟩ := run_bind.1 h
   obtain ⟨xs, cs⟩ := p
   simp only [ax7, ab7] at h2
   obtain ⟨rfl, rfl⟩ := h2
   obtain ⟨k1, k2, k3, fps1, k4⟩ := hn7 h1 ht2 hl (fun i u hi => by
    simp only [Nat.zero_add, List.getD_eq_getElem?_getD, hi, Option.getD_some])
   refine ⟨rfl, _, HRel.put (f := [g]) (by simpa using k4) n ?_⟩
   unfold OWe
   simp only [hb]
   exact ⟨cur, [], r1, r2, by rw [List.length_map, k3, hlen]; exact r3, r4, rfl, ez7 hk (bV7 k2 hus)⟩
  ·refine ⟨fun _ => (none, 0), fun y o' h => ?_⟩
   simp only [Fr7, ay7, hn, ak7] at h
   obtain ⟨e', he', h, _⟩ := h
   cases he'
   exact absurd h hq
theorem u87 {n : Nat} {x y : AV} {o o' : ah7} {fps : Nat → List Nat} {fl : List Nat} (h : (FC7 n x).run o = some (y, o')) (hr : HRel tb F K o fps fl w) : y = x ∧ ∃ fps', HRel tb F K o' fps' fl w := by
 simp only [FC7, ay7, ak7, ax7, Bool.and_eq_true, decide_eq_true_eq, Option.isSome_iff_exists] at h
 obtain ⟨e, hn, ⟨⟨g, hb⟩, hk⟩, h⟩ := h
 have hE := hr.ents n e hn
 unfold OWe at hE
 rw [hb] at hE
 obtain ⟨cur, fp', r1, r2, r3, r4, r5, r6⟩ := hE
 have hlen := n97 hk r6
 obtain ⟨us, hl, hus⟩ := cJ7 (i47 hk r6)
 have ht := hr.take n
 rw [r5] at ht
 have ht2 : HRel tb F K (upd o n none) (mj7 fps n []) (fp' ++ (g :: fl)) w := ht.perm (by
  rw [List.perm_iff_count]
  intro z
  simp only [List.cons_append, List.count_cons, List.count_append]
  omega)
 obtain ⟨cs, o1, h1, h2⟩ := run_bind.1 h
 simp only [ax7, ab7] at h2
 obtain ⟨rfl, rfl⟩ := h2
 obtain ⟨f', fps1, k1, k2, k3, _, _⟩ := du7 h1 ht2 hl
 refine ⟨rfl, _, HRel.put (f := g :: f') (k3.perm ?_) n ?_⟩
 ·rw [List.perm_iff_count]
  intro z
  simp only [List.cons_append, List.count_cons, List.count_append]
  omega
 ·unfold OWe
  simp only [hb]
  exact ⟨cur, f', r1, r2, by rw [List.length_map, k2, hlen]; exact r3, r4, rfl, ez7 hk (bV7 k1 hus)⟩
theorem wx7 {F' : Nat → Prop} (hF : ∀ k, F k → F' k) {c c' : T} {u : Value} {fp : List Nat} (h : erT c = some c') (r : OWc tb F w c u fp) (hf : ∀ k ∈ fp, F' k) : OWc tb F' w c' u [] := by
 have q := kX7 hF c h r hf
 cases c with
 | v x =>
  simp only [erT, Option.some.injEq] at h
  subst h
  simp only [ROc] at q
  simp only [OWc]
  exact ⟨q.1, q.2, trivial⟩
 | sl own k rows =>
  have h' : (erR rows).map (T.sl false (k % 16)) = some c' := by cases own <;> simpa only [erT] using h
  obtain ⟨rows', h1, rfl⟩ := Option.map_eq_some_iff.1 h'
  simp only [ROc] at q
  simp only [OWc]
  exact ⟨trivial, q⟩
 | _ => simp [erT] at h
theorem mW7 {cur : Array Value} : ∀ {cs : List T} {p j : Nat} {fp : List Nat} {c c' : T}, an7 tb F w cur p cs fp → cs[j]? = some c → erT c = some c' → ∃ f1 f2 : List Nat, fp.Perm (f1 ++ f2) ∧ ∀ F', (∀ k, F k → F' k) → (∀ k ∈ f2, F' k) → an7 tb F' w cur p (cs.set j c') f1
 | [], p, j, fp, c, c', h, hj, he => by simp at hj
 | x :: cs, p, 0, fp, c, c', h, hj, he => by
  simp only [List.getElem?_cons_zero, Option.some.injEq] at hj
  subst hj
  simp only [an7] at h
  obtain ⟨f1, f2, u, rfl, h1, h2, h3⟩ := h
  refine ⟨f2, f1, List.perm_append_comm, fun F' hF hf => ?_⟩
  simp only [List.set_cons_zero, an7]
  exact ⟨[], f2, u, rfl, h1, wx7 hF he h2 hf, cE7 (w := w) (w' := w) (fun _ _ => rfl) hF cur cs _ f2 (fun _ _ => rfl) h3⟩
 | x :: cs, p, j + 1, fp, c, c', h, hj, he => by
  simp only [List.getElem?_cons_succ] at hj
  simp only [an7] at h
  obtain ⟨f1, f2, u, rfl, h1, h2, h3⟩ := h
  obtain ⟨g1, g2, g3, g4⟩ := mW7 h3 hj he
  refine ⟨f1 ++ g1, g2, by rw [List.append_assoc]; exact List.Perm.append_left _ g3, fun F' hF hf => ?_⟩
  simp only [List.set_cons_succ, an7]
  exact ⟨f1, g1, u, rfl, h1, n37 (w := w) (w' := w) (fun _ _ => rfl) hF x u f1 (fun _ _ => rfl) h2, g4 F' hF hf⟩
theorem mX7 {cur : Array Value} : ∀ {cs cs' : List T} {p : Nat} {fp : List Nat}, an7 tb F w cur p cs fp → erL cs = some cs' → cs'.length = cs.length ∧ ∀ F', (∀ k, F k → F' k) → (∀ k ∈ fp, F' k) → an7 tb F' w cur p cs' []
 | [], cs', p, fp, h, he => by
  simp only [erL, Option.some.injEq] at he
  subst he
  exact ⟨rfl, fun F' _ _ => by simp [an7]⟩
 | c :: cs, cs', p, fp, h, he => by
  simp only [erL] at he
  split at he
  ·rename_i x xs hx hxs
   cases he
   simp only [an7] at h
   obtain ⟨f1, f2, u, rfl, h1, h2, h3⟩ := h
   obtain ⟨k0, k1⟩ := mX7 h3 hxs
   refine ⟨by simp [k0], fun F' hF hf => ?_⟩
   simp only [an7]
   exact ⟨[], [], u, rfl, h1, wx7 hF hx h2 (fun k hk => hf k (by simp [hk])), k1 F' hF fun k hk => hf k (by simp [hk])⟩
  ·cases he
theorem zp7 {cur : Array Value} {j p : Nat} {r r' : List T} {fp : List Nat} (h : an7 tb F w cur p r fp) (hp : pe7 j r = some r') : r'.length = r.length ∧ ∃ f1 f2 : List Nat, fp.Perm (f1 ++ f2) ∧ ∀ F', (∀ k, F k → F' k) → (∀ k ∈ f2, F' k) → an7 tb F' w cur p r' f1 := by
 unfold pe7 at hp
 split at hp
 ·obtain ⟨k0, k1⟩ := mX7 h hp
  exact ⟨k0, [], fp, by simp, fun F' hF hf => k1 F' hF hf⟩
 ·split at hp
  ·rename_i c hc
   obtain ⟨c', hc', rfl⟩ := Option.map_eq_some_iff.1 hp
   obtain ⟨m1, m2, m3, m4⟩ := mW7 h hc hc'
   exact ⟨by simp, m1, m2, m3, m4⟩
  ·cases hp
theorem px7 {cur : Array Value} {k j : Nat} : ∀ {rs rs' : Rows} {i : Nat} {fp : List Nat}, ap7 tb F w cur k i rs fp → dr7 j rs = some rs' → rs'.length = rs.length ∧ ∃ f1 f2 : List Nat, fp.Perm (f1 ++ f2) ∧ ∀ F', (∀ k, F k → F' k) → (∀ k ∈ f2, F' k) → ap7 tb F' w cur k i rs' f1
 | [], rs', i, fp, h, hp => by
  simp only [dr7, Option.some.injEq] at hp
  subst hp
  simp only [ap7] at h
  subst h
  exact ⟨rfl, [], [], by simp, fun F' hF hf => by simp [ap7]⟩
 | r :: rs, rs', i, fp, h, hp => by
  simp only [dr7] at hp
  split at hp
  ·rename_i x xs hx hxs
   cases hp
   simp only [ap7] at h
   obtain ⟨f1, f2, rfl, h1, h2, h3⟩ := h
   obtain ⟨k0, g1, g2, g3, g4⟩ := px7 h3 hxs
   obtain ⟨m0, m1, m2, m3, m4⟩ := zp7 h2 hx
   refine ⟨by simp [k0], m1 ++ g1, m2 ++ g2, ?_, fun F' hF hf => ?_⟩
   ·refine (m3.append g3).trans ?_
    rw [List.perm_iff_count]
    intro x
    simp only [List.count_append]
    omega
   ·simp only [ap7]
    exact ⟨m1, g1, rfl, by rw [m0]; exact h1, m4 F' hF (fun q hq => hf q (by simp [hq])), g4 F' hF (fun q hq => hf q (by simp [hq]))⟩
  ·cases hp
theorem u97 {j : Nat} {x y : AV} {o o' : ah7} {fps : Nat → List Nat} {fl : List Nat} (h : (j47 j x).run o = some (y, o')) (hr : HRel tb F K o fps fl w) (hs : ∀ k, K k → k < w.heap.size) : y = x ∧ ∃ (F' K' : Nat → Prop) (fps' : Nat → List Nat), ((∀ k, F k → F' k) ∧ (∀ k, F' k → F k ∨ ¬ K k)) ∧ (∀ k, K k → K' k) ∧ (∀ k, K' k → k < w.heap.size) ∧ HRel tb F' K' o' fps' fl w := by
 unfold j47 at h
 split at h
 ·rename_i n b cap off len k xs hx
  simp only [ay7, ak7, bo7, ax7, ab7, Bool.and_eq_true, decide_eq_true_eq, Bool.not_eq_true'] at h
  obtain ⟨e, he, ⟨⟨q1, q2⟩, q3⟩, rows', h1, rfl, rfl⟩ := h
  refine ⟨rfl, ?_⟩
  have hE := hr.ents n e he
  have key : ∃ f1 f2 : List Nat, (fps n).Perm (f1 ++ f2) ∧ ∀ F', (∀ k, F k → F' k) → (∀ k ∈ f2, F' k) → OWe tb F' w { e with rows := rows' } f1 := by
   cases hb : e.b with
   | none =>
    obtain ⟨r1, r2, r3, r4⟩ := e37 hE hb (by simpa using q3)
    rw [r1] at h1
    simp only [dr7, Option.some.injEq] at h1
    subst h1
    refine ⟨[], [], by rw [r4]; simp, fun F' hF hf => ?_⟩
    unfold OWe
    simp only [hb]
    exact .inl ⟨trivial, r2, r3, trivial⟩
   | some g =>
    unfold OWe at hE
    rw [hb] at hE
    obtain ⟨cur, fp', r1, r2, r3, r4, r5, r6⟩ := hE
    obtain ⟨k0, f1, f2, k1, k2⟩ := px7 r6 h1
    refine ⟨g :: f1, f2, by rw [r5]; exact List.Perm.cons _ k1, fun F' hF hf => ?_⟩
    unfold OWe
    simp only [hb]
    exact ⟨cur, f1, r1, r2, by omega, r4, rfl, k2 F' hF hf⟩
  obtain ⟨f1, f2, k1, k2⟩ := key
  have ht := hr.take n
  have hmem : ∀ b ∈ f2, b ∈ fps n := fun b hb => k1.mem_iff.2 (by simp [hb])
  have hnd : (f1 ++ f2).Nodup := k1.nodup_iff.1 (hr.nd n)
  have ht2 : HRel tb F K (upd o n none) (mj7 fps n []) (f1 ++ fl) w := by
   refine ht.sub (fun b hb => ?_) ?_
   ·rcases List.mem_append.1 hb with hb | hb
    ·exact List.mem_append_left _ (k1.mem_iff.2 (by simp [hb]))
    ·exact List.mem_append_right _ hb
   ·have := ht.fnd
    rw [List.nodup_append] at this ⊢
    exact ⟨(List.nodup_append.1 hnd).1, this.2.1, fun a ha b hb => this.2.2 a (k1.mem_iff.2 (by simp [ha])) b hb⟩
  have ht3 : HRel tb (fun k => F k ∨ k ∈ f2) (fun k => K k ∨ k ∈ f2) (upd o n none) (mj7 fps n []) (f1 ++ fl) w := by
   refine ht2.widen (fun k hk => .inl hk) (fun k hk => hk.imp (hr.kp k) id) (fun m b hb hk => ?_) (fun b hb hk => ?_)
   ·rcases hk with hk | hk
    ·exact (ht2.lv m b hb).2 hk
    ·exact ht.fdj m b (List.mem_append_left _ (hmem b hk)) hb
   ·rcases hk with hk | hk
    ·exact (ht2.flv b hb).2 hk
    ·rcases List.mem_append.1 hb with hb | hb
     ·exact (List.nodup_append.1 hnd).2.2 b hb b hk rfl
     ·exact (List.nodup_append.1 ht.fnd).2.2 b (hmem b hk) b hb rfl
  have hp := HRel.put ht3 n (k2 (fun k => F k ∨ k ∈ f2) (fun k hk => .inl hk) (fun k hk => .inr hk))
  have e1 : upd (upd o n none) n (some { e with rows := rows' }) = upd o n (some { e with rows := rows' }) := by
   funext m; simp only [upd]; split <;> rfl
  rw [e1] at hp
  refine ⟨_, _, _, ⟨fun k hk => .inl hk, fun k hk => hk.imp id fun h => (hr.lv n k (hmem k h)).2⟩, fun k hk => .inl hk, fun k hk => ?_, hp⟩
  rcases hk with hk | hk
  ·exact hs k hk
  ·exact (hr.lv n k (hmem k hk)).1
 ·simp only [ag7] at h
section
variable {N : Nat} {w0 : World} {s : St} {a : Act} {o : Oper} {G : Gam} {next : Act → World → Prop} {Q : Exit → Act → World → Prop}
theorem wy7 {d : Nat} {ch : Ch} {t : Tm} {io : Opx} {x : AV} (h : evp t io = some x) (o : ah7) : (aq7 G d ch t io).run o = some (x, o) := by
 by_cases hp : pw7 io = false
 ·rw [i37 hp, h]
  rfl
 ·cases io with
  | load sz agg p =>
   simp only [evp] at h
   split at h
   ·rename_i cs hcs
    split at h
    ·rename_i hle
     simp only [aq7, hcs, hle, if_true]
     rw [h]
     rfl
    ·cases h
   ·cases h
  | _ => first | (cases h; done) | (exact absurd rfl hp)
theorem SR.frz {x y : AV} {o' : ah7} {o1 : ah7} {K0 : Nat → Prop} (h : SR tb F K K0 N w0 ⟨aA7 s.t o.dst x, o1⟩ a w) (hf : (e17 x).run o1 = some (y, o')) (hd : ∀ n, o.dst = some n → n < N) : ∃ F' K', ((∀ k, F k → F' k) ∧ (∀ k, F' k → F k ∨ ¬ K0 k)) ∧ SR tb F' K' K0 N w0 ⟨aA7 s.t o.dst y, o'⟩ a w := by
 obtain ⟨fps, hr⟩ := h.hr
 have h0 := h.k0
 obtain ⟨F', K', fps', g1, g2, g3, g4, g5⟩ := mU7 w x hf hr h.hK
 refine ⟨F', K', ⟨g1.1, fun k hk => (g1.2 k hk).imp id fun h hk0 => h (h0 k hk0)⟩, ⟨fun i => ?_, h.rt.gl.keep (fun _ _ => rfl) g1.1⟩, ⟨fps', g4⟩, g3, h.sz, h.df, h.os, h.tape, h.output, h.size, fun k hk => g2 k (h.k0 k hk), h.blk⟩
 have hi := h.rt.v i
 cases hdd : o.dst with
 | none =>
  rw [hdd] at hi
  exact cl7 (w := w) (w' := w) (fun _ _ => rfl) g1.1 _ _ hi
 | some n =>
  rw [hdd] at hi
  simp only [aA7] at hi ⊢
  split at hi
  ·rename_i e
   rw [if_pos e]
   exact g5 _ hi
  ·rename_i e
   rw [if_neg e]
   exact cl7 (w := w) (w' := w) (fun _ _ => rfl) g1.1 _ _ hi
theorem SR.ren {m k0 : Nat} {x y : AV} {o' : ah7} {o1 : ah7} {K0 : Nat → Prop} (h : SR tb F K K0 N w0 ⟨aA7 s.t o.dst x, o1⟩ a w) (hf : (kj7 m k0 x).run o1 = some (y, o')) : SR tb F K K0 N w0 ⟨aA7 s.t o.dst y, o'⟩ a w := by
 obtain ⟨fps, hr⟩ := h.hr
 obtain ⟨fps', g4, g5⟩ := u37 hf hr
 refine ⟨⟨fun i => ?_, h.rt.gl⟩, ⟨fps', g4⟩, h.hK, h.sz, h.df, h.os, h.tape, h.output, h.size, h.k0, h.blk⟩
 have hi := h.rt.v i
 cases hdd : o.dst with
 | none =>
  rw [hdd] at hi
  exact hi
 | some n =>
  rw [hdd] at hi
  simp only [aA7] at hi ⊢
  split at hi
  ·rename_i e
   rw [if_pos e]
   exact g5 _ hi
  ·rename_i e
   rw [if_neg e]
   exact hi
theorem SR.shut {p x y : AV} {o' : ah7} {o1 : ah7} {K0 : Nat → Prop} (h : SR tb F K K0 N w0 ⟨aA7 s.t o.dst x, o1⟩ a w) (hf : (mg7 p x).run o1 = some (y, o')) : SR tb F K K0 N w0 ⟨aA7 s.t o.dst y, o'⟩ a w := by
 obtain ⟨fps, hr⟩ := h.hr
 obtain ⟨rfl, fps', g4⟩ := sb7 hf hr
 exact ⟨h.rt, ⟨fps', g4⟩, h.hK, h.sz, h.df, h.os, h.tape, h.output, h.size, h.k0, h.blk⟩
theorem SR.same {x y : AV} {o1 : ah7} {K0 : Nat → Prop} (h : SR tb F K K0 N w0 ⟨aA7 s.t o.dst x, o1⟩ a w) (g5 : ∀ u, at7 tb F w x u → at7 tb F w y u) : SR tb F K K0 N w0 ⟨aA7 s.t o.dst y, o1⟩ a w := by
 refine ⟨⟨fun i => ?_, h.rt.gl⟩, h.hr, h.hK, h.sz, h.df, h.os, h.tape, h.output, h.size, h.k0, h.blk⟩
 have hi := h.rt.v i
 cases hdd : o.dst with
 | none =>
  rw [hdd] at hi
  exact hi
 | some n =>
  rw [hdd] at hi
  simp only [aA7] at hi ⊢
  split at hi
  ·rename_i e
   rw [if_pos e]
   exact g5 _ hi
  ·rename_i e
   rw [if_neg e]
   exact hi
theorem SR.pfz {j : Nat} {x y : AV} {o' : ah7} {o1 : ah7} {K0 : Nat → Prop} (h : SR tb F K K0 N w0 ⟨aA7 s.t o.dst x, o1⟩ a w) (hf : (j47 j x).run o1 = some (y, o')) : ∃ F' K', ((∀ k, F k → F' k) ∧ (∀ k, F' k → F k ∨ ¬ K0 k)) ∧ SR tb F' K' K0 N w0 ⟨aA7 s.t o.dst y, o'⟩ a w := by
 obtain ⟨fps, hr⟩ := h.hr
 have h0 := h.k0
 obtain ⟨rfl, F', K', fps', g1, g2, g3, g4⟩ := u97 hf hr h.hK
 exact ⟨F', K', ⟨g1.1, fun k hk => (g1.2 k hk).imp id fun h hk0 => h (h0 k hk0)⟩, ⟨fun i => cl7 (w := w) (w' := w) (fun _ _ => rfl) g1.1 _ _ (h.rt.v i), h.rt.gl.keep (fun _ _ => rfl) g1.1⟩, ⟨fps', g4⟩, g3, h.sz, h.df, h.os, h.tape, h.output, h.size, fun k hk => g2 k (h.k0 k hk), h.blk⟩
theorem zq7 (hG : dO7 P tb G) (hd : ∀ n, o.dst = some n → n < N) (h : SRx tb F K N w0 s a w) {d : Nat} : ∀ {io : Opx}, aB7 P tb o.op io = true →
  (match evp s.t io with
   | some x => ∀ a' w', SRx tb F K N w0 ⟨aA7 s.t o.dst x, s.o⟩ a' w' → next a' w'
   | none => ∀ ch, match (aq7 G d ch s.t io).run s.o with
    | some (x, o') => ∀ a' w', SRx tb F K N w0 ⟨aA7 s.t o.dst x, o'⟩ a' w' → next a' w'
    | none => False) → o.wp P a w next Q := by
 have key : ∀ {io : Opx} {f : AV → HM AV}, (∀ x y o1 o' a' w', (f x).run o1 = some (y, o') → SRx tb F K N w0 ⟨aA7 s.t o.dst x, o1⟩ a' w' → SRx tb F K N w0 ⟨aA7 s.t o.dst y, o'⟩ a' w') →
   (∀ ch, match (do let x ← aq7 G d ch s.t io; f x : HM AV).run s.o with
    | some (x, o') => ∀ a' w', SRx tb F K N w0 ⟨aA7 s.t o.dst x, o'⟩ a' w' → next a' w'
    | none => False) → (match evp s.t io with
   | some x => ∀ a' w', SRx tb F K N w0 ⟨aA7 s.t o.dst x, s.o⟩ a' w' → next a' w'
   | none => ∀ ch, match (aq7 G d ch s.t io).run s.o with
    | some (x, o') => ∀ a' w', SRx tb F K N w0 ⟨aA7 s.t o.dst x, o'⟩ a' w' → next a' w'
    | none => False) := by
  intro io f hf H
  split
  ·rename_i x hx
   have H0 := H (fun _ => (none, 0))
   intro a' w' hs
   split at H0
   ·rename_i y o' hrun
    obtain ⟨x', o1, h1, h2⟩ := run_bind.1 hrun
    rw [wy7 hx] at h1
    cases h1
    exact H0 a' w' (hf _ _ _ _ _ _ h2 hs)
   ·exact H0.elim
  ·intro ch
   have H0 := H ch
   split at H0
   ·rename_i y o' hrun
    obtain ⟨x', o1, h1, h2⟩ := run_bind.1 hrun
    rw [h1]
    exact fun a' w' hs => H0 a' w' (hf _ _ _ _ _ _ h2 hs)
   ·exact H0.elim
 intro io
 induction io with
 | frz io ih =>
  intro hc H
  have hc' : aB7 P tb o.op io = true := by
   generalize o.op = op at hc
   cases op <;> exact hc
  refine ih hc' (key (f := e17) (fun x y o1 o' a' w' hf hs => ?_) H)
  obtain ⟨F1, K1, g1, g2⟩ := hs
  obtain ⟨F2, K2, k1, k2⟩ := g2.frz hf hd
  exact ⟨F2, K2, ⟨fun k hk => k1.1 k (g1.1 k hk), fun k hk => (k1.2 k hk).elim (g1.2 k) .inr⟩, k2⟩
 | ren m k0 io ih =>
  intro hc H
  have hc' : aB7 P tb o.op io = true := by
   generalize o.op = op at hc
   cases op <;> exact hc
  refine ih hc' (key (f := kj7 m k0) (fun x y o1 o' a' w' hf hs => ?_) H)
  obtain ⟨F1, K1, g1, g2⟩ := hs
  exact ⟨F1, K1, g1, g2.ren hf⟩
 | shut p io ih =>
  intro hc H
  have hc' : aB7 P tb o.op io = true := by
   generalize o.op = op at hc
   cases op <;> exact hc
  refine ih hc' (key (f := mg7 (ev s.t p)) (fun x y o1 o' a' w' hf hs => ?_) H)
  obtain ⟨F1, K1, g1, g2⟩ := hs
  exact ⟨F1, K1, g1, g2.shut hf⟩
 | rawl io ih =>
  intro hc H
  have hc' : aB7 P tb o.op io = true := by
   generalize o.op = op at hc
   cases op <;> exact hc
  refine ih hc' (key (f := fun x => .ret (r07 x)) (fun x y o1 o' a' w' hf hs => ?_) H)
  simp only [ab7] at hf
  obtain ⟨rfl, rfl⟩ := hf
  obtain ⟨F1, K1, g1, g2⟩ := hs
  exact ⟨F1, K1, g1, g2.same fun u hu => sc7 hu⟩
 | unr ns io ih =>
  intro hc H
  have hc' : aB7 P tb o.op io = true := by
   generalize o.op = op at hc
   cases op <;> exact hc
  refine ih hc' (key (f := mb7 ns) (fun x y o1 o' a' w' hf hs => ?_) H)
  obtain ⟨F1, K1, g1, g2⟩ := hs
  obtain ⟨fps, hr⟩ := g2.hr
  obtain ⟨rfl, k⟩ := u57 hf hr
  exact ⟨F1, K1, g1, g2.same k⟩
 | pfz j io ih =>
  intro hc H
  have hc' : aB7 P tb o.op io = true := by
   generalize o.op = op at hc
   cases op <;> exact hc
  refine ih hc' (key (f := j47 j) (fun x y o1 o' a' w' hf hs => ?_) H)
  obtain ⟨F1, K1, g1, g2⟩ := hs
  obtain ⟨F2, K2, k1, k2⟩ := g2.pfz hf
  exact ⟨F2, K2, ⟨fun k hk => k1.1 k (g1.1 k hk), fun k hk => (k1.2 k hk).elim (g1.2 k) .inr⟩, k2⟩
 | trn io ih =>
  intro hc H
  have hc' : aB7 P tb o.op io = true := by
   generalize o.op = op at hc
   cases op <;> exact hc
  refine ih hc' (key (f := mc7) (fun x y o1 o' a' w' hf hs => ?_) H)
  obtain ⟨F1, K1, g1, g2⟩ := hs
  obtain ⟨fps, hr⟩ := g2.hr
  obtain ⟨rfl, fps', hr'⟩ := u67 hf hr
  exact ⟨F1, K1, g1, g2.rt, ⟨fps', hr'⟩, g2.hK, g2.sz, g2.df, g2.os, g2.tape, g2.output, g2.size, g2.k0, g2.blk⟩
 | cla n io ih =>
  intro hc H
  have hc' : aB7 P tb o.op io = true := by
   generalize o.op = op at hc
   cases op <;> exact hc
  refine ih hc' (key (f := FC7 n) (fun x y o1 o' a' w' hf hs => ?_) H)
  obtain ⟨F1, K1, g1, g2⟩ := hs
  obtain ⟨fps, hr⟩ := g2.hr
  obtain ⟨rfl, fps', hr'⟩ := u87 hf hr
  exact ⟨F1, K1, g1, g2.rt, ⟨fps', hr'⟩, g2.hK, g2.sz, g2.df, g2.os, g2.tape, g2.output, g2.size, g2.k0, g2.blk⟩
 | opa n m io ih =>
  intro hc H
  have hc' : aB7 P tb o.op io = true := by
   generalize o.op = op at hc
   cases op <;> exact hc
  have H : ∀ ch, match (aq7 G d ch s.t (.opa n m io)).run s.o with
    | some (x, o') => ∀ a' w', SRx tb F K N w0 ⟨aA7 s.t o.dst x, o'⟩ a' w' → next a' w'
    | none => False := H
  refine ih hc' ?_
  split
  ·rename_i x hx
   intro a' w' hs
   obtain ⟨F1, K1, g1, g2⟩ := hs
   obtain ⟨fps, hr⟩ := g2.hr
   obtain ⟨ch, hch⟩ := u77 n m x hr
   have H0 := H ch
   simp only [aq7, hx] at H0
   split at H0
   ·rename_i y o' hrun
    obtain ⟨rfl, fps', hr'⟩ := hch _ _ hrun
    exact H0 a' w' ⟨F1, K1, g1, g2.rt, ⟨fps', hr'⟩, g2.hK, g2.sz, g2.df, g2.os, g2.tape, g2.output, g2.size, g2.k0, g2.blk⟩
   ·exact H0.elim
  ·rename_i hx
   have H0 := H (fun _ => (none, 0))
   simp only [aq7, hx, HM.run] at H0
 | _ =>
  intro hc H
  obtain ⟨F1, K1, g1, g2⟩ := h
  have hgrow : ∀ {s' : St} {a' : Act} {w' : World}, (∃ F' K', ((∀ k, F1 k → F' k) ∧ (∀ k, F' k → F1 k ∨ ¬ K1 k)) ∧ SR tb F' K' K N w0 s' a' w') → SRx tb F K N w0 s' a' w' := fun ⟨F2, K2, k1, k2⟩ =>
   ⟨F2, K2, ⟨fun k hk => k1.1 k (g1.1 k hk), fun k hk => (k1.2 k hk).elim (g1.2 k) fun h => .inr fun hk0 => h (g2.k0 k hk0)⟩, k2⟩
  refine ww7 (d := d) hG rfl hc hd g2 ?_
  split
  ·rename_i x hx
   rw [hx] at H
   exact fun a' w' hs => H a' w' (hgrow hs)
  ·rename_i hx
   rw [hx] at H
   intro ch
   have := H ch
   split
   ·rename_i hr
    rw [hr] at this
    exact fun a' w' hs => this a' w' (hgrow hs)
   ·rename_i hr
    rw [hr] at this
    exact this
end
end
end Go.Proofs.AM
