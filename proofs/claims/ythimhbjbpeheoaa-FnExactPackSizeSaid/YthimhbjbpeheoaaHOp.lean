/- A part of the proof of 'FnExactPackSizeSaid' (HOp): lemmas on an abstract machine for the program's functions. Conditions: none. -/
import Derived.Test.YthimhbjbpeheoaaHBack
set_option linter.unusedVariables false
set_option linter.unusedSimpArgs false
namespace Go.Proofs.AM
open Go.RowKit
variable {P : Program} {tb : Tab} {F F' K : Nat → Prop} {w : World}
structure SR (tb : Tab) (F K K0 : Nat → Prop) (N : Nat) (w0 : World) (s : St) (a : Act) (w : World) : Prop where
  rt : RelT tb F w s.t a
  hr : ∃ fps, HRel tb F K s.o fps [] w
  hK : ∀ k, K k → k < w.heap.size
  sz : a.tmps.size = N
  df : a.defers = []
  os : w.os = w0.os
  tape : w.tape = w0.tape
  output : w.output = w0.output
  size : w0.heap.size ≤ w.heap.size
  k0 : ∀ k, K0 k → K k
  blk : ∀ k, K0 k → w.heap[k]? = w0.heap[k]?
def SRx (tb : Tab) (F K : Nat → Prop) (N : Nat) (w0 : World) (s : St) (a : Act) (w : World) : Prop := ∃ F' K', ((∀ k, F k → F' k) ∧ (∀ k, F' k → F k ∨ ¬ K k)) ∧ SR tb F' K' K N w0 s a w
theorem put_size (a : Act) (d : Option Tmp) (v : Value) : (a.put d v).tmps.size = a.tmps.size := by cases d <;> simp [Act.put]
theorem put_defers (a : Act) (d : Option Tmp) (v : Value) : (a.put d v).defers = a.defers := by cases d <;> rfl
section
variable {K0 : Nat → Prop} {N : Nat} {w0 : World} {s : St} {a : Act} {o : Oper} {G : Gam} {next : Act → World → Prop} {Q : Exit → Act → World → Prop}
theorem SR.put (h : SR tb F K K0 N w0 s a w) {fps : Nat → List Nat} (hr : HRel tb F K s.o fps [] w) {w' : World} {o' : Heap} {fps' : Nat → List Nat} (hr' : HRel tb F K o' fps' [] w') (hs : Stp fps w w') {d : Option Nat} (hd : ∀ n, d = some n → n < N) {x : AV} {u : Value} (hx : RelV tb F w' x u) :
    SR tb F K K0 N w0 ⟨updT s.t d x, o'⟩ (a.put d u) w' := by
  have hk : ∀ k, K k → w'.heap[k]? = w.heap[k]? := fun k hk => hs.blk k (h.hK k hk) (fun n hn => (hr.lv n k hn).2 hk)
  exact ⟨RelT_put (RelT_keep (fun k hf => hk k (hr.kp k hf)) (fun _ h => h) h.rt) (by rw [h.sz]; exact hd) hx, ⟨fps', hr'⟩, fun k hk => Nat.lt_of_lt_of_le (h.hK k hk) hs.size, by rw [put_size]; exact h.sz, by rw [put_defers]; exact h.df,
    hs.os.trans h.os, hs.tape.trans h.tape, hs.output.trans h.output, Nat.le_trans h.size hs.size, h.k0, fun k hk' => (hk k (h.k0 k hk')).trans (h.blk k hk')⟩
theorem SR.putG (h : SR tb F K K0 N w0 s a w) {fps : Nat → List Nat} {w' : World} {x : AV} {u : Value} {o' : Heap} {d : Option Nat} (hr : HRel tb F K s.o fps [] w) (hb : Behind tb F K w w' fps x u o') (hd : ∀ n, d = some n → n < N) :
    ∃ F' K', ((∀ k, F k → F' k) ∧ (∀ k, F' k → F k ∨ ¬ K k)) ∧ SR tb F' K' K0 N w0 ⟨updT s.t d x, o'⟩ (a.put d u) w' := by
  obtain ⟨F2, K2, g1, g2, g3, g4, hx, hr', hs⟩ := hb
  have hk : ∀ k, K k → w'.heap[k]? = w.heap[k]? := fun k hk => hs.blk k (h.hK k hk) (fun n hn => (hr.lv n k hn).2 hk)
  exact ⟨F2, K2, ⟨g1, g2⟩, RelT_put (RelT_keep (fun k hf => hk k (hr.kp k hf)) g1 h.rt) (by rw [h.sz]; exact hd) hx, hr', g4, by rw [put_size]; exact h.sz, by rw [put_defers]; exact h.df,
    hs.os.trans h.os, hs.tape.trans h.tape, hs.output.trans h.output, Nat.le_trans h.size hs.size, fun k hk0 => g3 k (h.k0 k hk0), fun k hk' => (hk k (h.k0 k hk')).trans (h.blk k hk')⟩
theorem wp_of_run (h : SR tb F K K0 N w0 s a w) {fps : Nat → List Nat} (hr : HRel tb F K s.o fps [] w) (hd : ∀ n, o.dst = some n → n < N) {x : AV} {o' : Heap} (hrun : HRun P tb F K w fps o a x o') (hn : ∀ a' w', SR tb F K K0 N w0 ⟨updT s.t o.dst x, o'⟩ a' w' → next a' w') : o.wp P a w next Q := by
  obtain ⟨nx, w', fps', h1, h2, h3, h4⟩ := hrun
  unfold Oper.wp
  rw [h1]
  rcases h2 with ⟨u, rfl, hx⟩ | ⟨rfl, rfl⟩
  · exact hn _ _ (h.put hr h3 h4 hd hx)
  · exact hn _ _ (h.put hr h3 h4 hd (by simp [RelV]))
theorem wp_of_pure (h : SR tb F K K0 N w0 s a w) (hd : ∀ n, o.dst = some n → n < N) {x : AV} (hrun : PureRun P tb F w o a x) (hn : ∀ a' w', SR tb F K K0 N w0 ⟨updT s.t o.dst x, s.o⟩ a' w' → next a' w') : o.wp P a w next Q := by
  obtain ⟨u, h1, h2⟩ := hrun
  obtain ⟨fps, hr⟩ := h.hr
  exact wp_of_run h hr hd ⟨_, w, fps, h1, .inl ⟨u, rfl, h2⟩, hr, Stp.refl _ _⟩ hn
theorem pure_sound {io : Opx} {t : Tm} {x : AV} (hc : chkOp P tb o.op io = true) (r : RelT tb F w t a) (h : evp t io = some x) : PureRun P tb F w o a x := by
  cases io with
  | mv _ => exact s_mv hc r h
  | nilck _ => exact s_nilck hc r h
  | pick _ _ _ => exact s_pick hc r h
  | bin _ _ _ => exact s_bin hc r h
  | eqs _ _ _ _ _ => exact s_eqs hc r h
  | un _ _ => exact s_un hc r h
  | conv _ _ => exact s_conv hc r h
  | len _ _ => exact s_len hc r h
  | iaddr _ _ _ => exact s_iaddr hc r h
  | faddr _ _ => exact s_faddr hc r h
  | fld _ _ _ _ => exact s_fld hc r h
  | sidx _ _ => exact s_sidx hc r h
  | ssl _ _ _ => exact s_ssl hc r h
  | sls _ _ _ _ => exact s_sls hc r h
  | load _ _ _ => exact s_load hc r h
  | build _ _ => exact s_build hc r h
  | mkf _ _ => exact s_mkf hc r h
  | ext _ _ => exact s_ext hc r h
  | _ => simp [evp] at h
theorem call_enter {g : FuncId} (h : funOk P g = true) (args : Array Value) : (callFunc g args).run P w = .ok (.enter g args) w := by
  unfold funOk at h
  split at h
  · rename_i fn hf
    simp only [Bool.and_eq_true] at h
    obtain ⟨h1, h2⟩ := h
    have h2' : (fn.name == "runtime.NumGoroutine") = false := by simpa [bne] using h2
    have h1' : fn.body.isNone = false := by
      cases hb : fn.body with
      | none => rw [hb] at h1; cases h1
      | some c => rfl
    unfold callFunc
    rw [Sem.run_bind, run_program, Result.andThen_ok]
    rw [hf]
    simp only [h2', h1', Bool.false_eq_true, if_false, Sem.run_pure]
  · cases h
theorem exec_call {c : Call} {f : Operand} {g : FuncId} {cs : Array Value} (ho : o.op = .call c) (hcal : c.callee = .value f) (hf : a.eval f = .func (.func g) #[] cs) (hfo : funOk P g = true) : (execOp a.eval o).run P w = .ok (.enter g (c.args.map a.eval ++ cs)) w := by
  unfold execOp
  rw [ho]
  simp only [resolve, hcal, hf, Deferred.ofValue, Sem.run_bind, Sem.run_pure, Result.andThen_ok, invoke]
  simpa using call_enter hfo _
def heapOp : Opx → Bool
  | .load .. | .store .. | .box .. | .alloc .. | .mks .. | .lit .. | .app .. | .call .. | .calld .. | .frz .. | .ren .. => true
  | _ => false
theorem opSem_pure {d : Nat} {ch : Ch} {t : Tm} {io : Opx} (h : heapOp io = false) : opSem G d ch t io = orFail (evp t io) := by
  cases io <;> first | rfl | (cases h)
theorem wp_call {f : FuncId} {args : Array Value} (hx : (execOp a.eval o).run P w = .ok (.enter f args) w) (hc : Calls P f args w fun e w' => match e with | .returned v => next (a.put o.dst v) w' | _ => False) : o.wp P a w next Q := by
  unfold Oper.wp
  rw [hx]
  refine hc.mono fun e w' he => ?_
  cases e with
  | returned v => exact he
  | _ => exact he.elim
theorem op_call (hG : AllGood P tb G) {f : Nat} {xs : List (Bool × Od)} (hc : chkOp P tb o.op (.call f xs) = true) (hd : ∀ n, o.dst = some n → n < N) (h : SR tb F K K0 N w0 s a w) {fps : Nat → List Nat} (hr : HRel tb F K s.o fps [] w) {d : Nat}
    (H : ∀ ch, match (opSem G d ch s.t (.call f xs)).run s.o with
      | some (x, o') => ∀ a' w', (∃ F' K', ((∀ k, F k → F' k) ∧ (∀ k, F' k → F k ∨ ¬ K k)) ∧ SR tb F' K' K0 N w0 ⟨updT s.t o.dst x, o'⟩ a' w') → next a' w'
      | none => False) : o.wp P a w next Q := by
  have H0 := H (fun _ => (none, 0))
  split at H0
  · rename_i x0 o0 hrun0
    simp only [opSem] at hrun0
    obtain ⟨⟨as, ins⟩, o1, h1, h2⟩ := run_bind.1 hrun0
    simp only [run_orFailb, run_needb] at h2
    obtain ⟨r, h2, h3, _⟩ := h2
    have hg := hG _ _ _ _ h2
    cases ho : o.op <;> rw [ho] at hc <;> simp only [chkOp, Bool.false_eq_true] at hc
    rename_i c
    split at hc
    · rename_i g hcal
      simp only [Bool.and_eq_true, decide_eq_true_eq] at hc
      obtain ⟨⟨rfl, hfo⟩, hod⟩ := hc
      have hrel := ods_sound h.rt hod
      rw [List.map_map] at hrel
      have hg' : Good P tb f (as ++ []) (ins.map fun i => (i.e.box, i.e.k, i.e.rows)) r := by rw [List.append_nil]; exact hg
      have hb : (bors []).run o1 = some ([], o1) := rfl
      have hn : RelL tb F w [] [] := by simp only [RelL]
      have h3' : ((frzA s.t xs && frzs []) || (ownR (r.res.map (·.2)) && r.outs.all ownR)) = true := by
        rw [show frzs [] = true from rfl, Bool.and_true]
        exact h3
      have hcc := call_core (d := d) hg' h1 hb hr hrel hn h.hK h3'
      have hE : (execOp a.eval o).run P w = .ok (.enter (tb.fn f) (c.args.toList.map a.eval ++ []).toArray) w := by
        have : (c.args.toList.map a.eval ++ []).toArray = c.args.map a.eval ++ #[] := by apply Array.ext'; simp
        rw [this]
        exact exec_call ho hcal rfl hfo
      refine wp_call hE (Calls.mono hcc.2 ?_)
      intro e w' he
      · cases e with
        | returned v =>
          obtain ⟨ch, he⟩ := he
          have Hc := H ch
          split at Hc
          · rename_i x o' hrun
            simp only [opSem] at hrun
            obtain ⟨⟨as', ins'⟩, o1', h1', h2'⟩ := run_bind.1 hrun
            rw [h1] at h1'
            cases h1'
            simp only [run_orFailb, run_needb] at h2'
            obtain ⟨r', h4, _, h5⟩ := h2'
            rw [h2] at h4
            cases h4
            exact Hc _ _ (h.putG hr (he x o' h5) hd)
          · exact Hc.elim
        | _ => exact he
    · cases hc
  · exact H0.elim
theorem op_calld (hG : AllGood P tb G) {f : Od} {xs : List (Bool × Od)} (hc : chkOp P tb o.op (.calld f xs) = true) (hd : ∀ n, o.dst = some n → n < N) (h : SR tb F K K0 N w0 s a w) {fps : Nat → List Nat} (hr : HRel tb F K s.o fps [] w) {d : Nat}
    (H : ∀ ch, match (opSem G d ch s.t (.calld f xs)).run s.o with
      | some (x, o') => ∀ a' w', (∃ F' K', ((∀ k, F k → F' k) ∧ (∀ k, F' k → F k ∨ ¬ K k)) ∧ SR tb F' K' K0 N w0 ⟨updT s.t o.dst x, o'⟩ a' w') → next a' w'
      | none => False) : o.wp P a w next Q := by
  have H0 := H (fun _ => (none, 0))
  split at H0
  · rename_i x0 o0 hrun0
    simp only [opSem] at hrun0
    split at hrun0
    · rename_i g caps hfv
      obtain ⟨⟨as, ins⟩, o1, h1, h2⟩ := run_bind.1 hrun0
      obtain ⟨cs, o2, hb, h2b⟩ := run_bind.1 h2
      simp only [run_orFailb, run_needb] at h2b
      obtain ⟨r, hq, h3, _⟩ := h2b
      have hg := hG _ _ _ _ hq
      cases ho : o.op <;> rw [ho] at hc <;> simp only [chkOp, Bool.false_eq_true] at hc
      rename_i c
      split at hc
      · rename_i g' hcal
        simp only [Bool.and_eq_true] at hc
        obtain ⟨hof, hod⟩ := hc
        have hrf := od_sound h.rt hof
        rw [hfv] at hrf
        simp only [RelV] at hrf
        obtain ⟨cvs, hfe, hcv⟩ := hrf
        have hrel := ods_sound h.rt hod
        rw [List.map_map] at hrel
        have hcc := call_core (d := d) hg h1 hb hr hrel hcv h.hK h3
        obtain ⟨rfl, hcc⟩ := hcc
        have hE : (execOp a.eval o).run P w = .ok (.enter (tb.fn g) (c.args.toList.map a.eval ++ cvs).toArray) w := by
          have : (c.args.toList.map a.eval ++ cvs).toArray = c.args.map a.eval ++ cvs.toArray := by apply Array.ext'; simp
          rw [this]
          exact exec_call ho hcal hfe hg.1
        refine wp_call hE (Calls.mono hcc ?_)
        intro e w' he
        · cases e with
          | returned v =>
            obtain ⟨ch, he⟩ := he
            have Hc := H ch
            split at Hc
            · rename_i x o' hrun
              simp only [opSem, hfv] at hrun
              obtain ⟨⟨as', ins'⟩, o1', h1', h2'⟩ := run_bind.1 hrun
              rw [h1] at h1'
              cases h1'
              obtain ⟨cs', o2', hb', h2'⟩ := run_bind.1 h2'
              rw [hb] at hb'
              cases hb'
              simp only [run_orFailb, run_needb] at h2'
              obtain ⟨r', h4, _, h5⟩ := h2'
              rw [hq] at h4
              cases h4
              exact Hc _ _ (h.putG hr (he x o' h5) hd)
            · exact Hc.elim
          | _ => exact he
      · cases hc
    · simp only [run_fail] at hrun0
  · exact H0.elim
def isWrap : Opx → Bool
  | .frz _ => true
  | .ren _ _ _ => true
  | _ => false
theorem op_sound1 (hG : AllGood P tb G) {io : Opx} (hz : isWrap io = false) (hc : chkOp P tb o.op io = true) (hd : ∀ n, o.dst = some n → n < N) (h : SR tb F K K0 N w0 s a w) {d : Nat}
    (H : match evp s.t io with
      | some x => ∀ a' w', (∃ F' K', ((∀ k, F k → F' k) ∧ (∀ k, F' k → F k ∨ ¬ K k)) ∧ SR tb F' K' K0 N w0 ⟨updT s.t o.dst x, s.o⟩ a' w') → next a' w'
      | none => ∀ ch, match (opSem G d ch s.t io).run s.o with
        | some (x, o') => ∀ a' w', (∃ F' K', ((∀ k, F k → F' k) ∧ (∀ k, F' k → F k ∨ ¬ K k)) ∧ SR tb F' K' K0 N w0 ⟨updT s.t o.dst x, o'⟩ a' w') → next a' w'
        | none => False) : o.wp P a w next Q := by
  cases hev : evp s.t io with
  | some x =>
    rw [hev] at H
    exact wp_of_pure h hd (pure_sound hc h.rt hev) fun a' w' hs => H a' w' ⟨F, K, ⟨fun _ h => h, fun _ h => .inl h⟩, hs⟩
  | none =>
    rw [hev] at H
    simp only at H
    by_cases hp : heapOp io = false
    · have := H (fun _ => (none, 0))
      rw [opSem_pure hp, hev] at this
      simp [orFail, HM.run] at this
    · obtain ⟨fps, hr⟩ := h.hr
      have fin : ∀ ch, (∀ x hp', (opSem G d ch s.t io).run s.o = some (x, hp') → HRun P tb F K w fps o a x hp') → o.wp P a w next Q := fun ch hh => by
        have := H ch
        split at this
        · rename_i x o' hrun
          exact wp_of_run h hr hd (hh x o' hrun) fun a' w' hs => this a' w' ⟨F, K, ⟨fun _ h => h, fun _ h => .inl h⟩, hs⟩
        · exact this.elim
      cases io with
      | load sz agg y =>
        obtain ⟨ch, hch⟩ := s_loadH (G := G) (d := d) hc h.rt hr hev
        exact fin ch hch
      | store ks p y => exact fin (fun _ => (none, 0)) (fun x hp' hh => s_store hc h.rt hr hh)
      | box k ks y => exact fin (fun _ => (some w.heap.size, 0)) (fun x hp' hh => s_box hc h.rt hr h.hK rfl hh)
      | alloc k z => exact fin (fun _ => (some w.heap.size, 0)) (fun x hp' hh => s_alloc hc hr h.hK rfl hh)
      | mks k z n m => exact fin (fun _ => (some w.heap.size, 0)) (fun x hp' hh => s_mks hc h.rt hr h.hK rfl hh)
      | lit k ks z n ps => exact fin (fun _ => (some w.heap.size, 0)) (fun x hp' hh => s_lit hc h.rt hr h.hK rfl hh)
      | app k mv y z =>
        obtain ⟨ch, hch⟩ := s_app (G := G) (d := d) hc h.rt hr h.hK
        exact fin ch hch
      | call f xs => exact op_call hG hc hd h hr H
      | calld f xs => exact op_calld hG hc hd h hr H
      | frz _ => cases hz
      | ren _ _ _ => cases hz
      | _ => exact absurd rfl hp
mutual
theorem frzV_sound (w : World) : ∀ (x : AV) {F K : Nat → Prop} {y : AV} {o o' : Heap} {fps : Nat → List Nat} {fl : List Nat}, (frzV x).run o = some (y, o') → HRel tb F K o fps fl w → (∀ k, K k → k < w.heap.size) → ∃ (F' K' : Nat → Prop) (fps' : Nat → List Nat), ((∀ k, F k → F' k) ∧ (∀ k, F' k → F k ∨ ¬ K k)) ∧ (∀ k, K k → K' k) ∧ (∀ k, K' k → k < w.heap.size) ∧ HRel tb F' K' o' fps' fl w ∧ ∀ u, RelV tb F w x u → RelV tb F' w y u
  | .v x, F, K, y, o, o', fps, fl, h, hr, hs => by
    simp only [frzV, run_ret2] at h
    obtain ⟨rfl, rfl⟩ := h
    exact ⟨F, K, fps, ⟨fun _ h => h, fun _ h => .inl h⟩, fun _ h => h, hs, hr, fun u h => h⟩
  | .ro rows, F, K, y, o, o', fps, fl, h, hr, hs => by
    simp only [frzV, run_ret2] at h
    obtain ⟨rfl, rfl⟩ := h
    exact ⟨F, K, fps, ⟨fun _ h => h, fun _ h => .inl h⟩, fun _ h => h, hs, hr, fun u h => h⟩
  | .nil, F, K, y, o, o', fps, fl, h, hr, hs => by
    simp only [frzV, run_ret2] at h
    obtain ⟨rfl, rfl⟩ := h
    refine ⟨F, K, fps, ⟨fun _ h => h, fun _ h => .inl h⟩, fun _ h => h, hs, hr, fun u h => ?_⟩
    simp only [RelV] at h ⊢
    exact ⟨none, 0, 0, h, Nat.le_refl _, by simp [ROrows]⟩
  | .ref n b cap off len k, F, K, y, o, o', fps, fl, h, hr, hs => by
    simp only [frzV, run_askb, run_needb, run_layb, Bool.and_eq_true, decide_eq_true_eq, Bool.not_eq_true'] at h
    obtain ⟨e, he, ⟨⟨⟨q1, q2⟩, q3⟩, q4⟩, h⟩ := h
    replace h : (orFail (erR ((e.rows.drop off).take len)) >>= fun r => HM.ret (AV.ro r)).run (upd o n none) = some (y, o') := h
    rw [run_orFailb] at h
    obtain ⟨r, h1, h2⟩ := h
    rw [run_ret2] at h2
    obtain ⟨rfl, rfl⟩ := h2
    refine ⟨fun k => F k ∨ k ∈ fps n, fun k => K k ∨ k ∈ fps n, updF fps n [], ⟨fun _ h => .inl h, fun k hk => hk.imp id fun h => (hr.lv n k h).2⟩, fun _ h => .inl h, fun k hk => ?_, ?_, fun u hu => ?_⟩
    · rcases hk with hk | hk
      · exact hs k hk
      · exact (hr.lv n k hk).1
    · refine ⟨fun k hk => hk.imp (hr.kp k) id, fun m e' hm => ?_, fun m hm => ?_, fun m => ?_, fun m m' b' hmm hb => ?_, fun m b' hb => ?_, hr.fnd, fun m b' hb => ?_, fun b' hb => ?_⟩
      · by_cases hmn : m = n
        · subst hmn; simp [upd] at hm
        · rw [upd_ne _ _ hmn] at hm
          rw [updF_ne _ _ hmn]
          exact OWe_keep (w := w) (w' := w) (fun _ _ => rfl) (fun k hk => .inl hk) (fun _ _ => rfl) (hr.ents m e' hm)
      · by_cases hmn : m = n
        · subst hmn; rw [updF_same]
        · rw [upd_ne _ _ hmn] at hm
          rw [updF_ne _ _ hmn]
          exact hr.nil m hm
      · by_cases hmn : m = n
        · subst hmn; rw [updF_same]; exact List.nodup_nil
        · rw [updF_ne _ _ hmn]; exact hr.nd m
      · by_cases hmn : m = n
        · subst hmn; rw [updF_same] at hb; cases hb
        · rw [updF_ne _ _ hmn] at hb
          by_cases hmn' : m' = n
          · subst hmn'; rw [updF_same]; simp
          · rw [updF_ne _ _ hmn']; exact hr.dj m m' b' hmm hb
      · by_cases hmn : m = n
        · subst hmn; rw [updF_same] at hb; cases hb
        · rw [updF_ne _ _ hmn] at hb
          refine ⟨(hr.lv m b' hb).1, fun hk => ?_⟩
          rcases hk with hk | hk
          · exact (hr.lv m b' hb).2 hk
          · exact hr.dj m n b' hmn hb hk
      · by_cases hmn : m = n
        · subst hmn; rw [updF_same]; simp
        · rw [updF_ne _ _ hmn]; exact hr.fdj m b' hb
      · refine ⟨(hr.flv b' hb).1, fun hk => ?_⟩
        rcases hk with hk | hk
        · exact (hr.flv b' hb).2 hk
        · exact hr.fdj n b' hb hk
    · simp only [RelV] at hu ⊢
      exact ref_ro hr (fun k hk => .inl hk) (fun k hk => .inr hk) he q1 q2 q3 h1 hu
  | .agg cs, F, K, y, o, o', fps, fl, h, hr, hs => by
    simp only [frzV] at h
    obtain ⟨xs, o1, h1, h2⟩ := run_bind.1 h
    rw [run_ret2] at h2
    obtain ⟨rfl, rfl⟩ := h2
    obtain ⟨F', K', fps', g1, g2, g3, g4, g5⟩ := frzVs_sound w cs h1 hr hs
    refine ⟨F', K', fps', g1, g2, g3, g4, fun u hu => ?_⟩
    simp only [RelV] at hu ⊢
    obtain ⟨us, h3, h4⟩ := hu
    exact ⟨us, h3, g5 us h4⟩
  | .tup cs, F, K, y, o, o', fps, fl, h, hr, hs => by
    simp only [frzV] at h
    obtain ⟨xs, o1, h1, h2⟩ := run_bind.1 h
    rw [run_ret2] at h2
    obtain ⟨rfl, rfl⟩ := h2
    obtain ⟨F', K', fps', g1, g2, g3, g4, g5⟩ := frzVs_sound w cs h1 hr hs
    refine ⟨F', K', fps', g1, g2, g3, g4, fun u hu => ?_⟩
    simp only [RelV] at hu ⊢
    obtain ⟨us, h3, h4⟩ := hu
    exact ⟨us, h3, g5 us h4⟩
  | .ptr .., F, K, y, o, o', fps, fl, h, hr, hs => by simp only [frzV, run_fail] at h
  | .rptr .., F, K, y, o, o', fps, fl, h, hr, hs => by simp only [frzV, run_fail] at h
  | .fn .., F, K, y, o, o', fps, fl, h, hr, hs => by simp only [frzV, run_fail] at h
  | .io .., F, K, y, o, o', fps, fl, h, hr, hs => by simp only [frzV, run_fail] at h
  | .pio .., F, K, y, o, o', fps, fl, h, hr, hs => by simp only [frzV, run_fail] at h
  | .junk, F, K, y, o, o', fps, fl, h, hr, hs => by simp only [frzV, run_fail] at h
theorem frzVs_sound (w : World) : ∀ (xs : List AV) {F K : Nat → Prop} {ys : List AV} {o o' : Heap} {fps : Nat → List Nat} {fl : List Nat}, (frzVs xs).run o = some (ys, o') → HRel tb F K o fps fl w → (∀ k, K k → k < w.heap.size) → ∃ (F' K' : Nat → Prop) (fps' : Nat → List Nat), ((∀ k, F k → F' k) ∧ (∀ k, F' k → F k ∨ ¬ K k)) ∧ (∀ k, K k → K' k) ∧ (∀ k, K' k → k < w.heap.size) ∧ HRel tb F' K' o' fps' fl w ∧ ∀ us, RelL tb F w xs us → RelL tb F' w ys us
  | [], F, K, ys, o, o', fps, fl, h, hr, hs => by
    simp only [frzVs, run_ret2] at h
    obtain ⟨rfl, rfl⟩ := h
    exact ⟨F, K, fps, ⟨fun _ h => h, fun _ h => .inl h⟩, fun _ h => h, hs, hr, fun u h => by simpa [RelL] using h⟩
  | x :: xs, F, K, ys, o, o', fps, fl, h, hr, hs => by
    simp only [frzVs] at h
    obtain ⟨y, o1, h1, h⟩ := run_bind.1 h
    obtain ⟨ys1, o2, h2, h3⟩ := run_bind.1 h
    rw [run_ret2] at h3
    obtain ⟨rfl, rfl⟩ := h3
    obtain ⟨F1, K1, fps1, g1, g2, g3, g4, g5⟩ := frzV_sound w x h1 hr hs
    obtain ⟨F2, K2, fps2, k1, k2, k3, k4, k5⟩ := frzVs_sound w xs h2 g4 g3
    refine ⟨F2, K2, fps2, ⟨fun k h => k1.1 k (g1.1 k h), fun k h => (k1.2 k h).elim (g1.2 k) fun h => .inr fun hk => h (g2 k hk)⟩, fun k h => k2 k (g2 k h), k3, k4, fun us hu => ?_⟩
    simp only [RelL] at hu ⊢
    obtain ⟨u, us', rfl, h5, h6⟩ := hu
    exact ⟨u, us', rfl, RelV_keep (w := w) (w' := w) (fun _ _ => rfl) k1.1 _ _ (g5 u h5), k5 us' (RelL_keep (w := w) (w' := w) (fun _ _ => rfl) g1.1 _ _ h6)⟩
end
theorem renV_sound {m k0 : Nat} {x y : AV} {o o' : Heap} {fps : Nat → List Nat} {fl : List Nat} (h : (renV m k0 x).run o = some (y, o')) (hr : HRel tb F K o fps fl w) : ∃ fps', HRel tb F K o' fps' fl w ∧ ∀ u, RelV tb F w x u → RelV tb F w y u := by
  unfold renV at h
  split at h
  · simp only [run_layb, run_ret2] at h
    obtain ⟨rfl, rfl⟩ := h
    refine ⟨_, HRel.put (f := []) (by simpa using hr) m (e := ⟨none, 0, k0, false, []⟩) (by simp [OWe]), fun u hu => ?_⟩
    simp only [RelV] at hu ⊢
    exact ⟨none, by rw [hu], Nat.le_refl _, fun _ => rfl, .inl rfl⟩
  · rename_i n b cap off len k
    simp only [run_askb, run_layb, run_ret2] at h
    obtain ⟨e, he, rfl, rfl⟩ := h
    exact ⟨_, HRel.put (hr.take n) m (hr.ents n e he), fun u hu => by simpa only [RelV] using hu⟩
  · simp only [run_fail] at h
section
variable {N : Nat} {w0 : World} {s : St} {a : Act} {o : Oper} {G : Gam} {next : Act → World → Prop} {Q : Exit → Act → World → Prop}
theorem evp_opSem {d : Nat} {ch : Ch} {t : Tm} {io : Opx} {x : AV} (h : evp t io = some x) (o : Heap) : (opSem G d ch t io).run o = some (x, o) := by
  by_cases hp : heapOp io = false
  · rw [opSem_pure hp, h]
    rfl
  · cases io with
    | load sz agg p =>
      simp only [evp] at h
      split at h
      · rename_i cs hcs
        split at h
        · rename_i hle
          simp only [opSem, hcs, hle, if_true]
          rw [h]
          rfl
        · cases h
      · cases h
    | _ => first | (cases h; done) | (exact absurd rfl hp)
theorem SR.frz {x y : AV} {o' : Heap} {o1 : Heap} {K0 : Nat → Prop} (h : SR tb F K K0 N w0 ⟨updT s.t o.dst x, o1⟩ a w) (hf : (frzV x).run o1 = some (y, o')) (hd : ∀ n, o.dst = some n → n < N) : ∃ F' K', ((∀ k, F k → F' k) ∧ (∀ k, F' k → F k ∨ ¬ K0 k)) ∧ SR tb F' K' K0 N w0 ⟨updT s.t o.dst y, o'⟩ a w := by
  obtain ⟨fps, hr⟩ := h.hr
  have h0 := h.k0
  obtain ⟨F', K', fps', g1, g2, g3, g4, g5⟩ := frzV_sound w x hf hr h.hK
  refine ⟨F', K', ⟨g1.1, fun k hk => (g1.2 k hk).imp id fun h hk0 => h (h0 k hk0)⟩, fun i => ?_, ⟨fps', g4⟩, g3, h.sz, h.df, h.os, h.tape, h.output, h.size, fun k hk => g2 k (h.k0 k hk), h.blk⟩
  have hi := h.rt i
  cases hdd : o.dst with
  | none =>
    rw [hdd] at hi
    exact RelV_keep (w := w) (w' := w) (fun _ _ => rfl) g1.1 _ _ hi
  | some n =>
    rw [hdd] at hi
    simp only [updT] at hi ⊢
    split at hi
    · rename_i e
      rw [if_pos e]
      exact g5 _ hi
    · rename_i e
      rw [if_neg e]
      exact RelV_keep (w := w) (w' := w) (fun _ _ => rfl) g1.1 _ _ hi
theorem SR.ren {m k0 : Nat} {x y : AV} {o' : Heap} {o1 : Heap} {K0 : Nat → Prop} (h : SR tb F K K0 N w0 ⟨updT s.t o.dst x, o1⟩ a w) (hf : (renV m k0 x).run o1 = some (y, o')) : SR tb F K K0 N w0 ⟨updT s.t o.dst y, o'⟩ a w := by
  obtain ⟨fps, hr⟩ := h.hr
  obtain ⟨fps', g4, g5⟩ := renV_sound hf hr
  refine ⟨fun i => ?_, ⟨fps', g4⟩, h.hK, h.sz, h.df, h.os, h.tape, h.output, h.size, h.k0, h.blk⟩
  have hi := h.rt i
  cases hdd : o.dst with
  | none =>
    rw [hdd] at hi
    exact hi
  | some n =>
    rw [hdd] at hi
    simp only [updT] at hi ⊢
    split at hi
    · rename_i e
      rw [if_pos e]
      exact g5 _ hi
    · rename_i e
      rw [if_neg e]
      exact hi
theorem op_sound (hG : AllGood P tb G) (hd : ∀ n, o.dst = some n → n < N) (h : SRx tb F K N w0 s a w) {d : Nat} : ∀ {io : Opx}, chkOp P tb o.op io = true →
    (match evp s.t io with
      | some x => ∀ a' w', SRx tb F K N w0 ⟨updT s.t o.dst x, s.o⟩ a' w' → next a' w'
      | none => ∀ ch, match (opSem G d ch s.t io).run s.o with
        | some (x, o') => ∀ a' w', SRx tb F K N w0 ⟨updT s.t o.dst x, o'⟩ a' w' → next a' w'
        | none => False) → o.wp P a w next Q := by
  have key : ∀ {io : Opx} {f : AV → HM AV}, (∀ x y o1 o' a' w', (f x).run o1 = some (y, o') → SRx tb F K N w0 ⟨updT s.t o.dst x, o1⟩ a' w' → SRx tb F K N w0 ⟨updT s.t o.dst y, o'⟩ a' w') →
      (∀ ch, match (do let x ← opSem G d ch s.t io; f x : HM AV).run s.o with
        | some (x, o') => ∀ a' w', SRx tb F K N w0 ⟨updT s.t o.dst x, o'⟩ a' w' → next a' w'
        | none => False) → (match evp s.t io with
      | some x => ∀ a' w', SRx tb F K N w0 ⟨updT s.t o.dst x, s.o⟩ a' w' → next a' w'
      | none => ∀ ch, match (opSem G d ch s.t io).run s.o with
        | some (x, o') => ∀ a' w', SRx tb F K N w0 ⟨updT s.t o.dst x, o'⟩ a' w' → next a' w'
        | none => False) := by
    intro io f hf H
    split
    · rename_i x hx
      have H0 := H (fun _ => (none, 0))
      intro a' w' hs
      split at H0
      · rename_i y o' hrun
        obtain ⟨x', o1, h1, h2⟩ := run_bind.1 hrun
        rw [evp_opSem hx] at h1
        cases h1
        exact H0 a' w' (hf _ _ _ _ _ _ h2 hs)
      · exact H0.elim
    · intro ch
      have H0 := H ch
      split at H0
      · rename_i y o' hrun
        obtain ⟨x', o1, h1, h2⟩ := run_bind.1 hrun
        rw [h1]
        exact fun a' w' hs => H0 a' w' (hf _ _ _ _ _ _ h2 hs)
      · exact H0.elim
  intro io
  induction io with
  | frz io ih =>
    intro hc H
    have hc' : chkOp P tb o.op io = true := by
      generalize o.op = op at hc
      cases op <;> exact hc
    refine ih hc' (key (f := frzV) (fun x y o1 o' a' w' hf hs => ?_) H)
    obtain ⟨F1, K1, g1, g2⟩ := hs
    obtain ⟨F2, K2, k1, k2⟩ := g2.frz hf hd
    exact ⟨F2, K2, ⟨fun k hk => k1.1 k (g1.1 k hk), fun k hk => (k1.2 k hk).elim (g1.2 k) .inr⟩, k2⟩
  | ren m k0 io ih =>
    intro hc H
    have hc' : chkOp P tb o.op io = true := by
      generalize o.op = op at hc
      cases op <;> exact hc
    refine ih hc' (key (f := renV m k0) (fun x y o1 o' a' w' hf hs => ?_) H)
    obtain ⟨F1, K1, g1, g2⟩ := hs
    exact ⟨F1, K1, g1, g2.ren hf⟩
  | _ =>
    intro hc H
    obtain ⟨F1, K1, g1, g2⟩ := h
    have hgrow : ∀ {s' : St} {a' : Act} {w' : World}, (∃ F' K', ((∀ k, F1 k → F' k) ∧ (∀ k, F' k → F1 k ∨ ¬ K1 k)) ∧ SR tb F' K' K N w0 s' a' w') → SRx tb F K N w0 s' a' w' := fun ⟨F2, K2, k1, k2⟩ =>
      ⟨F2, K2, ⟨fun k hk => k1.1 k (g1.1 k hk), fun k hk => (k1.2 k hk).elim (g1.2 k) fun h => .inr fun hk0 => h (g2.k0 k hk0)⟩, k2⟩
    refine op_sound1 (d := d) hG rfl hc hd g2 ?_
    split
    · rename_i x hx
      rw [hx] at H
      exact fun a' w' hs => H a' w' (hgrow hs)
    · rename_i hx
      rw [hx] at H
      intro ch
      have := H ch
      split
      · rename_i hr
        rw [hr] at this
        exact fun a' w' hs => this a' w' (hgrow hs)
      · rename_i hr
        rw [hr] at this
        exact this
end
end
end Go.Proofs.AM
