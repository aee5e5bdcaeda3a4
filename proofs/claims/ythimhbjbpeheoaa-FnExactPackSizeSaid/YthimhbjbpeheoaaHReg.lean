/- A part of the proof of 'FnExactPackSizeSaid' (HReg): lemmas on an abstract machine for the program's functions. Conditions: none. -/
import Derived.Test.YthimhbjbpeheoaaHOp
import Derived.Test.YthimhbjbpeheoaaCom
import Derived.StillTail
set_option linter.unusedVariables false
set_option linter.unusedSimpArgs false
namespace Go.Proofs.AM
open Go.RowKit
theorem exec1_ch {G : Gam} {chs chs' : Nat → Ch} {x : Nat × IOp} {s : St} (h : chs' x.1 = chs x.1) : exec1 G chs' x s = exec1 G chs x s := by
  unfold exec1
  rw [h]
theorem exec1_pure {G : Gam} {chs : Nat → Ch} {i : Nat} {io : IOp} {s : St} {x : AV} (hw : wantd s.t io.g = some true) (he : evp s.t io.op = some x) : exec1 G chs (i, io) s = some (⟨updT s.t io.dst x, s.o⟩, ([], [])) := by
  simp only [exec1, prog, hw, he, HM.run, HM.log]
theorem exec1_heap {G : Gam} {chs : Nat → Ch} {i : Nat} {io : IOp} {s : St} {x : AV} {o : Heap} (hw : wantd s.t io.g = some true) (he : evp s.t io.op = none) (hr : (opSem G (io.dst.getD 0) (chs i) s.t io.op).run s.o = some (x, o)) : exec1 G chs (i, io) s = some (⟨updT s.t io.dst x, o⟩, (opSem G (io.dst.getD 0) (chs i) s.t io.op).log s.o) := by
  simp only [exec1, prog, hw, he, hr]
theorem exec1_skip {G : Gam} {chs : Nat → Ch} {i : Nat} {io : IOp} {s : St} (hw : wantd s.t io.g = some false) : exec1 G chs (i, io) s = some (⟨updT s.t io.dst unv, s.o⟩, ([], [])) := by
  simp only [exec1, prog, hw, HM.run, HM.log]
theorem execs_ch {G : Gam} {chs chs' : Nat → Ch} : ∀ {xs : List (Nat × IOp)} {s : St}, (∀ x ∈ xs, chs' x.1 = chs x.1) → execs G chs' xs s = execs G chs xs s
  | [], s, h => rfl
  | x :: xs, s, h => by
    have h1 : ∀ s, execs G chs' xs s = execs G chs xs s := fun s => execs_ch fun y hy => h y (List.mem_cons_of_mem _ hy)
    simp only [execs, exec1_ch (h x (by simp)), h1]
theorem execs_cons {G : Gam} {chs : Nat → Ch} {x : Nat × IOp} {xs : List (Nat × IOp)} {s s' : St} {ls : List (Nat × Log)} (h : execs G chs (x :: xs) s = some (s', ls)) : ∃ s1 l ls', exec1 G chs x s = some (s1, l) ∧ execs G chs xs s1 = some (s', ls') ∧ ls = (x.1, l) :: ls' := by
  simp only [execs] at h
  split at h
  · rename_i s1 l h1
    split at h
    · rename_i s2 ls' h2
      cases h
      exact ⟨s1, l, ls', h1, h2, rfl⟩
    · cases h
  · cases h
theorem execs_front {G : Gam} {chs : Nat → Ch} {x : Nat × IOp} {post : List (Nat × IOp)} : ∀ {pre : List (Nat × IOp)} {s s' : St} {ls : List (Nat × Log)}, execs G chs (pre ++ x :: post) s = some (s', ls) → (∀ y ∈ pre, tapart y.2 x.2 = true) → (∀ y ∈ pre, ∀ ly lx, (y.1, ly) ∈ ls → (x.1, lx) ∈ ls → apartL ly lx = true) →
    ∃ s1 lx ls', exec1 G chs x s = some (s1, lx) ∧ execs G chs (pre ++ post) s1 = some (s', ls') ∧ (x.1, lx) ∈ ls ∧ ∀ p, p ∈ ls' → p ∈ ls
  | [], s, s', ls, h, ht, hl => by
    obtain ⟨s1, l, ls', h1, h2, rfl⟩ := execs_cons h
    exact ⟨s1, l, ls', h1, h2, by simp, fun p hp => by simp [hp]⟩
  | y :: pre, s, s', ls, h, ht, hl => by
    obtain ⟨s1, ly, ls1, h1, h2, rfl⟩ := execs_cons h
    obtain ⟨s2, lx, ls2, g1, g2, g3, g4⟩ := execs_front h2 (fun z hz => ht z (by simp [hz])) (fun z hz lz lx' a b => hl z (by simp [hz]) lz lx' (by simp [a]) (by simp [b]))
    obtain ⟨s1', k1, k2⟩ := exec_swap h1 g1 (ht y (by simp)) (hl y (by simp) ly lx (by simp) (by simp [g3]))
    refine ⟨s1', lx, (y.1, ly) :: ls2, k1, ?_, by simp [g3], fun p hp => ?_⟩
    · simp only [List.cons_append, execs, k2, g2]
    · rcases List.mem_cons.1 hp with rfl | hp
      · simp
      · simp [g4 p hp]
theorem execs_mem {G : Gam} {chs : Nat → Ch} : ∀ {xs : List (Nat × IOp)} {s s' : St} {ls : List (Nat × Log)}, execs G chs xs s = some (s', ls) → ∀ i l, (i, l) ∈ ls → ∃ io, (i, io) ∈ xs ∧ ∃ t o, l = (prog G (chs i) t io).log o
  | [], s, s', ls, h, i, l, hm => by
    simp only [execs, Option.some.injEq, Prod.mk.injEq] at h
    rw [← h.2] at hm
    cases hm
  | x :: xs, s, s', ls, h, i, l, hm => by
    obtain ⟨s1, lx, ls', h1, h2, rfl⟩ := execs_cons h
    rcases List.mem_cons.1 hm with he | hm
    · cases he
      unfold exec1 at h1
      split at h1
      · cases h1
        exact ⟨x.2, by simp, _, _, rfl⟩
      · cases h1
    · obtain ⟨io, a, b⟩ := execs_mem h2 i l hm
      exact ⟨io, by simp [a], b⟩
theorem silent_log {G : Gam} {ch : Ch} {t : Tm} {io : IOp} (h : heapOp io.op = false) (o : Heap) : (prog G ch t io).log o = ([], []) := by
  unfold prog
  split
  · split
    · rfl
    · rename_i he
      rw [opSem_pure h, he]
      rfl
  · rfl
  · rfl
def HH (G : Gam) (ind : Nat → Nat → Bool) (K : St → Prop) (rem : List (Nat × IOp)) (s : St) : Prop :=
  ∀ chs : Nat → Ch, ∃ s' ls, execs G chs rem s = some (s', ls) ∧ (∀ i li j lj, (i, li) ∈ ls → (j, lj) ∈ ls → ind i j = true → apartL li lj = true) ∧ K s'
theorem HH.front {G : Gam} {ind : Nat → Nat → Bool} {K : St → Prop} {pre post : List (Nat × IOp)} {x : Nat × IOp} {s : St} (h : HH G ind K (pre ++ x :: post) s) (hi : ∀ y ∈ pre, ind y.1 x.1 = true) (ht : ∀ y ∈ pre, tapart y.2 x.2 = true) (hn : ∀ y ∈ pre ++ post, y.1 ≠ x.1) (ch : Ch) :
    ∃ s1 lx, exec1 G (fun _ => ch) x s = some (s1, lx) ∧ HH G ind K (pre ++ post) s1 := by
  have key : ∀ chs : Nat → Ch, chs x.1 = ch → ∃ s1 lx s' ls', exec1 G (fun _ => ch) x s = some (s1, lx) ∧ execs G chs (pre ++ post) s1 = some (s', ls') ∧ (∀ i li j lj, (i, li) ∈ ls' → (j, lj) ∈ ls' → ind i j = true → apartL li lj = true) ∧ K s' := fun chs hc => by
    obtain ⟨s', ls, h1, h2, h3⟩ := h chs
    obtain ⟨s1, lx, ls', g1, g2, g3, g4⟩ := execs_front h1 ht (fun y hy ly lx a b => h2 _ _ _ _ a b (hi y hy))
    exact ⟨s1, lx, s', ls', by rw [exec1_ch (chs := chs) hc.symm]; exact g1, g2, fun i li j lj a b => h2 i li j lj (g4 _ a) (g4 _ b), h3⟩
  obtain ⟨s1, lx, _, _, h1, _⟩ := key (fun _ => ch) rfl
  refine ⟨s1, lx, h1, fun chs => ?_⟩
  obtain ⟨s1', lx', s', ls', g1, g2, g3, g4⟩ := key (fun i => if i = x.1 then ch else chs i) (by simp)
  rw [h1] at g1
  cases g1
  refine ⟨s', ls', ?_, g3, g4⟩
  rw [← g2]
  exact execs_ch fun y hy => by simp [hn y hy]
theorem stpLs_run {G : Gam} {inc : List (Nat × Nat)} {K : St → Prop} {ios : List IOp} (chs : Nat → Ch) : ∀ {ops : List IOp} {m : Nat} {L : List Log} {s : St}, ops = ios.drop m → L.length = m → stpLs G inc ops L K s →
    ∃ s' ls, execs G chs ((List.range' m ops.length).map fun i => (i, ios.getD i default)) s = some (s', ls) ∧ compat inc (L ++ ls.map (·.2)) = true ∧ K s' ∧ ls.map (·.1) = List.range' m ops.length
  | [], m, L, s, ho, hl, h => by
    simp only [stpLs] at h
    exact ⟨s, [], rfl, by simpa using h.1, h.2, rfl⟩
  | op :: ops, m, L, s, ho, hl, h => by
    have hm : ios[m]? = some op := by
      have := congrArg (fun l => l[0]?) ho
      simp only [List.getElem?_cons_zero, List.getElem?_drop, Nat.add_zero] at this
      exact this.symm
    have hg : ios.getD m default = op := by simp [List.getD_eq_getElem?_getD, hm]
    have ho2 : ops = ios.drop (m + 1) := by
      have := congrArg List.tail ho
      simpa using this
    simp only [stpLs, stpL] at h
    have step : ∃ s1 l, exec1 G chs (m, op) s = some (s1, l) ∧ stpLs G inc ops (L ++ [l]) K s1 := by
      split at h
      · rename_i hw
        split at h
        · rename_i x hx
          exact ⟨_, _, exec1_pure hw hx, h⟩
        · rename_i hx
          simp only [stpH] at h
          have := h (chs m)
          split at this
          · rename_i x o hr
            exact ⟨_, _, exec1_heap hw hx hr, this⟩
          · exact this.elim
      · rename_i hw
        exact ⟨_, _, exec1_skip hw, h⟩
      · exact h.elim
    obtain ⟨s1, l, h1, h2⟩ := step
    obtain ⟨s', ls, g1, g2, g3, g4⟩ := stpLs_run chs (m := m + 1) ho2 (by simp [hl]) h2
    refine ⟨s', (m, l) :: ls, ?_, by simpa using g2, g3, by simp [g4, List.range'_succ]⟩
    simp only [List.length_cons, List.range'_succ, List.map_cons, hg, execs, h1, g1]
def maskStep (ms : List Nat) (j : Nat) (l : List Edge) : Nat := l.foldl (fun m e => if Region.binds .any e then m ||| (2 ^ e.on ||| ms.getD e.on 0) else m) 0
def masks : List Oper → List Nat → List Nat
  | [], ms => ms
  | o :: os, ms => masks os (ms ++ [maskStep ms ms.length o.after.toList])
def chkMask (ms : List Nat) (ops : List Oper) : Bool := (List.range ops.length).all fun j => match ops[j]? with
  | some o => ms.getD j 0 == maskStep ms j o.after.toList && o.after.toList.all fun e => !Region.binds .any e || decide (e.on < j)
  | none => false
theorem maskFold {ms : List Nat} : ∀ {l : List Edge} {m : Nat} {i : Nat}, (l.foldl (fun m e => if Region.binds .any e then m ||| (2 ^ e.on ||| ms.getD e.on 0) else m) m).testBit i = true → m.testBit i = true ∨ ∃ e ∈ l, Region.binds .any e = true ∧ (e.on = i ∨ (ms.getD e.on 0).testBit i = true)
  | [], m, i, h => .inl h
  | e :: l, m, i, h => by
    simp only [List.foldl_cons] at h
    rcases maskFold h with h | ⟨e', h1, h2⟩
    · split at h
      · rename_i hb
        rw [Nat.testBit_or, Nat.testBit_or] at h
        simp only [Bool.or_eq_true] at h
        rcases h with h | h | h
        · exact .inl h
        · rw [Nat.testBit_two_pow] at h
          exact .inr ⟨e, by simp, hb, .inl (by simpa using h)⟩
        · exact .inr ⟨e, by simp, hb, .inr h⟩
      · exact .inl h
    · exact .inr ⟨e', by simp [h1], h2⟩
def Closed (ops : Array Oper) (listed : Array Bool) : Prop := ∀ j oj, ops[j]? = some oj → listed.getD j false = true → ∀ e ∈ oj.after, Region.binds .any e = true → listed.getD e.on false = true
theorem mask_listed {ops : Array Oper} {listed : Array Bool} {ms : List Nat} (hc : chkMask ms ops.toList = true) (hcl : Closed ops listed) : ∀ (j : Nat) (oj : Oper), ops[j]? = some oj → (∀ e ∈ oj.after, Region.binds .any e = true → listed.getD e.on false = true) → ∀ i, (ms.getD j 0).testBit i = true → listed.getD i false = true := by
  intro j
  induction j using Nat.strongRecOn with
  | _ j ih =>
    intro oj hj hr i hi
    unfold chkMask at hc
    have hlt : j < ops.toList.length := by simpa using (Array.getElem?_eq_some_iff.1 hj).1
    have h1 := List.all_eq_true.1 hc j (List.mem_range.2 hlt)
    have hjl : ops.toList[j]? = some oj := by simpa using hj
    rw [hjl] at h1
    simp only [Bool.and_eq_true, beq_iff_eq] at h1
    rw [h1.1] at hi
    rcases maskFold hi with h | ⟨e, h2, h3, h4⟩
    · simp at h
    · have h5 := hr e (by simpa using h2) h3
      rcases h4 with rfl | h4
      · exact h5
      · have h6 := List.all_eq_true.1 h1.2 e h2
        simp only [h3, Bool.not_true, Bool.false_or, decide_eq_true_eq] at h6
        have hsz : e.on < ops.size := by simp at hlt; omega
        exact ih e.on h6 ops[e.on] (by simp [hsz]) (fun e' he' hb' => hcl e.on _ (by simp [hsz]) h5 e' he' hb') i h4
section
variable (P : Program) (tb : Tab) (N : Nat)
def chkG (ops : List Oper) (o : Oper) (io : IOp) : Bool := match o.guard, io.g with
  | none, none => true
  | some (j, b), some (g, b') => b == b' && decide (g < N) && (match ops[j]? with | some oj => oj.dst == some g | none => false)
  | _, _ => false
def chkIOp (ops : List Oper) (o : Oper) (io : IOp) : Bool := o.dst == io.dst && (match o.dst with | some d => decide (d < N) | none => true) && chkG N ops o io && chkOp P tb o.op io.op
def chkIOps (ops : List Oper) : List Oper → List IOp → Bool
  | [], [] => true
  | o :: os, io :: ios => chkIOp P tb N ops o io && chkIOps ops os ios
  | _, _ => false
end
def indB (ms : List Nat) (i j : Nat) : Bool := decide (i < j) && !(ms.getD j 0).testBit i
def chkInd (ms : List Nat) (inc : List (Nat × Nat)) (ios : List IOp) : Bool := (List.range ios.length).all fun j => (List.range j).all fun i => (ms.getD j 0).testBit i ||
  (tapart (ios.getD i default) (ios.getD j default) && (!heapOp (ios.getD i default).op || !heapOp (ios.getD j default).op || inc.contains (i, j)))
section
variable {P : Program} {tb : Tab} {F K : Nat → Prop} {w : World} {N : Nat} {w0 : World} {s : St} {a : Act} {o : Oper} {G : Gam} {Q : Exit → Act → World → Prop} {KK : St → Prop}
theorem chkIOps_get {all : List Oper} : ∀ {os : List Oper} {ios : List IOp}, chkIOps P tb N all os ios = true → os.length = ios.length ∧ ∀ (i : Nat) (o : Oper), os[i]? = some o → ∃ io, ios[i]? = some io ∧ chkIOp P tb N all o io = true
  | [], [], h => ⟨rfl, fun i o h => by simp at h⟩
  | o :: os, io :: ios, h => by
    simp only [chkIOps, Bool.and_eq_true] at h
    obtain ⟨h1, h2⟩ := chkIOps_get h.2
    refine ⟨by simp [h1], fun i o' hi => ?_⟩
    cases i with
    | zero => simp at hi; subst hi; exact ⟨io, rfl, h.1⟩
    | succ i => simpa using h2 i o' (by simpa using hi)
  | [], _ :: _, h => by simp [chkIOps] at h
  | _ :: _, [], h => by simp [chkIOps] at h
theorem wanted_of {ops : Array Oper} {io : IOp} (h : SRx tb F K N w0 s a w) (hc : chkG N ops.toList o io = true) {b : Bool} (hw : wantd s.t io.g = some b) : Region.wanted o (yielded ops a.tmps) = b := by
  obtain ⟨F1, K1, hFF, h⟩ := h
  unfold chkG at hc
  unfold Region.wanted
  split at hc
  · rename_i h1 h2
    rw [h2] at hw
    simp only [wantd, Option.some.injEq] at hw
    rw [h1]
    exact hw
  · rename_i j bb g b' h1 h2
    rw [h2] at hw
    rw [h1]
    simp only [Bool.and_eq_true, beq_iff_eq, decide_eq_true_eq] at hc
    obtain ⟨⟨rfl, hgN⟩, hj⟩ := hc
    split at hj
    · rename_i oj hoj
      have hoj' : ops[j]? = some oj := by simpa using hoj
      have hjd : oj.dst = some g := by simpa using hj
      simp only [wantd] at hw
      split at hw
      · rename_i p hp
        have hr := h.rt g
        rw [hp] at hr
        simp only [RelV] at hr
        have hsz : g < a.tmps.size := by rw [h.sz]; exact hgN
        have hgt : a.tmps[g]? = some (.bool p) := by
          simp only [Array.getD_eq_getD_getElem?] at hr
          rw [Array.getElem?_eq_getElem hsz] at hr ⊢
          simpa using hr
        simp only [yielded, hoj', Option.bind_some, hjd, hgt]
        simp only [Option.some.injEq] at hw
        rw [← hw]
        simp
      · rename_i x hp
        have hr := h.rt g
        rw [hp] at hr
        simp only [RelV] at hr
        have hsz : g < a.tmps.size := by rw [h.sz]; exact hgN
        have hgt : a.tmps[g]? = some (.tuple x) := by
          simp only [Array.getD_eq_getD_getElem?] at hr
          rw [Array.getElem?_eq_getElem hsz] at hr ⊢
          simpa using hr
        simp only [yielded, hoj', Option.bind_some, hjd, hgt]
        simp only [Option.some.injEq] at hw
        rw [← hw]
        simp
      · cases hw
    · cases hj
  · cases hc
theorem wpOp_sound {ops : Array Oper} {i : Nat} {io : IOp} {next : Act → World → Prop} (hG : AllGood P tb G) (ho : ops[i]? = some o) (hc : chkIOp P tb N ops.toList o io = true) (h : SRx tb F K N w0 s a w)
    (H : ∀ ch, ∃ s1 lx, exec1 G (fun _ => ch) (i, io) s = some (s1, lx) ∧ ∀ a' w', SRx tb F K N w0 s1 a' w' → next a' w') : wpOp P ops Q i next a w := by
  unfold chkIOp at hc
  simp only [Bool.and_eq_true, beq_iff_eq] at hc
  obtain ⟨⟨⟨hd, hN⟩, hg⟩, hop⟩ := hc
  have hdN : ∀ n, o.dst = some n → n < N := fun n hn => by rw [hn] at hN; simpa using hN
  unfold wpOp
  rw [ho]
  simp only
  obtain ⟨s0, l0, H0, _⟩ := H (fun _ => (none, 0))
  cases hw : wantd s.t io.g with
  | none =>
    unfold exec1 prog at H0
    simp only [hw] at H0
    simp [HM.run] at H0
  | some b =>
    rw [wanted_of h hg hw]
    cases b with
    | false =>
      simp only [Bool.false_eq_true, if_false]
      obtain ⟨s1, lx, h1, h2⟩ := H (fun _ => (none, 0))
      unfold exec1 prog at h1
      simp only [hw, HM.run, Option.some.injEq, Prod.mk.injEq] at h1
      obtain ⟨rfl, _⟩ := h1
      obtain ⟨F1, K1, hFF, h⟩ := h
      obtain ⟨fps, hr⟩ := h.hr
      refine h2 _ _ ⟨F1, K1, hFF, ?_⟩
      rw [← hd]
      exact h.put hr hr (Stp.refl _ _) hdN (by simp [RelV, unv, undef])
    | true =>
      simp only [if_true]
      refine .inl (op_sound (d := io.dst.getD 0) hG hdN h hop ?_)
      rw [hd]
      cases hev : evp s.t io.op with
      | some x =>
        simp only
        obtain ⟨s1, lx, h1, h2⟩ := H (fun _ => (none, 0))
        unfold exec1 prog at h1
        simp only [hw, hev, HM.run, Option.some.injEq, Prod.mk.injEq] at h1
        obtain ⟨rfl, _⟩ := h1
        exact h2
      | none =>
        simp only
        intro ch
        obtain ⟨s1, lx, h1, h2⟩ := H ch
        unfold exec1 prog at h1
        simp only [hw, hev] at h1
        split at h1
        · rename_i x o' hr
          simp only [Option.some.injEq, Prod.mk.injEq] at h1
          obtain ⟨rfl, _⟩ := h1
          rw [hr]
          exact h2
        · cases h1
def remOf (ios : List IOp) (n : Nat) (listed : Array Bool) : List (Nat × IOp) := ((List.range n).filter fun i => !listed.getD i true).map fun i => (i, ios.getD i default)
theorem sorted_split {l : List Nat} (hs : l.Pairwise (· < ·)) {x : Nat} (hx : x ∈ l) : ∃ pre post, l = pre ++ x :: post ∧ (∀ y ∈ pre, y < x) ∧ (∀ y ∈ post, x < y) := by
  obtain ⟨pre, post, rfl⟩ := List.append_of_mem hx
  rw [List.pairwise_append] at hs
  refine ⟨pre, post, rfl, fun y hy => hs.2.2 y hy x (by simp), fun y hy => ?_⟩
  have := List.pairwise_cons.1 hs.2.1
  exact this.1 y hy
theorem any_sound {ops : Array Oper} {ios : List IOp} {ms : List Nat} {inc : List (Nat × Nat)} (hG : AllGood P tb G) (hc : chkIOps P tb N ops.toList ops.toList ios = true) (hm : chkMask ms ops.toList = true) (hi : chkInd ms inc ios = true)
    (hK : ∀ s' a' w', KK s' → SRx tb F K N w0 s' a' w' → Q .normal a' w') : ∀ (fuel : Nat) (listed : Array Bool) (s : St) (a : Act) (w : World), listed.size = ops.size → (remOf ios ops.size listed).length ≤ fuel → Closed ops listed → HH G (indB ms) KK (remOf ios ops.size listed) s → SRx tb F K N w0 s a w → wpAny P .any ops Q fuel listed a w := by
  obtain ⟨hlen, hget⟩ := chkIOps_get hc
  intro fuel
  have fin : ∀ (listed : Array Bool) (s : St) (a : Act) (w : World), remOf ios ops.size listed = [] → HH G (indB ms) KK (remOf ios ops.size listed) s → SRx tb F K N w0 s a w → Q .normal a w := fun listed s a w he hh h => by
    rw [he] at hh
    obtain ⟨s', ls, h1, _, h3⟩ := hh (fun _ _ => (none, 0))
    simp only [execs, Option.some.injEq, Prod.mk.injEq] at h1
    obtain ⟨rfl, _⟩ := h1
    exact hK _ _ _ h3 h
  have hready : ∀ (listed : Array Bool) (i : Nat), i ∈ Region.ready .any ops listed → i ∈ (List.range ops.size).filter fun i => !listed.getD i true := fun listed i hir => by
    obtain ⟨h0, oi, hoi, _⟩ := mem_ready.1 hir
    rw [List.mem_filter, List.mem_range]
    exact ⟨(Array.getElem?_eq_some_iff.1 hoi).1, by rw [h0]; rfl⟩
  have hnone : ∀ (listed : Array Bool), listed.size = ops.size → Region.ready .any ops listed = [] → remOf ios ops.size listed = [] := fun listed hsz hr => by
    unfold remOf
    rw [List.map_eq_nil_iff]
    cases hl : (List.range ops.size).filter fun i => !listed.getD i true with
    | nil => rfl
    | cons x xs =>
      exfalso
      have hp : ((List.range ops.size).filter fun i => !listed.getD i true).Pairwise (· < ·) := List.Pairwise.filter _ List.pairwise_lt_range
      have hx : x ∈ (List.range ops.size).filter fun i => !listed.getD i true := by rw [hl]; simp
      rw [List.mem_filter, List.mem_range] at hx
      have : x ∈ Region.ready .any ops listed := mem_ready.2 ⟨by simpa using hx.2, ops[x], by simp [hx.1], fun e he hb => by
        have hcm := hm
        unfold chkMask at hcm
        have h1 := List.all_eq_true.1 hcm x (List.mem_range.2 (by simpa using hx.1))
        have hxl : ops.toList[x]? = some ops[x] := by simp [hx.1]
        rw [hxl] at h1
        simp only [Bool.and_eq_true] at h1
        have h6 := List.all_eq_true.1 h1.2 e (by simpa using he)
        simp only [hb, Bool.not_true, Bool.false_or, decide_eq_true_eq] at h6
        cases hle : listed.getD e.on false with
        | true => rfl
        | false =>
          have hmem : e.on ∈ (List.range ops.size).filter fun i => !listed.getD i true := by
            rw [List.mem_filter, List.mem_range]
            refine ⟨by omega, ?_⟩
            rw [getD_in (by omega) hle]
            rfl
          rw [hl] at hmem hp
          rcases List.mem_cons.1 hmem with h | h
          · omega
          · have := (List.pairwise_cons.1 hp).1 _ h
            omega⟩
      rw [hr] at this
      cases this
  induction fuel with
  | zero =>
    intro listed s a w hsz hf hcl hh h
    have he : remOf ios ops.size listed = [] := List.eq_nil_of_length_eq_zero (by omega)
    refine ⟨?_, fin listed s a w he hh h⟩
    cases hr : Region.ready .any ops listed with
    | nil => rfl
    | cons x xs =>
      have := hready listed x (by rw [hr]; simp)
      unfold remOf at he
      rw [List.map_eq_nil_iff] at he
      rw [he] at this
      cases this
  | succ fuel ih =>
    intro listed s a w hsz hf hcl hh h
    refine ⟨fun hr => fin listed s a w (hnone listed hsz hr) hh h, fun i hir => ?_⟩
    obtain ⟨h0, oi, hoi, hall⟩ := mem_ready.1 hir
    have hilt : i < ops.size := (Array.getElem?_eq_some_iff.1 hoi).1
    obtain ⟨io, hio, hcio⟩ := hget i oi (by simpa using hoi)
    have hp : ((List.range ops.size).filter fun i => !listed.getD i true).Pairwise (· < ·) := List.Pairwise.filter _ List.pairwise_lt_range
    obtain ⟨pre, post, hsplit, hpre, hpost⟩ := sorted_split hp (hready listed i hir)
    have hgd : ios.getD i default = io := by simp [List.getD_eq_getElem?_getD, hio]
    have hrem : remOf ios ops.size listed = pre.map (fun i => (i, ios.getD i default)) ++ (i, io) :: post.map (fun i => (i, ios.getD i default)) := by
      unfold remOf
      rw [hsplit, List.map_append, List.map_cons, hgd]
    have hrem' : remOf ios ops.size (listed.setIfInBounds i true) = pre.map (fun i => (i, ios.getD i default)) ++ post.map (fun i => (i, ios.getD i default)) := by
      unfold remOf
      rw [← List.map_append]
      congr 1
      have : (List.range ops.size).filter (fun j => !(listed.setIfInBounds i true).getD j true) = ((List.range ops.size).filter fun j => !listed.getD j true).filter (fun j => j != i) := by
        rw [List.filter_filter]
        apply List.filter_congr
        intro j hj
        by_cases hji : j = i
        · subst hji
          have : listed.setIfInBounds j true = listed.setIfInBounds j true := rfl
          have hlt : j < listed.size := by omega
          simp [hlt]
        · rw [getD_set_ne true (Ne.symm hji)]
          simp [hji]
      rw [this, hsplit, List.filter_append, List.filter_cons]
      simp only [bne_self_eq_false, Bool.false_eq_true, if_false]
      rw [List.filter_eq_self.2 (fun y hy => by have := hpre y hy; simp; omega), List.filter_eq_self.2 (fun y hy => by have := hpost y hy; simp; omega)]
    rw [hrem] at hh
    have hunl : ∀ y ∈ pre, listed.getD y true = false := fun y hy => by
      have : y ∈ (List.range ops.size).filter fun i => !listed.getD i true := by rw [hsplit]; simp [hy]
      rw [List.mem_filter] at this
      simpa using this.2
    have hind : ∀ y ∈ pre, indB ms y i = true := fun y hy => by
      unfold indB
      simp only [Bool.and_eq_true, decide_eq_true_eq, Bool.not_eq_true']
      refine ⟨hpre y hy, ?_⟩
      cases hb : (ms.getD i 0).testBit y with
      | false => rfl
      | true =>
        have := mask_listed hm hcl i oi hoi hall y hb
        rw [getD_both (hunl y hy)] at this
        cases this
    have hfront := fun ch => hh.front (fun y hy => by
        obtain ⟨z, hz, rfl⟩ := List.mem_map.1 hy
        exact hind z hz) (fun y hy => by
        obtain ⟨z, hz, rfl⟩ := List.mem_map.1 hy
        have h1 := hind z hz
        unfold indB at h1
        simp only [Bool.and_eq_true, decide_eq_true_eq, Bool.not_eq_true'] at h1
        have h2 := List.all_eq_true.1 hi i (List.mem_range.2 (by rw [← hlen]; simpa using hilt))
        have h3 := List.all_eq_true.1 h2 z (List.mem_range.2 h1.1)
        rw [h1.2, hgd] at h3
        simp only [Bool.false_or, Bool.and_eq_true] at h3
        exact h3.1) (fun y hy => by
        rw [← List.map_append] at hy
        obtain ⟨z, hz, rfl⟩ := List.mem_map.1 hy
        rcases List.mem_append.1 hz with hz | hz
        · have := hpre z hz; simp; omega
        · have := hpost z hz; simp; omega) ch
    refine wpOp_sound hG hoi hcio h fun ch => ?_
    obtain ⟨s1, lx, h1, h2⟩ := hfront ch
    refine ⟨s1, lx, h1, fun a' w' h' => ih (listed.setIfInBounds i true) s1 a' w' (by simp [hsz]) ?_ ?_ (by rw [hrem']; exact h2) h'⟩
    · rw [hrem']
      rw [hrem] at hf
      simp only [List.length_append, List.length_cons] at hf ⊢
      omega
    · intro j oj hj hl e he hb
      by_cases hij : i = j
      · subst hij
        rw [hoi] at hj
        cases hj
        exact getD_set_true (hall e he hb)
      · rw [getD_set_ne false hij] at hl
        exact getD_set_true (hcl j oj hj hl e he hb)
theorem drw_sound {ops : Array Oper} {ios : List IOp} {ms : List Nat} {inc : List (Nat × Nat)} {id : Nat} (hmix : P.follows .mixedOrders = true) (hG : AllGood P tb G) (hc : chkIOps P tb N ops.toList ops.toList ios = true) (hm : chkMask ms ops.toList = true) (hi : chkInd ms inc ios = true)
    (hK : ∀ s' a' w', KK s' → SRx tb F K N w0 s' a' w' → Q .normal a' w') (h : SRx tb F K N w0 s a w) (H : stpLs G inc ios [] KK s) : (Code.region id ops true).wp P Q a w := by
  obtain ⟨hlen, hget⟩ := chkIOps_get hc
  refine wp_region_any hmix ?_
  have hdr : SRx tb F K N w0 s a { w with drawn := w.drawn + 1 } := by
   obtain ⟨F1, K1, hFF, h⟩ := h
   exact ⟨F1, K1, hFF, ⟨RelT_keep (w := w) (w' := { w with drawn := w.drawn + 1 }) (fun _ _ => rfl) (fun _ h => h) h.rt, by
    obtain ⟨fps, hr⟩ := h.hr
    exact ⟨fps, hr.step (w' := { w with drawn := w.drawn + 1 }) (Nat.le_refl _) (fun _ _ => rfl) (fun _ _ _ => rfl)⟩, h.hK, h.sz, h.df, h.os, h.tape, h.output, h.size, h.k0, h.blk⟩⟩
  have hrem : remOf ios ops.size (Array.replicate ops.size false) = (List.range' 0 ios.length).map fun i => (i, ios.getD i default) := by
    unfold remOf
    have : ios.length = ops.size := by rw [← hlen]; simp
    rw [this, List.range_eq_range']
    congr 1
    rw [List.filter_eq_self]
    intro x hx
    rw [List.mem_range'] at hx
    obtain ⟨i, h1, h2⟩ := hx
    have hlt : x < ops.size := by omega
    simp [hlt]
  refine any_sound hG hc hm hi hK ops.size _ s a _ (by simp) (by rw [hrem]; simp; rw [← hlen]; simp) (fun j oj hj hl => ?_) ?_ hdr
  · rw [getD_replicate_false] at hl
    cases hl
  · rw [hrem]
    intro chs
    obtain ⟨s', ls, h1, h2, h3, h4⟩ := stpLs_run (ios := ios) chs (m := 0) (by simp) rfl H
    refine ⟨s', ls, h1, fun i li j lj hi1 hj1 hin => ?_, h3⟩
    simp only [List.nil_append] at h2
    have hidx : ∀ i li, (i, li) ∈ ls → i < ios.length ∧ (ls.map (·.2)).getD i ([], []) = li := fun i li hm => by
      obtain ⟨k, hk⟩ := List.getElem?_of_mem hm
      have h5 : (ls.map (·.1))[k]? = some i := by rw [List.getElem?_map, hk]; rfl
      have hkl : k < ios.length := by
        have h6 := (List.getElem?_eq_some_iff.1 h5).1
        rw [h4] at h6
        simpa using h6
      rw [h4, List.getElem?_range' hkl] at h5
      have hki : k = i := by simpa using h5
      subst hki
      exact ⟨hkl, by simp [List.getD_eq_getElem?_getD, hk]⟩
    obtain ⟨hi2, hi3⟩ := hidx i li hi1
    obtain ⟨hj2, hj3⟩ := hidx j lj hj1
    unfold indB at hin
    simp only [Bool.and_eq_true, decide_eq_true_eq, Bool.not_eq_true'] at hin
    have h6 := List.all_eq_true.1 hi j (List.mem_range.2 hj2)
    have h7 := List.all_eq_true.1 h6 i (List.mem_range.2 hin.1)
    rw [hin.2] at h7
    simp only [Bool.false_or, Bool.and_eq_true, Bool.or_eq_true, Bool.not_eq_true'] at h7
    have hsil : ∀ i li, (i, li) ∈ ls → heapOp (ios.getD i default).op = false → li = ([], []) := fun i li hm hs => by
      obtain ⟨io, a1, t, oo, rfl⟩ := execs_mem h1 i li hm
      obtain ⟨z, _, hz⟩ := List.mem_map.1 a1
      cases hz
      exact silent_log hs _
    rcases h7.2 with (h8 | h8) | h8
    · rw [hsil i li hi1 h8]; simp [apartL]
    · rw [hsil j lj hj1 h8]; simp [apartL]
    · unfold compat at h2
      have := List.all_eq_true.1 h2 (i, j) (by simpa using h8)
      simp only [hi3, hj3] at this
      exact this
theorem reg_sound {ops : Array Oper} {ios : List IOp} {id : Nat} (hG : AllGood P tb G) (hc : chkIOps P tb N ops.toList ops.toList ios = true)
    (hK : ∀ s' a' w', KK s' → SRx tb F K N w0 s' a' w' → Q .normal a' w') (h : SRx tb F K N w0 s a w) (H : stps G ios KK s) : (Code.region id ops false).wp P Q a w := by
  obtain ⟨hlen, hget⟩ := chkIOps_get hc
  refine wp_region ?_
  have key : ∀ (is : List IOp) (m : Nat) (s : St) (a : Act) (w : World), is = ios.drop m → stps G is KK s → SRx tb F K N w0 s a w → wpOps P ops Q (List.range' m is.length) a w := by
    intro is
    induction is with
    | nil =>
      intro m s a w he hst hsr
      simp only [List.length_nil, List.range'_zero, wpOps]
      exact hK _ _ _ hst hsr
    | cons io is ih =>
      intro m s a w he hst hsr
      have hm : ios[m]? = some io := by
        have := congrArg (fun l => l[0]?) he
        simp only [List.getElem?_cons_zero, List.getElem?_drop, Nat.add_zero] at this
        exact this.symm
      have hml : m < ops.toList.length := by rw [hlen]; exact (List.getElem?_eq_some_iff.1 hm).1
      have hom : ops[m]? = some ops.toList[m] := by simp
      obtain ⟨io', h1, h2⟩ := hget m ops.toList[m] (by simp)
      rw [hm] at h1
      cases h1
      have he2 : is = ios.drop (m + 1) := by
        have := congrArg List.tail he
        simpa using this
      simp only [List.length_cons, List.range'_succ]
      rw [wpOps_cons]
      refine wpOp_sound hG hom h2 hsr fun ch => ?_
      simp only [stps, stp] at hst
      split at hst
      · rename_i hw
        split at hst
        · rename_i x hx
          exact ⟨_, _, exec1_pure hw hx, fun a' w' h' => ih (m + 1) _ a' w' he2 hst h'⟩
        · rename_i hx
          simp only [stpH] at hst
          have := hst ch
          split at this
          · rename_i x o hr
            exact ⟨_, _, exec1_heap hw hx hr, fun a' w' h' => ih (m + 1) _ a' w' he2 this h'⟩
          · exact this.elim
      · rename_i hw
        exact ⟨_, _, exec1_skip hw, fun a' w' h' => ih (m + 1) _ a' w' he2 hst h'⟩
      · exact hst.elim
  have := key ios 0 s a w (by simp) H h
  have hl2 : ops.size = ios.length := by rw [← hlen]; simp
  rw [hl2, List.range_eq_range']
  exact this
end
end Go.Proofs.AM
