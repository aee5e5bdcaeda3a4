/- Lemmas of the proof (Com), on an abstract machine. Conditions: none. -/
import Derived.Test.YtnnfdbdheoajgaaGreatCore
set_option linter.unusedVariables false
namespace Go.Proofs.AM
theorem HM.frame {α : Type} : ∀ (m : HM α) {o o' : aj7} {a : α} {o1 : aj7}, (∀ n, n ∈ (m.log o).1 → o' n = o n) → m.run o = some (a, o1) →
  ∃ o1', m.run o' = some (a, o1') ∧ m.log o' = m.log o ∧ (∀ n, n ∈ (m.log o).2 → o1' n = o1 n) ∧ (∀ n, n ∉ (m.log o).2 → o1' n = o' n) ∧ (∀ n, n ∉ (m.log o).2 → o1 n = o n)
 | .ret a, o, o', b, o1, h, hr => by
  simp only [HM.run, Option.some.injEq, Prod.mk.injEq] at hr
  obtain ⟨rfl, rfl⟩ := hr
  exact ⟨o', rfl, rfl, by simp [HM.log], fun _ _ => rfl, fun _ _ => rfl⟩
 | .get n k, o, o', b, o1, h, hr => by
  simp only [HM.run] at hr ⊢
  simp only [HM.log] at h ⊢
  cases he : o n with
  | none => rw [he] at hr; cases hr
  | some e =>
   rw [he] at hr h
   simp only at hr h
   have hn : o' n = some e := by rw [h n (by simp), he]
   rw [hn]
   simp only
   obtain ⟨o1', h1, h2, h3, h4, h5⟩ := HM.frame (k e) (o' := o') (fun m hm => h m (by simp [hm])) hr
   exact ⟨o1', h1, by rw [h2], h3, h4, h5⟩
 | .put n e k, o, o', b, o1, h, hr => by
  simp only [HM.run] at hr ⊢
  simp only [HM.log] at h ⊢
  obtain ⟨o1', h1, h2, h3, h4, h5⟩ := HM.frame k (o' := upd o' n e) (fun m hm => by
   simp only [upd]
   split
   ·rfl
   ·exact h m hm) hr
  refine ⟨o1', h1, by rw [h2], fun m hm => ?_, fun m hm => ?_, fun m hm => ?_⟩
  ·by_cases hk : m ∈ (k.log (upd o n e)).2
   ·exact h3 m hk
   ·rcases List.mem_cons.1 hm with rfl | hm
    ·rw [h4 _ hk, h5 _ hk]; simp [upd]
    ·exact absurd hm hk
  ·simp only [List.mem_cons, not_or] at hm
   rw [h4 m hm.2]
   simp [upd, hm.1]
  ·simp only [List.mem_cons, not_or] at hm
   rw [h5 m hm.2]
   simp [upd, hm.1]
 | .need c k, o, o', b, o1, h, hr => by
  simp only [HM.run] at hr ⊢
  simp only [HM.log] at h ⊢
  cases c with
  | false => simp at hr
  | true =>
   simp only [if_true] at hr h ⊢
   exact HM.frame k h hr
 | .opt none k, o, o', b, o1, h, hr => by cases hr
 | .opt (some a) k, o, o', b, o1, h, hr => by exact HM.frame (k a) (o := o) (o' := o') h hr
 | .fail, o, o', b, o1, h, hr => by simp [HM.run] at hr
theorem sA7 {a b : List Nat × List Nat} (h : hg7 a b = true) : (∀ n, n ∈ a.2 → n ∉ b.1 ∧ n ∉ b.2) ∧ (∀ n, n ∈ b.2 → n ∉ a.1) := by
 unfold hg7 at h
 simp only [Bool.and_eq_true, List.all_eq_true] at h
 refine ⟨fun n hn => ?_, fun n hn => ?_⟩
 ·have := h.1 n hn
  simpa using this
 ·have := h.2 n hn
  simpa using this
theorem HM.swap {α β : Type} {m1 : HM α} {m2 : HM β} {o o1 o2 : aj7} {a : α} {b : β} (h1 : m1.run o = some (a, o1)) (h2 : m2.run o1 = some (b, o2)) (ha : hg7 (m1.log o) (m2.log o1) = true) :
  ∃ o2', m2.run o = some (b, o2') ∧ m2.log o = m2.log o1 ∧ m1.run o2' = some (a, o2) ∧ m1.log o2' = m1.log o := by
 obtain ⟨p1, p2⟩ := sA7 ha
 obtain ⟨_, _, _, _, _, e5⟩ := HM.frame m1 (o' := o) (fun _ _ => rfl) h1
 obtain ⟨_, _, _, _, _, d5⟩ := HM.frame m2 (o' := o1) (fun _ _ => rfl) h2
 obtain ⟨o2', g1, g2, g3, g4, _⟩ := HM.frame m2 (o' := o) (fun n hn => (e5 n (fun hc => (p1 n hc).1 hn)).symm) h2
 obtain ⟨o3, k1, k2, k3, k4, _⟩ := HM.frame m1 (o' := o2') (fun n hn => g4 n (fun hc => p2 n hc hn)) h1
 refine ⟨o2', g1, g2, ?_, k2⟩
 rw [k1]
 congr 2
 funext n
 by_cases hn : n ∈ (m1.log o).2
 ·rw [k3 n hn, d5 n (p1 n hn).2]
 ·rw [k4 n hn]
  by_cases hn2 : n ∈ (m2.log o1).2
  ·exact g3 n hn2
  ·rw [g4 n hn2, d5 n hn2, e5 n hn]
def odT : Od → List Nat
 | .t n => [n]
 | .w n => [n]
 | _ => []
def odO : Option Od → List Nat
 | some x => odT x
 | none => []
def b07 : Opx → List Nat
 | .mv x | .nilck x | .un _ x | .conv _ x | .len _ x | .faddr _ x | .fld _ _ _ x | .load _ _ x | .box _ _ x | .ext x _ | .bytes x | .ldr _ x => odT x
 | .pick c a b => odT c ++ (odT a ++ odT b)
 | .bin _ x y | .eqs _ _ _ x y | .iaddr _ x y | .sidx x y | .store _ x y | .mks _ _ x y | .app _ _ x y => odT x ++ odT y
 | .ssl x l h | .sls _ x l h => odT x ++ (odO l ++ odO h)
 | .sl3 _ x l h m => odT x ++ (odT l ++ (odT h ++ odT m))
 | .mxi x y => odT x ++ odT y
 | .dead => []
 | .alloc .. => []
 | .lit _ _ _ _ ps => ps.flatMap fun p => odT p.2
 | .build _ ps => ps.flatMap fun p => odT p.2.2
 | .call _ xs => xs.flatMap fun p => odT p.2
 | .calld f xs => odT f ++ xs.flatMap fun p => odT p.2
 | .mkf _ xs => xs.flatMap odT
 | .frz io => b07 io
 | .ren _ _ io => b07 io
 | .shut p io => odT p ++ b07 io
 | .rawl io => b07 io
 | .unr _ io => b07 io
 | .pfz _ io => b07 io
 | .trn io => b07 io
 | .opa _ _ io => b07 io
 | .cla _ io => b07 io
theorem a67 {t t' : Tm} {x : Od} (h : ∀ i, i ∈ odT x → t' i = t i) : ev t' x = ev t x := by
 cases x with
 | t n => exact h n (by simp [odT])
 | w n => simp only [ev]; rw [h n (by simp [odT])]
 | _ => rfl
theorem kI7 {t t' : Tm} {x : Option Od} (h : ∀ i, i ∈ odO x → t' i = t i) : x.map (ev t') = x.map (ev t) := by
 cases x with
 | some x => simp only [Option.map_some]; rw [a67 h]
 | none => rfl
theorem tE7 {t t' : Tm} : ∀ {ps : List (Nat × Nat × Od)} {cs : List AV}, (∀ i, i ∈ ps.flatMap (fun p => odT p.2.2) → t' i = t i) → bld t' ps cs = bld t ps cs
 | [], cs, h => rfl
 | (off, sz, x) :: ps, cs, h => by
  have h1 : ev t' x = ev t x := a67 fun i hi => h i (by simp [hi])
  simp only [bld, h1]
  split
  ·exact tE7 fun i hi => h i (by simp only [List.flatMap_cons, List.mem_append]; exact .inr hi)
  ·rfl
theorem np7 {host : Nat} {ks : List (Option Nat)} {t t' : Tm} : ∀ {ps : List (Nat × Od)} {rows : Rows}, (∀ i, i ∈ ps.flatMap (fun p => odT p.2) → t' i = t i) → ou7 host ks t' ps rows = ou7 host ks t ps rows
 | [], cs, h => rfl
 | (j, x) :: ps, cs, h => by
  have h1 : ev t' x = ev t x := a67 fun i hi => h i (by simp [hi])
  simp only [ou7, h1]
  congr 1
  funext _
  congr 1
  funext _
  exact np7 fun i hi => h i (by simp only [List.flatMap_cons, List.mem_append]; exact .inr hi)
theorem nq7 {t t' : Tm} : ∀ {i : Nat} {xs : List (Bool × Od)}, (∀ i, i ∈ xs.flatMap (fun p => odT p.2) → t' i = t i) → i87 t' i xs = i87 t i xs
 | _, [], h => rfl
 | j, (m, x) :: xs, h => by
  have h1 : ev t' x = ev t x := a67 fun i hi => h i (by simp [hi])
  have h2 : ∀ j, i87 t' j xs = i87 t j xs := fun j => nq7 fun i hi => h i (by simp only [List.flatMap_cons, List.mem_append]; exact .inr hi)
  simp only [i87, h1, h2]
theorem nr7 {t t' : Tm} : ∀ {xs : List (Bool × Od)} {ys : List (Option AV)}, (∀ i, i ∈ xs.flatMap (fun p => odT p.2) → t' i = t i) → g87 t' xs ys = g87 t xs ys
 | [], [], h => rfl
 | (m, x) :: xs, y :: ys, h => by
  have h1 : ev t' x = ev t x := a67 fun i hi => h i (by simp [hi])
  have h2 : g87 t' xs ys = g87 t xs ys := nr7 fun i hi => h i (by simp only [List.flatMap_cons, List.mem_append]; exact .inr hi)
  simp only [g87, h1, h2]
 | [], _ :: _, h => rfl
 | _ :: _, [], h => rfl
theorem p17 {t t' : Tm} {xs : List (Bool × Od)} (h : ∀ i, i ∈ xs.flatMap (fun p => odT p.2) → t' i = t i) : args t' xs = args t xs := by
 unfold args
 rw [nq7 h]
 congr 1
 funext p
 obtain ⟨ys, ins⟩ := p
 simp only
 rw [nr7 h]
theorem ls7 {t t' : Tm} : ∀ {xs : List (Bool × Od)}, (∀ i, i ∈ xs.flatMap (fun p => odT p.2) → t' i = t i) → gr7 t' xs = gr7 t xs
 | [], h => rfl
 | (m, x) :: xs, h => by
  have h1 : ev t' x = ev t x := a67 fun i hi => h i (by simp [hi])
  have h2 : gr7 t' xs = gr7 t xs := ls7 fun i hi => h i (by simp only [List.flatMap_cons, List.mem_append]; exact .inr hi)
  simp only [gr7, List.all_cons, h1] at h2 ⊢
  rw [h2]
theorem tF7 {t t' : Tm} : ∀ {xs : List Od}, (∀ i, i ∈ xs.flatMap odT → t' i = t i) → xs.map (ev t') = xs.map (ev t)
 | [], h => rfl
 | x :: xs, h => by
  have h1 : ev t' x = ev t x := a67 fun i hi => h i (by simp [hi])
  have h2 := tF7 (t := t) (t' := t') (xs := xs) fun i hi => h i (by simp only [List.flatMap_cons, List.mem_append]; exact .inr hi)
  simp only [List.map_cons, h1, h2]
theorem cL7 {t t' : Tm} {op : Opx} (h : ∀ i, i ∈ b07 op → t' i = t i) : evp t' op = evp t op := by
 cases op with
 | pick c a b =>
  simp only [b07, List.mem_append] at h
  simp only [evp]
  rw [a67 (x := c) fun i hi => h i (.inl hi), a67 (x := a) fun i hi => h i (.inr (.inl hi)), a67 (x := b) fun i hi => h i (.inr (.inr hi))]
 | ssl x l u =>
  simp only [b07, List.mem_append] at h
  simp only [evp]
  rw [a67 (x := x) fun i hi => h i (.inl hi), kI7 (x := l) fun i hi => h i (.inr (.inl hi)), kI7 (x := u) fun i hi => h i (.inr (.inr hi))]
 | sls e x l u =>
  simp only [b07, List.mem_append] at h
  simp only [evp]
  rw [a67 (x := x) fun i hi => h i (.inl hi), kI7 (x := l) fun i hi => h i (.inr (.inl hi)), kI7 (x := u) fun i hi => h i (.inr (.inr hi))]
 | sl3 e x l u m =>
  simp only [b07, List.mem_append] at h
  simp only [evp]
  rw [a67 (x := x) fun i hi => h i (.inl hi), a67 (x := l) fun i hi => h i (.inr (.inl hi)), a67 (x := u) fun i hi => h i (.inr (.inr (.inl hi))), a67 (x := m) fun i hi => h i (.inr (.inr (.inr hi)))]
 | build z ps => simp only [evp]; rw [tE7 h]
 | mkf f xs => simp only [evp]; rw [tF7 h]
 | _ => first
  | rfl
  | (simp only [b07] at h; simp only [evp]; rw [a67 h]; done)
  | (simp only [b07, List.mem_append] at h; simp only [evp]; rw [a67 fun i hi => h i (.inl hi), a67 fun i hi => h i (.inr hi)])
theorem vn7 {G : Gam} {d : Nat} {ch : Ch} {t t' : Tm} {op : Opx} (h : ∀ i, i ∈ b07 op → t' i = t i) : aB7 G d ch t' op = aB7 G d ch t op := by
 have he := cL7 h
 induction op with
 | frz io ih => simp only [b07] at h; simp only [aB7]; rw [ih h (cL7 h)]
 | ren m k io ih => simp only [b07] at h; simp only [aB7]; rw [ih h (cL7 h)]
 | shut p io ih =>
  simp only [b07, List.mem_append] at h
  simp only [aB7]
  rw [ih (fun i hi => h i (.inr hi)) (cL7 fun i hi => h i (.inr hi)), a67 fun i hi => h i (.inl hi)]
 | rawl io ih => simp only [b07] at h; simp only [aB7]; rw [ih h (cL7 h)]
 | unr ns io ih => simp only [b07] at h; simp only [aB7]; rw [ih h (cL7 h)]
 | pfz j io ih => simp only [b07] at h; simp only [aB7]; rw [ih h (cL7 h)]
 | trn io ih => simp only [b07] at h; simp only [aB7]; rw [ih h (cL7 h)]
 | opa n m io ih => simp only [b07] at h; simp only [aB7]; rw [cL7 h]
 | cla n io ih => simp only [b07] at h; simp only [aB7]; rw [ih h (cL7 h)]
 | ldr sz x => simp only [b07] at h; simp only [aB7]; rw [a67 h]
 | lit k ks z n ps => simp only [aB7]; rw [np7 h]
 | call f xs => simp only [aB7]; rw [p17 h, ls7 h]
 | calld f xs =>
  simp only [b07, List.mem_append] at h
  simp only [aB7]
  rw [a67 (x := f) fun i hi => h i (.inl hi), p17 fun i hi => h i (.inr hi), ls7 fun i hi => h i (.inr hi)]
 | load sz agg x => simp only [b07] at h; simp only [aB7]; rw [a67 h]
 | box k ks x => simp only [b07] at h; simp only [aB7]; rw [a67 h]
 | alloc k z => rfl
 | bytes x => simp only [b07] at h; simp only [aB7]; rw [a67 h]
 | store ks x y => simp only [b07, List.mem_append] at h; simp only [aB7]; rw [a67 (x := x) fun i hi => h i (.inl hi), a67 (x := y) fun i hi => h i (.inr hi)]
 | mks k z x y => simp only [b07, List.mem_append] at h; simp only [aB7]; rw [a67 (x := x) fun i hi => h i (.inl hi), a67 (x := y) fun i hi => h i (.inr hi)]
 | app k mv x y => simp only [b07, List.mem_append] at h; simp only [aB7]; rw [a67 (x := x) fun i hi => h i (.inl hi), a67 (x := y) fun i hi => h i (.inr hi)]
 | _ => simp only [aB7]; rw [he]
def prog (G : Gam) (ch : Ch) (t : Tm) (io : IOp) : HM AV := match gt7 t io.g with
 | some true => match evp t io.op with
  | some x => .ret x
  | none => aB7 G (io.dst.getD 0) ch t io.op
 | some false => .ret unv
 | none => .fail
def wK7 (io : IOp) : List Nat := b07 io.op ++ (match io.g with | some (g, _) => [g] | none => [])
theorem p27 {G : Gam} {ch : Ch} {t t' : Tm} {io : IOp} (h : ∀ i, i ∈ wK7 io → t' i = t i) : prog G ch t' io = prog G ch t io := by
 have h1 : gt7 t' io.g = gt7 t io.g := by
  unfold gt7
  cases hg : io.g with
  | none => rfl
  | some p =>
   obtain ⟨g, b⟩ := p
   simp only
   rw [h g (by simp [wK7, hg])]
 have h2 : ∀ i, i ∈ b07 io.op → t' i = t i := fun i hi => h i (by simp [wK7, hi])
 unfold prog
 rw [h1, cL7 h2, vn7 h2]
abbrev Log := List Nat × List Nat
def cX7 (G : Gam) (chs : Nat → Ch) (x : Nat × IOp) (s : St) : Option (St × Log) := match (prog G (chs x.1) s.t x.2).run s.o with
 | some (v, o) => some (⟨aG7 s.t x.2.dst v, o⟩, (prog G (chs x.1) s.t x.2).log s.o)
 | none => none
def fg7 (G : Gam) (chs : Nat → Ch) : List (Nat × IOp) → St → Option (St × List (Nat × Log))
 | [], s => some (s, [])
 | x :: xs, s => match cX7 G chs x s with
  | some (s1, l) => match fg7 G chs xs s1 with
   | some (s2, ls) => some (s2, (x.1, l) :: ls)
   | none => none
  | none => none
def p37 (x y : IOp) : Bool := (match x.dst with
 | some d => !(wK7 y).contains d && y.dst != some d
 | none => true) && (match y.dst with
 | some d => !(wK7 x).contains d
 | none => true)
theorem wL7 {t : Tm} {d : Option Nat} {v : AV} {i : Nat} (h : d ≠ some i) : aG7 t d v i = t i := by
 cases d with
 | none => rfl
 | some d =>
  simp only [aG7]
  rw [if_neg]
  exact fun e => h (by rw [e])
theorem wM7 {t : Tm} {d e : Option Nat} {v u : AV} (h : ∀ i, d = some i → e ≠ some i) : aG7 (aG7 t d v) e u = aG7 (aG7 t e u) d v := by
 cases d with
 | none => rfl
 | some d =>
  cases e with
  | none => rfl
  | some e =>
   funext i
   have := h d rfl
   simp only [aG7]
   split
   ·rename_i h1
    rw [if_neg]
    exact fun h2 => this (by rw [← h1, ← h2])
   ·rfl
theorem wN7 {G : Gam} {chs : Nat → Ch} {x y : Nat × IOp} {s s1 s2 : St} {lx ly : Log} (h1 : cX7 G chs x s = some (s1, lx)) (h2 : cX7 G chs y s1 = some (s2, ly)) (ht : p37 x.2 y.2 = true) (ha : hg7 lx ly = true) :
  ∃ s1', cX7 G chs y s = some (s1', ly) ∧ cX7 G chs x s1' = some (s2, lx) := by
 unfold p37 at ht
 simp only [Bool.and_eq_true] at ht
 obtain ⟨t1, t2⟩ := ht
 unfold cX7 at h1 h2
 split at h1
 ·rename_i v o1 hr1
  cases h1
  have hsame : ∀ v, prog G (chs y.1) (aG7 s.t x.2.dst v) y.2 = prog G (chs y.1) s.t y.2 := fun v => p27 fun i hi => wL7 fun e => by
   rw [e] at t1
   simp only [Bool.and_eq_true, Bool.not_eq_true'] at t1
   have := t1.1
   simp at this
   exact this hi
  have hsame' : ∀ v, prog G (chs x.1) (aG7 s.t y.2.dst v) x.2 = prog G (chs x.1) s.t x.2 := fun v => p27 fun i hi => wL7 fun e => by
   rw [e] at t2
   simp at t2
   exact t2 hi
  simp only [hsame] at h2
  split at h2
  ·rename_i u o2 hr2
   cases h2
   obtain ⟨o2', g1, g2, g3, g4⟩ := HM.swap hr1 hr2 ha
   refine ⟨⟨aG7 s.t y.2.dst u, o2'⟩, ?_, ?_⟩
   ·unfold cX7
    rw [g1, g2]
   ·unfold cX7
    simp only [hsame']
    rw [g3, g4]
    simp only [Option.some.injEq, Prod.mk.injEq, and_true, St.mk.injEq]
    refine (wM7 fun i hi => ?_).symm
    rw [hi] at t1
    simp only [Bool.and_eq_true] at t1
    simpa using t1.2
  ·cases h2
 ·cases h1
end Go.Proofs.AM
