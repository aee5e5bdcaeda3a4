/- Lemmas of the proof (Com), on an abstract machine. Conditions: none. -/
import Derived.Test.YtnnfdbdheoajgabGreatCore
set_option linter.unusedVariables false
namespace Go.Proofs.AM
theorem HM.frame {α : Type} : ∀ (m : HM α) {o o' : al7} {a : α} {o1 : al7}, (∀ n, n ∈ (m.log o).1 → o' n = o n) → m.run o = some (a, o1) →
  ∃ o1', m.run o' = some (a, o1') ∧ m.log o' = m.log o ∧ (∀ n, n ∈ (m.log o).2 → o1' n = o1 n) ∧ (∀ n, n ∉ (m.log o).2 → o1' n = o' n) ∧ (∀ n, n ∉ (m.log o).2 → o1 n = o n)
 | .ret a, o, o', b, o1, h, hr => by
  simp only [HM.run, Option.some.injEq, Prod.mk.injEq] at hr
  obtain ⟨rfl, rfl⟩ := hr
  exact ⟨o', rfl, rfl, by simp [HM.log], fun _ _ => rfl, fun _ _ => rfl⟩
 | .get n k, o, o', b, o1, h, hr => by
  simp only [HM.run] at hr ⊢
  simp only [HM.log] at h ⊢
  cases he : o n with
  | none => rw [he] at hr; cases hr
  | some e =>
   rw [he] at hr h
   simp only at hr h
   have hn : o' n = some e := by rw [h n (by simp), he]
   rw [hn]
   simp only
   obtain ⟨o1', h1, h2, h3, h4, h5⟩ := HM.frame (k e) (o' := o') (fun m hm => h m (by simp [hm])) hr
   exact ⟨o1', h1, by rw [h2], h3, h4, h5⟩
 | .put n e k, o, o', b, o1, h, hr => by
  simp only [HM.run] at hr ⊢
  simp only [HM.log] at h ⊢
  obtain ⟨o1', h1, h2, h3, h4, h5⟩ := HM.frame k (o' := upd o' n e) (fun m hm => by
   simp only [upd]
   split
   ·rfl
   ·exact h m hm) hr
  refine ⟨o1', h1, by rw [h2], fun m hm => ?_, fun m hm => ?_, fun m hm => ?_⟩
  ·by_cases hk : m ∈ (k.log (upd o n e)).2
   ·exact h3 m hk
   ·rcases List.mem_cons.1 hm with rfl | hm
    ·rw [h4 _ hk, h5 _ hk]; simp [upd]
    ·exact absurd hm hk
  ·simp only [List.mem_cons, not_or] at hm
   rw [h4 m hm.2]
   simp [upd, hm.1]
  ·simp only [List.mem_cons, not_or] at hm
   rw [h5 m hm.2]
   simp [upd, hm.1]
 | .need c k, o, o', b, o1, h, hr => by
  simp only [HM.run] at hr ⊢
  simp only [HM.log] at h ⊢
  cases c with
  | false => simp at hr
  | true =>
   simp only [if_true] at hr h ⊢
   exact HM.frame k h hr
 | .opt none k, o, o', b, o1, h, hr => by cases hr
 | .opt (some a) k, o, o', b, o1, h, hr => by exact HM.frame (k a) (o := o) (o' := o') h hr
 | .fail, o, o', b, o1, h, hr => by simp [HM.run] at hr
theorem sL7 {a b : List Nat × List Nat} (h : ha7 a b = true) : (∀ n, n ∈ a.2 → n ∉ b.1 ∧ n ∉ b.2) ∧ (∀ n, n ∈ b.2 → n ∉ a.1) := by
 unfold ha7 at h
 simp only [Bool.and_eq_true, List.all_eq_true] at h
 refine ⟨fun n hn => ?_, fun n hn => ?_⟩
 ·have := h.1 n hn
  simpa using this
 ·have := h.2 n hn
  simpa using this
theorem HM.swap {α β : Type} {m1 : HM α} {m2 : HM β} {o o1 o2 : al7} {a : α} {b : β} (h1 : m1.run o = some (a, o1)) (h2 : m2.run o1 = some (b, o2)) (ha : ha7 (m1.log o) (m2.log o1) = true) :
  ∃ o2', m2.run o = some (b, o2') ∧ m2.log o = m2.log o1 ∧ m1.run o2' = some (a, o2) ∧ m1.log o2' = m1.log o := by
 obtain ⟨p1, p2⟩ := sL7 ha
 obtain ⟨_, _, _, _, _, e5⟩ := HM.frame m1 (o' := o) (fun _ _ => rfl) h1
 obtain ⟨_, _, _, _, _, d5⟩ := HM.frame m2 (o' := o1) (fun _ _ => rfl) h2
 obtain ⟨o2', g1, g2, g3, g4, _⟩ := HM.frame m2 (o' := o) (fun n hn => (e5 n (fun hc => (p1 n hc).1 hn)).symm) h2
 obtain ⟨o3, k1, k2, k3, k4, _⟩ := HM.frame m1 (o' := o2') (fun n hn => g4 n (fun hc => p2 n hc hn)) h1
 refine ⟨o2', g1, g2, ?_, k2⟩
 rw [k1]
 congr 2
 funext n
 by_cases hn : n ∈ (m1.log o).2
 ·rw [k3 n hn, d5 n (p1 n hn).2]
 ·rw [k4 n hn]
  by_cases hn2 : n ∈ (m2.log o1).2
  ·exact g3 n hn2
  ·rw [g4 n hn2, d5 n hn2, e5 n hn]
def odT : Od → List Nat
 | .t n => [n]
 | .w n => [n]
 | _ => []
def odO : Option Od → List Nat
 | some x => odT x
 | none => []
def bH7 : Opx → List Nat
 | .mv x | .nilck x | .un _ x | .conv _ x | .len _ x | .faddr _ x | .fld _ _ _ x | .load _ _ x | .box _ _ x | .ext x _ | .bytes x | .ldr _ x => odT x
 | .pick c a b => odT c ++ (odT a ++ odT b)
 | .bin _ x y | .eqs _ _ _ x y | .iaddr _ x y | .sidx x y | .store _ x y | .mks _ _ x y | .app _ _ x y => odT x ++ odT y
 | .ssl x l h | .sls _ x l h => odT x ++ (odO l ++ odO h)
 | .sl3 _ x l h m => odT x ++ (odT l ++ (odT h ++ odT m))
 | .slx _ x l h => odT x ++ (odO l ++ odO h)
 | .ain _ x y => odT x ++ odT y
 | .clr _ _ x => odT x
 | .mnew => []
 | .mset _ x k v => odT x ++ (odT k ++ odT v)
 | .mget _ x k => odT x ++ odT k
 | .mxi x y => odT x ++ odT y
 | .dead => []
 | .alloc .. => []
 | .lit _ _ _ _ ps => ps.flatMap fun p => odT p.2
 | .build _ ps => ps.flatMap fun p => odT p.2.2
 | .call _ xs => xs.flatMap fun p => odT p.2
 | .calld f xs => odT f ++ xs.flatMap fun p => odT p.2
 | .mkf _ xs => xs.flatMap odT
 | .frz io => bH7 io
 | .ren _ _ io => bH7 io
 | .shut p io => odT p ++ bH7 io
 | .rawl io => bH7 io
 | .unr _ io => bH7 io
 | .pfz _ io => bH7 io
 | .trn io => bH7 io
 | .opa _ _ io => bH7 io
 | .cla _ io => bH7 io
theorem aN7 {t t' : Tm} {x : Od} (h : ∀ i, i ∈ odT x → t' i = t i) : ev t' x = ev t x := by
 cases x with
 | t n => exact h n (by simp [odT])
 | w n => simp only [ev]; rw [h n (by simp [odT])]
 | _ => rfl
theorem gv7 {t t' : Tm} {x : Option Od} (h : ∀ i, i ∈ odO x → t' i = t i) : x.map (ev t') = x.map (ev t) := by
 cases x with
 | some x => simp only [Option.map_some]; rw [aN7 h]
 | none => rfl
theorem tU7 {t t' : Tm} : ∀ {ps : List (Nat × Nat × Od)} {cs : List AV}, (∀ i, i ∈ ps.flatMap (fun p => odT p.2.2) → t' i = t i) → bld t' ps cs = bld t ps cs
 | [], cs, h => rfl
 | (off, sz, x) :: ps, cs, h => by
  have h1 : ev t' x = ev t x := aN7 fun i hi => h i (by simp [hi])
  simp only [bld, h1]
  split
  ·exact tU7 fun i hi => h i (by simp only [List.flatMap_cons, List.mem_append]; exact .inr hi)
  ·rfl
theorem nm7 {host : Nat} {ks : List (Option Nat)} {t t' : Tm} : ∀ {ps : List (Nat × Od)} {rows : Rows}, (∀ i, i ∈ ps.flatMap (fun p => odT p.2) → t' i = t i) → om7 host ks t' ps rows = om7 host ks t ps rows
 | [], cs, h => rfl
 | (j, x) :: ps, cs, h => by
  have h1 : ev t' x = ev t x := aN7 fun i hi => h i (by simp [hi])
  simp only [om7, h1]
  congr 1
  funext _
  congr 1
  funext _
  exact nm7 fun i hi => h i (by simp only [List.flatMap_cons, List.mem_append]; exact .inr hi)
theorem nn7 {t t' : Tm} : ∀ {i : Nat} {xs : List (Bool × Od)}, (∀ i, i ∈ xs.flatMap (fun p => odT p.2) → t' i = t i) → iN7 t' i xs = iN7 t i xs
 | _, [], h => rfl
 | j, (m, x) :: xs, h => by
  have h1 : ev t' x = ev t x := aN7 fun i hi => h i (by simp [hi])
  have h2 : ∀ j, iN7 t' j xs = iN7 t j xs := fun j => nn7 fun i hi => h i (by simp only [List.flatMap_cons, List.mem_append]; exact .inr hi)
  simp only [iN7, h1, h2]
theorem no7 {t t' : Tm} : ∀ {xs : List (Bool × Od)} {ys : List (Option AV)}, (∀ i, i ∈ xs.flatMap (fun p => odT p.2) → t' i = t i) → g27 t' xs ys = g27 t xs ys
 | [], [], h => rfl
 | (m, x) :: xs, y :: ys, h => by
  have h1 : ev t' x = ev t x := aN7 fun i hi => h i (by simp [hi])
  have h2 : g27 t' xs ys = g27 t xs ys := no7 fun i hi => h i (by simp only [List.flatMap_cons, List.mem_append]; exact .inr hi)
  simp only [g27, h1, h2]
 | [], _ :: _, h => rfl
 | _ :: _, [], h => rfl
theorem pW7 {t t' : Tm} {xs : List (Bool × Od)} (h : ∀ i, i ∈ xs.flatMap (fun p => odT p.2) → t' i = t i) : args t' xs = args t xs := by
 unfold args
 rw [nn7 h]
 congr 1
 funext p
 obtain ⟨ys, ins⟩ := p
 simp only
 rw [no7 h]
theorem la7 {t t' : Tm} : ∀ {xs : List (Bool × Od)}, (∀ i, i ∈ xs.flatMap (fun p => odT p.2) → t' i = t i) → f27 t' xs = f27 t xs
 | [], h => rfl
 | (m, x) :: xs, h => by
  have h1 : ev t' x = ev t x := aN7 fun i hi => h i (by simp [hi])
  have h2 : f27 t' xs = f27 t xs := la7 fun i hi => h i (by simp only [List.flatMap_cons, List.mem_append]; exact .inr hi)
  simp only [f27, List.all_cons, h1] at h2 ⊢
  rw [h2]
theorem tV7 {t t' : Tm} : ∀ {xs : List Od}, (∀ i, i ∈ xs.flatMap odT → t' i = t i) → xs.map (ev t') = xs.map (ev t)
 | [], h => rfl
 | x :: xs, h => by
  have h1 : ev t' x = ev t x := aN7 fun i hi => h i (by simp [hi])
  have h2 := tV7 (t := t) (t' := t') (xs := xs) fun i hi => h i (by simp only [List.flatMap_cons, List.mem_append]; exact .inr hi)
  simp only [List.map_cons, h1, h2]
theorem cu7 {t t' : Tm} {op : Opx} (h : ∀ i, i ∈ bH7 op → t' i = t i) : evp t' op = evp t op := by
 cases op with
 | pick c a b =>
  simp only [bH7, List.mem_append] at h
  simp only [evp]
  rw [aN7 (x := c) fun i hi => h i (.inl hi), aN7 (x := a) fun i hi => h i (.inr (.inl hi)), aN7 (x := b) fun i hi => h i (.inr (.inr hi))]
 | ssl x l u =>
  simp only [bH7, List.mem_append] at h
  simp only [evp]
  rw [aN7 (x := x) fun i hi => h i (.inl hi), gv7 (x := l) fun i hi => h i (.inr (.inl hi)), gv7 (x := u) fun i hi => h i (.inr (.inr hi))]
 | sls e x l u =>
  simp only [bH7, List.mem_append] at h
  simp only [evp]
  rw [aN7 (x := x) fun i hi => h i (.inl hi), gv7 (x := l) fun i hi => h i (.inr (.inl hi)), gv7 (x := u) fun i hi => h i (.inr (.inr hi))]
 | sl3 e x l u m =>
  simp only [bH7, List.mem_append] at h
  simp only [evp]
  rw [aN7 (x := x) fun i hi => h i (.inl hi), aN7 (x := l) fun i hi => h i (.inr (.inl hi)), aN7 (x := u) fun i hi => h i (.inr (.inr (.inl hi))), aN7 (x := m) fun i hi => h i (.inr (.inr (.inr hi)))]
 | slx e x l u => rfl
 | ain k x y => rfl
 | clr k z x => rfl
 | mnew => rfl
 | mset n x k v => rfl
 | mget n x k => rfl
 | build z ps => simp only [evp]; rw [tU7 h]
 | mkf f xs => simp only [evp]; rw [tV7 h]
 | _ => first
  | rfl
  | (simp only [bH7] at h; simp only [evp]; rw [aN7 h]; done)
  | (simp only [bH7, List.mem_append] at h; simp only [evp]; rw [aN7 fun i hi => h i (.inl hi), aN7 fun i hi => h i (.inr hi)])
theorem vX7 {G : Gam} {d : Nat} {ch : Ch} {t t' : Tm} {op : Opx} (h : ∀ i, i ∈ bH7 op → t' i = t i) : at7 G d ch t' op = at7 G d ch t op := by
 have he := cu7 h
 induction op with
 | frz io ih => simp only [bH7] at h; simp only [at7]; rw [ih h (cu7 h)]
 | ren m k io ih => simp only [bH7] at h; simp only [at7]; rw [ih h (cu7 h)]
 | shut p io ih =>
  simp only [bH7, List.mem_append] at h
  simp only [at7]
  rw [ih (fun i hi => h i (.inr hi)) (cu7 fun i hi => h i (.inr hi)), aN7 fun i hi => h i (.inl hi)]
 | rawl io ih => simp only [bH7] at h; simp only [at7]; rw [ih h (cu7 h)]
 | unr ns io ih => simp only [bH7] at h; simp only [at7]; rw [ih h (cu7 h)]
 | pfz j io ih => simp only [bH7] at h; simp only [at7]; rw [ih h (cu7 h)]
 | trn io ih => simp only [bH7] at h; simp only [at7]; rw [ih h (cu7 h)]
 | opa n m io ih => simp only [bH7] at h; simp only [at7]; rw [cu7 h]
 | cla n io ih => simp only [bH7] at h; simp only [at7]; rw [ih h (cu7 h)]
 | ldr sz x => simp only [bH7] at h; simp only [at7]; rw [aN7 h]
 | lit k ks z n ps => simp only [at7]; rw [nm7 h]
 | call f xs => simp only [at7]; rw [pW7 h, la7 h]
 | calld f xs =>
  simp only [bH7, List.mem_append] at h
  simp only [at7]
  rw [aN7 (x := f) fun i hi => h i (.inl hi), pW7 fun i hi => h i (.inr hi), la7 fun i hi => h i (.inr hi)]
 | load sz agg x => simp only [bH7] at h; simp only [at7]; rw [aN7 h]
 | box k ks x => simp only [bH7] at h; simp only [at7]; rw [aN7 h]
 | alloc k z => rfl
 | slx e x l u =>
  simp only [bH7, List.mem_append] at h
  simp only [at7]
  rw [aN7 (x := x) fun i hi => h i (.inl hi), gv7 (x := l) fun i hi => h i (.inr (.inl hi)), gv7 (x := u) fun i hi => h i (.inr (.inr hi))]
 | ain k x y => simp only [bH7, List.mem_append] at h; simp only [at7]; rw [aN7 (x := x) fun i hi => h i (.inl hi), aN7 (x := y) fun i hi => h i (.inr hi)]
 | clr k z x => simp only [bH7] at h; simp only [at7]; rw [aN7 h]
 | mnew => rfl
 | mset n x k v => simp only [bH7, List.mem_append] at h; simp only [at7]; rw [aN7 (x := x) fun i hi => h i (.inl hi), aN7 (x := k) fun i hi => h i (.inr (.inl hi)), aN7 (x := v) fun i hi => h i (.inr (.inr hi))]
 | mget n x k => simp only [bH7, List.mem_append] at h; simp only [at7]; rw [aN7 (x := x) fun i hi => h i (.inl hi), aN7 (x := k) fun i hi => h i (.inr hi)]
 | bytes x => simp only [bH7] at h; simp only [at7]; rw [aN7 h]
 | store ks x y => simp only [bH7, List.mem_append] at h; simp only [at7]; rw [aN7 (x := x) fun i hi => h i (.inl hi), aN7 (x := y) fun i hi => h i (.inr hi)]
 | mks k z x y => simp only [bH7, List.mem_append] at h; simp only [at7]; rw [aN7 (x := x) fun i hi => h i (.inl hi), aN7 (x := y) fun i hi => h i (.inr hi)]
 | app k mv x y => simp only [bH7, List.mem_append] at h; simp only [at7]; rw [aN7 (x := x) fun i hi => h i (.inl hi), aN7 (x := y) fun i hi => h i (.inr hi)]
 | _ => simp only [at7]; rw [he]
def prog (G : Gam) (ch : Ch) (t : Tm) (io : IOp) : HM AV := match f57 t io.g with
 | some true => match evp t io.op with
  | some x => .ret x
  | none => at7 G (io.dst.getD 0) ch t io.op
 | some false => .ret unv
 | none => .fail
def xt7 (io : IOp) : List Nat := bH7 io.op ++ (match io.g with | some (g, _) => [g] | none => [])
theorem pX7 {G : Gam} {ch : Ch} {t t' : Tm} {io : IOp} (h : ∀ i, i ∈ xt7 io → t' i = t i) : prog G ch t' io = prog G ch t io := by
 have h1 : f57 t' io.g = f57 t io.g := by
  unfold f57
  cases hg : io.g with
  | none => rfl
  | some p =>
   obtain ⟨g, b⟩ := p
   simp only
   rw [h g (by simp [xt7, hg])]
 have h2 : ∀ i, i ∈ bH7 io.op → t' i = t i := fun i hi => h i (by simp [xt7, hi])
 unfold prog
 rw [h1, cu7 h2, vX7 h2]
abbrev Log := List Nat × List Nat
def cL7 (G : Gam) (chs : Nat → Ch) (x : Nat × IOp) (s : St) : Option (St × Log) := match (prog G (chs x.1) s.t x.2).run s.o with
 | some (v, o) => some (⟨aF7 s.t x.2.dst v, o⟩, (prog G (chs x.1) s.t x.2).log s.o)
 | none => none
def eV7 (G : Gam) (chs : Nat → Ch) : List (Nat × IOp) → St → Option (St × List (Nat × Log))
 | [], s => some (s, [])
 | x :: xs, s => match cL7 G chs x s with
  | some (s1, l) => match eV7 G chs xs s1 with
   | some (s2, ls) => some (s2, (x.1, l) :: ls)
   | none => none
  | none => none
def pY7 (x y : IOp) : Bool := (match x.dst with
 | some d => !(xt7 y).contains d && y.dst != some d
 | none => true) && (match y.dst with
 | some d => !(xt7 x).contains d
 | none => true)
theorem xu7 {t : Tm} {d : Option Nat} {v : AV} {i : Nat} (h : d ≠ some i) : aF7 t d v i = t i := by
 cases d with
 | none => rfl
 | some d =>
  simp only [aF7]
  rw [if_neg]
  exact fun e => h (by rw [e])
theorem xv7 {t : Tm} {d e : Option Nat} {v u : AV} (h : ∀ i, d = some i → e ≠ some i) : aF7 (aF7 t d v) e u = aF7 (aF7 t e u) d v := by
 cases d with
 | none => rfl
 | some d =>
  cases e with
  | none => rfl
  | some e =>
   funext i
   have := h d rfl
   simp only [aF7]
   split
   ·rename_i h1
    rw [if_neg]
    exact fun h2 => this (by rw [← h1, ← h2])
   ·rfl
theorem xw7 {G : Gam} {chs : Nat → Ch} {x y : Nat × IOp} {s s1 s2 : St} {lx ly : Log} (h1 : cL7 G chs x s = some (s1, lx)) (h2 : cL7 G chs y s1 = some (s2, ly)) (ht : pY7 x.2 y.2 = true) (ha : ha7 lx ly = true) :
  ∃ s1', cL7 G chs y s = some (s1', ly) ∧ cL7 G chs x s1' = some (s2, lx) := by
 unfold pY7 at ht
 simp only [Bool.and_eq_true] at ht
 obtain ⟨t1, t2⟩ := ht
 unfold cL7 at h1 h2
 split at h1
 ·rename_i v o1 hr1
  cases h1
  have hsame : ∀ v, prog G (chs y.1) (aF7 s.t x.2.dst v) y.2 = prog G (chs y.1) s.t y.2 := fun v => pX7 fun i hi => xu7 fun e => by
   rw [e] at t1
   simp only [Bool.and_eq_true, Bool.not_eq_true'] at t1
   have := t1.1
   simp at this
   exact this hi
  have hsame' : ∀ v, prog G (chs x.1) (aF7 s.t y.2.dst v) x.2 = prog G (chs x.1) s.t x.2 := fun v => pX7 fun i hi => xu7 fun e => by
   rw [e] at t2
   simp at t2
   exact t2 hi
  simp only [hsame] at h2
  split at h2
  ·rename_i u o2 hr2
   cases h2
   obtain ⟨o2', g1, g2, g3, g4⟩ := HM.swap hr1 hr2 ha
   refine ⟨⟨aF7 s.t y.2.dst u, o2'⟩, ?_, ?_⟩
   ·unfold cL7
    rw [g1, g2]
   ·unfold cL7
    simp only [hsame']
    rw [g3, g4]
    simp only [Option.some.injEq, Prod.mk.injEq, and_true, St.mk.injEq]
    refine (xv7 fun i hi => ?_).symm
    rw [hi] at t1
    simp only [Bool.and_eq_true] at t1
    simpa using t1.2
  ·cases h2
 ·cases h1
end Go.Proofs.AM
