/- Lemmas of the proof (Com), on an abstract machine. Conditions: none. -/
import Derived.Test.YtnnfdbdheoajgaaGreatCore
set_option linter.unusedVariables false
namespace Go.Proofs.AM
theorem HM.frame {α : Type} : ∀ (m : HM α) {o o' : ah7} {a : α} {o1 : ah7}, (∀ n, n ∈ (m.log o).1 → o' n = o n) → m.run o = some (a, o1) →
  ∃ o1', m.run o' = some (a, o1') ∧ m.log o' = m.log o ∧ (∀ n, n ∈ (m.log o).2 → o1' n = o1 n) ∧ (∀ n, n ∉ (m.log o).2 → o1' n = o' n) ∧ (∀ n, n ∉ (m.log o).2 → o1 n = o n)
 | .ret a, o, o', b, o1, h, hr => by
  simp only [HM.run, Option.some.injEq, Prod.mk.injEq] at hr
  obtain ⟨rfl, rfl⟩ := hr
  exact ⟨o', rfl, rfl, by simp [HM.log], fun _ _ => rfl, fun _ _ => rfl⟩
 | .get n k, o, o', b, o1, h, hr => by
  simp only [HM.run] at hr ⊢
  simp only [HM.log] at h ⊢
  cases he : o n with
  | none => rw [he] at hr; cases hr
  | some e =>
   rw [he] at hr h
   simp only at hr h
   have hn : o' n = some e := by rw [h n (by simp), he]
   rw [hn]
   simp only
   obtain ⟨o1', h1, h2, h3, h4, h5⟩ := HM.frame (k e) (o' := o') (fun m hm => h m (by simp [hm])) hr
   exact ⟨o1', h1, by rw [h2], h3, h4, h5⟩
 | .put n e k, o, o', b, o1, h, hr => by
  simp only [HM.run] at hr ⊢
  simp only [HM.log] at h ⊢
  obtain ⟨o1', h1, h2, h3, h4, h5⟩ := HM.frame k (o' := upd o' n e) (fun m hm => by
   simp only [upd]
   split
   ·rfl
   ·exact h m hm) hr
  refine ⟨o1', h1, by rw [h2], fun m hm => ?_, fun m hm => ?_, fun m hm => ?_⟩
  ·by_cases hk : m ∈ (k.log (upd o n e)).2
   ·exact h3 m hk
   ·rcases List.mem_cons.1 hm with rfl | hm
    ·rw [h4 _ hk, h5 _ hk]; simp [upd]
    ·exact absurd hm hk
  ·simp only [List.mem_cons, not_or] at hm
   rw [h4 m hm.2]
   simp [upd, hm.1]
  ·simp only [List.mem_cons, not_or] at hm
   rw [h5 m hm.2]
   simp [upd, hm.1]
 | .need c k, o, o', b, o1, h, hr => by
  simp only [HM.run] at hr ⊢
  simp only [HM.log] at h ⊢
  cases c with
  | false => simp at hr
  | true =>
   simp only [if_true] at hr h ⊢
   exact HM.frame k h hr
 | .opt none k, o, o', b, o1, h, hr => by cases hr
 | .opt (some a) k, o, o', b, o1, h, hr => by exact HM.frame (k a) (o := o) (o' := o') h hr
 | .fail, o, o', b, o1, h, hr => by simp [HM.run] at hr
theorem sd7 {a b : List Nat × List Nat} (h : g47 a b = true) : (∀ n, n ∈ a.2 → n ∉ b.1 ∧ n ∉ b.2) ∧ (∀ n, n ∈ b.2 → n ∉ a.1) := by
 unfold g47 at h
 simp only [Bool.and_eq_true, List.all_eq_true] at h
 refine ⟨fun n hn => ?_, fun n hn => ?_⟩
 ·have := h.1 n hn
  simpa using this
 ·have := h.2 n hn
  simpa using this
theorem HM.swap {α β : Type} {m1 : HM α} {m2 : HM β} {o o1 o2 : ah7} {a : α} {b : β} (h1 : m1.run o = some (a, o1)) (h2 : m2.run o1 = some (b, o2)) (ha : g47 (m1.log o) (m2.log o1) = true) :
  ∃ o2', m2.run o = some (b, o2') ∧ m2.log o = m2.log o1 ∧ m1.run o2' = some (a, o2) ∧ m1.log o2' = m1.log o := by
 obtain ⟨p1, p2⟩ := sd7 ha
 obtain ⟨_, _, _, _, _, e5⟩ := HM.frame m1 (o' := o) (fun _ _ => rfl) h1
 obtain ⟨_, _, _, _, _, d5⟩ := HM.frame m2 (o' := o1) (fun _ _ => rfl) h2
 obtain ⟨o2', g1, g2, g3, g4, _⟩ := HM.frame m2 (o' := o) (fun n hn => (e5 n (fun hc => (p1 n hc).1 hn)).symm) h2
 obtain ⟨o3, k1, k2, k3, k4, _⟩ := HM.frame m1 (o' := o2') (fun n hn => g4 n (fun hc => p2 n hc hn)) h1
 refine ⟨o2', g1, g2, ?_, k2⟩
 rw [k1]
 congr 2
 funext n
 by_cases hn : n ∈ (m1.log o).2
 ·rw [k3 n hn, d5 n (p1 n hn).2]
 ·rw [k4 n hn]
  by_cases hn2 : n ∈ (m2.log o1).2
  ·exact g3 n hn2
  ·rw [g4 n hn2, d5 n hn2, e5 n hn]
def odT : Od → List Nat
 | .t n => [n]
 | .w n => [n]
 | _ => []
def odO : Option Od → List Nat
 | some x => odT x
 | none => []
def bG7 : Opx → List Nat
 | .mv x | .nilck x | .un _ x | .conv _ x | .len _ x | .faddr _ x | .fld _ _ _ x | .load _ _ x | .box _ _ x | .ext x _ | .bytes x | .ldr _ x => odT x
 | .pick c a b => odT c ++ (odT a ++ odT b)
 | .bin _ x y | .eqs _ _ _ x y | .iaddr _ x y | .sidx x y | .store _ x y | .mks _ _ x y | .app _ _ x y => odT x ++ odT y
 | .ssl x l h | .sls _ x l h => odT x ++ (odO l ++ odO h)
 | .sl3 _ x l h m => odT x ++ (odT l ++ (odT h ++ odT m))
 | .slx _ x l h => odT x ++ (odO l ++ odO h)
 | .ain _ x y => odT x ++ odT y
 | .clr _ _ x => odT x
 | .mnew => []
 | .mset _ x k v => odT x ++ (odT k ++ odT v)
 | .mget _ x k => odT x ++ odT k
 | .mxi x y => odT x ++ odT y
 | .dead => []
 | .alloc .. => []
 | .lit _ _ _ _ ps => ps.flatMap fun p => odT p.2
 | .build _ ps => ps.flatMap fun p => odT p.2.2
 | .call _ xs => xs.flatMap fun p => odT p.2
 | .calld f xs => odT f ++ xs.flatMap fun p => odT p.2
 | .mkf _ xs => xs.flatMap odT
 | .frz io => bG7 io
 | .ren _ _ io => bG7 io
 | .shut p io => odT p ++ bG7 io
 | .rawl io => bG7 io
 | .unr _ io => bG7 io
 | .pfz _ io => bG7 io
 | .trn io => bG7 io
 | .opa _ _ io => bG7 io
 | .cla _ io => bG7 io
theorem aQ7 {t t' : Tm} {x : Od} (h : ∀ i, i ∈ odT x → t' i = t i) : ev t' x = ev t x := by
 cases x with
 | t n => exact h n (by simp [odT])
 | w n => simp only [ev]; rw [h n (by simp [odT])]
 | _ => rfl
theorem gM7 {t t' : Tm} {x : Option Od} (h : ∀ i, i ∈ odO x → t' i = t i) : x.map (ev t') = x.map (ev t) := by
 cases x with
 | some x => simp only [Option.map_some]; rw [aQ7 h]
 | none => rfl
theorem tk7 {t t' : Tm} : ∀ {ps : List (Nat × Nat × Od)} {cs : List AV}, (∀ i, i ∈ ps.flatMap (fun p => odT p.2.2) → t' i = t i) → bld t' ps cs = bld t ps cs
 | [], cs, h => rfl
 | (off, sz, x) :: ps, cs, h => by
  have h1 : ev t' x = ev t x := aQ7 fun i hi => h i (by simp [hi])
  simp only [bld, h1]
  split
  ·exact tk7 fun i hi => h i (by simp only [List.flatMap_cons, List.mem_append]; exact .inr hi)
  ·rfl
theorem mY7 {host : Nat} {ks : List (Option Nat)} {t t' : Tm} : ∀ {ps : List (Nat × Od)} {rows : Rows}, (∀ i, i ∈ ps.flatMap (fun p => odT p.2) → t' i = t i) → n07 host ks t' ps rows = n07 host ks t ps rows
 | [], cs, h => rfl
 | (j, x) :: ps, cs, h => by
  have h1 : ev t' x = ev t x := aQ7 fun i hi => h i (by simp [hi])
  simp only [n07, h1]
  congr 1
  funext _
  congr 1
  funext _
  exact mY7 fun i hi => h i (by simp only [List.flatMap_cons, List.mem_append]; exact .inr hi)
theorem mZ7 {t t' : Tm} : ∀ {i : Nat} {xs : List (Bool × Od)}, (∀ i, i ∈ xs.flatMap (fun p => odT p.2) → t' i = t i) → iV7 t' i xs = iV7 t i xs
 | _, [], h => rfl
 | j, (m, x) :: xs, h => by
  have h1 : ev t' x = ev t x := aQ7 fun i hi => h i (by simp [hi])
  have h2 : ∀ j, iV7 t' j xs = iV7 t j xs := fun j => mZ7 fun i hi => h i (by simp only [List.flatMap_cons, List.mem_append]; exact .inr hi)
  simp only [iV7, h1, h2]
theorem m07 {t t' : Tm} : ∀ {xs : List (Bool × Od)} {ys : List (Option AV)}, (∀ i, i ∈ xs.flatMap (fun p => odT p.2) → t' i = t i) → gX7 t' xs ys = gX7 t xs ys
 | [], [], h => rfl
 | (m, x) :: xs, y :: ys, h => by
  have h1 : ev t' x = ev t x := aQ7 fun i hi => h i (by simp [hi])
  have h2 : gX7 t' xs ys = gX7 t xs ys := m07 fun i hi => h i (by simp only [List.flatMap_cons, List.mem_append]; exact .inr hi)
  simp only [gX7, h1, h2]
 | [], _ :: _, h => rfl
 | _ :: _, [], h => rfl
theorem py7 {t t' : Tm} {xs : List (Bool × Od)} (h : ∀ i, i ∈ xs.flatMap (fun p => odT p.2) → t' i = t i) : args t' xs = args t xs := by
 unfold args
 rw [mZ7 h]
 congr 1
 funext p
 obtain ⟨ys, ins⟩ := p
 simp only
 rw [m07 h]
theorem k77 {t t' : Tm} : ∀ {xs : List (Bool × Od)}, (∀ i, i ∈ xs.flatMap (fun p => odT p.2) → t' i = t i) → f97 t' xs = f97 t xs
 | [], h => rfl
 | (m, x) :: xs, h => by
  have h1 : ev t' x = ev t x := aQ7 fun i hi => h i (by simp [hi])
  have h2 : f97 t' xs = f97 t xs := k77 fun i hi => h i (by simp only [List.flatMap_cons, List.mem_append]; exact .inr hi)
  simp only [f97, List.all_cons, h1] at h2 ⊢
  rw [h2]
theorem tl7 {t t' : Tm} : ∀ {xs : List Od}, (∀ i, i ∈ xs.flatMap odT → t' i = t i) → xs.map (ev t') = xs.map (ev t)
 | [], h => rfl
 | x :: xs, h => by
  have h1 : ev t' x = ev t x := aQ7 fun i hi => h i (by simp [hi])
  have h2 := tl7 (t := t) (t' := t') (xs := xs) fun i hi => h i (by simp only [List.flatMap_cons, List.mem_append]; exact .inr hi)
  simp only [List.map_cons, h1, h2]
theorem cK7 {t t' : Tm} {op : Opx} (h : ∀ i, i ∈ bG7 op → t' i = t i) : evp t' op = evp t op := by
 cases op with
 | pick c a b =>
  simp only [bG7, List.mem_append] at h
  simp only [evp]
  rw [aQ7 (x := c) fun i hi => h i (.inl hi), aQ7 (x := a) fun i hi => h i (.inr (.inl hi)), aQ7 (x := b) fun i hi => h i (.inr (.inr hi))]
 | ssl x l u =>
  simp only [bG7, List.mem_append] at h
  simp only [evp]
  rw [aQ7 (x := x) fun i hi => h i (.inl hi), gM7 (x := l) fun i hi => h i (.inr (.inl hi)), gM7 (x := u) fun i hi => h i (.inr (.inr hi))]
 | sls e x l u =>
  simp only [bG7, List.mem_append] at h
  simp only [evp]
  rw [aQ7 (x := x) fun i hi => h i (.inl hi), gM7 (x := l) fun i hi => h i (.inr (.inl hi)), gM7 (x := u) fun i hi => h i (.inr (.inr hi))]
 | sl3 e x l u m =>
  simp only [bG7, List.mem_append] at h
  simp only [evp]
  rw [aQ7 (x := x) fun i hi => h i (.inl hi), aQ7 (x := l) fun i hi => h i (.inr (.inl hi)), aQ7 (x := u) fun i hi => h i (.inr (.inr (.inl hi))), aQ7 (x := m) fun i hi => h i (.inr (.inr (.inr hi)))]
 | slx e x l u => rfl
 | ain k x y => rfl
 | clr k z x => rfl
 | mnew => rfl
 | mset n x k v => rfl
 | mget n x k => rfl
 | build z ps => simp only [evp]; rw [tk7 h]
 | mkf f xs => simp only [evp]; rw [tl7 h]
 | _ => first
  | rfl
  | (simp only [bG7] at h; simp only [evp]; rw [aQ7 h]; done)
  | (simp only [bG7, List.mem_append] at h; simp only [evp]; rw [aQ7 fun i hi => h i (.inl hi), aQ7 fun i hi => h i (.inr hi)])
theorem va7 {G : Gam} {d : Nat} {ch : Ch} {t t' : Tm} {op : Opx} (h : ∀ i, i ∈ bG7 op → t' i = t i) : aq7 G d ch t' op = aq7 G d ch t op := by
 have he := cK7 h
 induction op with
 | frz io ih => simp only [bG7] at h; simp only [aq7]; rw [ih h (cK7 h)]
 | ren m k io ih => simp only [bG7] at h; simp only [aq7]; rw [ih h (cK7 h)]
 | shut p io ih =>
  simp only [bG7, List.mem_append] at h
  simp only [aq7]
  rw [ih (fun i hi => h i (.inr hi)) (cK7 fun i hi => h i (.inr hi)), aQ7 fun i hi => h i (.inl hi)]
 | rawl io ih => simp only [bG7] at h; simp only [aq7]; rw [ih h (cK7 h)]
 | unr ns io ih => simp only [bG7] at h; simp only [aq7]; rw [ih h (cK7 h)]
 | pfz j io ih => simp only [bG7] at h; simp only [aq7]; rw [ih h (cK7 h)]
 | trn io ih => simp only [bG7] at h; simp only [aq7]; rw [ih h (cK7 h)]
 | opa n m io ih => simp only [bG7] at h; simp only [aq7]; rw [cK7 h]
 | cla n io ih => simp only [bG7] at h; simp only [aq7]; rw [ih h (cK7 h)]
 | ldr sz x => simp only [bG7] at h; simp only [aq7]; rw [aQ7 h]
 | lit k ks z n ps => simp only [aq7]; rw [mY7 h]
 | call f xs => simp only [aq7]; rw [py7 h, k77 h]
 | calld f xs =>
  simp only [bG7, List.mem_append] at h
  simp only [aq7]
  rw [aQ7 (x := f) fun i hi => h i (.inl hi), py7 fun i hi => h i (.inr hi), k77 fun i hi => h i (.inr hi)]
 | load sz agg x => simp only [bG7] at h; simp only [aq7]; rw [aQ7 h]
 | box k ks x => simp only [bG7] at h; simp only [aq7]; rw [aQ7 h]
 | alloc k z => rfl
 | slx e x l u =>
  simp only [bG7, List.mem_append] at h
  simp only [aq7]
  rw [aQ7 (x := x) fun i hi => h i (.inl hi), gM7 (x := l) fun i hi => h i (.inr (.inl hi)), gM7 (x := u) fun i hi => h i (.inr (.inr hi))]
 | ain k x y => simp only [bG7, List.mem_append] at h; simp only [aq7]; rw [aQ7 (x := x) fun i hi => h i (.inl hi), aQ7 (x := y) fun i hi => h i (.inr hi)]
 | clr k z x => simp only [bG7] at h; simp only [aq7]; rw [aQ7 h]
 | mnew => rfl
 | mset n x k v => simp only [bG7, List.mem_append] at h; simp only [aq7]; rw [aQ7 (x := x) fun i hi => h i (.inl hi), aQ7 (x := k) fun i hi => h i (.inr (.inl hi)), aQ7 (x := v) fun i hi => h i (.inr (.inr hi))]
 | mget n x k => simp only [bG7, List.mem_append] at h; simp only [aq7]; rw [aQ7 (x := x) fun i hi => h i (.inl hi), aQ7 (x := k) fun i hi => h i (.inr hi)]
 | bytes x => simp only [bG7] at h; simp only [aq7]; rw [aQ7 h]
 | store ks x y => simp only [bG7, List.mem_append] at h; simp only [aq7]; rw [aQ7 (x := x) fun i hi => h i (.inl hi), aQ7 (x := y) fun i hi => h i (.inr hi)]
 | mks k z x y => simp only [bG7, List.mem_append] at h; simp only [aq7]; rw [aQ7 (x := x) fun i hi => h i (.inl hi), aQ7 (x := y) fun i hi => h i (.inr hi)]
 | app k mv x y => simp only [bG7, List.mem_append] at h; simp only [aq7]; rw [aQ7 (x := x) fun i hi => h i (.inl hi), aQ7 (x := y) fun i hi => h i (.inr hi)]
 | _ => simp only [aq7]; rw [he]
def prog (G : Gam) (ch : Ch) (t : Tm) (io : IOp) : HM AV := match gb7 t io.g with
 | some true => match evp t io.op with
  | some x => .ret x
  | none => aq7 G (io.dst.getD 0) ch t io.op
 | some false => .ret unv
 | none => .fail
def wz7 (io : IOp) : List Nat := bG7 io.op ++ (match io.g with | some (g, _) => [g] | none => [])
theorem pz7 {G : Gam} {ch : Ch} {t t' : Tm} {io : IOp} (h : ∀ i, i ∈ wz7 io → t' i = t i) : prog G ch t' io = prog G ch t io := by
 have h1 : gb7 t' io.g = gb7 t io.g := by
  unfold gb7
  cases hg : io.g with
  | none => rfl
  | some p =>
   obtain ⟨g, b⟩ := p
   simp only
   rw [h g (by simp [wz7, hg])]
 have h2 : ∀ i, i ∈ bG7 io.op → t' i = t i := fun i hi => h i (by simp [wz7, hi])
 unfold prog
 rw [h1, cK7 h2, va7 h2]
abbrev Log := List Nat × List Nat
def cS7 (G : Gam) (chs : Nat → Ch) (x : Nat × IOp) (s : St) : Option (St × Log) := match (prog G (chs x.1) s.t x.2).run s.o with
 | some (v, o) => some (⟨aA7 s.t x.2.dst v, o⟩, (prog G (chs x.1) s.t x.2).log s.o)
 | none => none
def e97 (G : Gam) (chs : Nat → Ch) : List (Nat × IOp) → St → Option (St × List (Nat × Log))
 | [], s => some (s, [])
 | x :: xs, s => match cS7 G chs x s with
  | some (s1, l) => match e97 G chs xs s1 with
   | some (s2, ls) => some (s2, (x.1, l) :: ls)
   | none => none
  | none => none
def pA7 (x y : IOp) : Bool := (match x.dst with
 | some d => !(wz7 y).contains d && y.dst != some d
 | none => true) && (match y.dst with
 | some d => !(wz7 x).contains d
 | none => true)
theorem wA7 {t : Tm} {d : Option Nat} {v : AV} {i : Nat} (h : d ≠ some i) : aA7 t d v i = t i := by
 cases d with
 | none => rfl
 | some d =>
  simp only [aA7]
  rw [if_neg]
  exact fun e => h (by rw [e])
theorem wB7 {t : Tm} {d e : Option Nat} {v u : AV} (h : ∀ i, d = some i → e ≠ some i) : aA7 (aA7 t d v) e u = aA7 (aA7 t e u) d v := by
 cases d with
 | none => rfl
 | some d =>
  cases e with
  | none => rfl
  | some e =>
   funext i
   have := h d rfl
   simp only [aA7]
   split
   ·rename_i h1
    rw [if_neg]
    exact fun h2 => this (by rw [← h1, ← h2])
   ·rfl
theorem wC7 {G : Gam} {chs : Nat → Ch} {x y : Nat × IOp} {s s1 s2 : St} {lx ly : Log} (h1 : cS7 G chs x s = some (s1, lx)) (h2 : cS7 G chs y s1 = some (s2, ly)) (ht : pA7 x.2 y.2 = true) (ha : g47 lx ly = true) :
  ∃ s1', cS7 G chs y s = some (s1', ly) ∧ cS7 G chs x s1' = some (s2, lx) := by
 unfold pA7 at ht
 simp only [Bool.and_eq_true] at ht
 obtain ⟨t1, t2⟩ := ht
 unfold cS7 at h1 h2
 split at h1
 ·rename_i v o1 hr1
  cases h1
  have hsame : ∀ v, prog G (chs y.1) (aA7 s.t x.2.dst v) y.2 = prog G (chs y.1) s.t y.2 := fun v => pz7 fun i hi => wA7 fun e => by
   rw [e] at t1
   simp only [Bool.and_eq_true, Bool.not_eq_true'] at t1
   have := t1.1
   simp at this
   exact this hi
  have hsame' : ∀ v, prog G (chs x.1) (aA7 s.t y.2.dst v) x.2 = prog G (chs x.1) s.t x.2 := fun v => pz7 fun i hi => wA7 fun e => by
   rw [e] at t2
   simp at t2
   exact t2 hi
  simp only [hsame] at h2
  split at h2
  ·rename_i u o2 hr2
   cases h2
   obtain ⟨o2', g1, g2, g3, g4⟩ := HM.swap hr1 hr2 ha
   refine ⟨⟨aA7 s.t y.2.dst u, o2'⟩, ?_, ?_⟩
   ·unfold cS7
    rw [g1, g2]
   ·unfold cS7
    simp only [hsame']
    rw [g3, g4]
    simp only [Option.some.injEq, Prod.mk.injEq, and_true, St.mk.injEq]
    refine (wB7 fun i hi => ?_).symm
    rw [hi] at t1
    simp only [Bool.and_eq_true] at t1
    simpa using t1.2
  ·cases h2
 ·cases h1
end Go.Proofs.AM
