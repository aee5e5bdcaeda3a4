/- A part of the proof of 'FnExactPackSizeSaid' (Com): lemmas on an abstract machine for the program's functions. Conditions: none. -/
import Derived.Test.YthimhbjbpeheoaaCore
set_option linter.unusedVariables false
namespace Go.Proofs.AM
theorem HM.frame {α : Type} : ∀ (m : HM α) {o o' : Heap} {a : α} {o1 : Heap}, (∀ n, n ∈ (m.log o).1 → o' n = o n) → m.run o = some (a, o1) →
    ∃ o1', m.run o' = some (a, o1') ∧ m.log o' = m.log o ∧ (∀ n, n ∈ (m.log o).2 → o1' n = o1 n) ∧ (∀ n, n ∉ (m.log o).2 → o1' n = o' n) ∧ (∀ n, n ∉ (m.log o).2 → o1 n = o n)
  | .ret a, o, o', b, o1, h, hr => by
    simp only [HM.run, Option.some.injEq, Prod.mk.injEq] at hr
    obtain ⟨rfl, rfl⟩ := hr
    exact ⟨o', rfl, rfl, by simp [HM.log], fun _ _ => rfl, fun _ _ => rfl⟩
  | .get n k, o, o', b, o1, h, hr => by
    simp only [HM.run] at hr ⊢
    simp only [HM.log] at h ⊢
    cases he : o n with
    | none => rw [he] at hr; cases hr
    | some e =>
      rw [he] at hr h
      simp only at hr h
      have hn : o' n = some e := by rw [h n (by simp), he]
      rw [hn]
      simp only
      obtain ⟨o1', h1, h2, h3, h4, h5⟩ := HM.frame (k e) (o' := o') (fun m hm => h m (by simp [hm])) hr
      exact ⟨o1', h1, by rw [h2], h3, h4, h5⟩
  | .put n e k, o, o', b, o1, h, hr => by
    simp only [HM.run] at hr ⊢
    simp only [HM.log] at h ⊢
    obtain ⟨o1', h1, h2, h3, h4, h5⟩ := HM.frame k (o' := upd o' n e) (fun m hm => by
      simp only [upd]
      split
      · rfl
      · exact h m hm) hr
    refine ⟨o1', h1, by rw [h2], fun m hm => ?_, fun m hm => ?_, fun m hm => ?_⟩
    · by_cases hk : m ∈ (k.log (upd o n e)).2
      · exact h3 m hk
      · rcases List.mem_cons.1 hm with rfl | hm
        · rw [h4 _ hk, h5 _ hk]; simp [upd]
        · exact absurd hm hk
    · simp only [List.mem_cons, not_or] at hm
      rw [h4 m hm.2]
      simp [upd, hm.1]
    · simp only [List.mem_cons, not_or] at hm
      rw [h5 m hm.2]
      simp [upd, hm.1]
  | .need c k, o, o', b, o1, h, hr => by
    simp only [HM.run] at hr ⊢
    simp only [HM.log] at h ⊢
    cases c with
    | false => simp at hr
    | true =>
      simp only [if_true] at hr h ⊢
      exact HM.frame k h hr
  | .opt none k, o, o', b, o1, h, hr => by cases hr
  | .opt (some a) k, o, o', b, o1, h, hr => by exact HM.frame (k a) (o := o) (o' := o') h hr
  | .fail, o, o', b, o1, h, hr => by simp [HM.run] at hr
theorem apartL_spec {a b : List Nat × List Nat} (h : apartL a b = true) : (∀ n, n ∈ a.2 → n ∉ b.1 ∧ n ∉ b.2) ∧ (∀ n, n ∈ b.2 → n ∉ a.1) := by
  unfold apartL at h
  simp only [Bool.and_eq_true, List.all_eq_true] at h
  refine ⟨fun n hn => ?_, fun n hn => ?_⟩
  · have := h.1 n hn
    simpa using this
  · have := h.2 n hn
    simpa using this
theorem HM.swap {α β : Type} {m1 : HM α} {m2 : HM β} {o o1 o2 : Heap} {a : α} {b : β} (h1 : m1.run o = some (a, o1)) (h2 : m2.run o1 = some (b, o2)) (ha : apartL (m1.log o) (m2.log o1) = true) :
    ∃ o2', m2.run o = some (b, o2') ∧ m2.log o = m2.log o1 ∧ m1.run o2' = some (a, o2) ∧ m1.log o2' = m1.log o := by
  obtain ⟨p1, p2⟩ := apartL_spec ha
  obtain ⟨_, _, _, _, _, e5⟩ := HM.frame m1 (o' := o) (fun _ _ => rfl) h1
  obtain ⟨_, _, _, _, _, d5⟩ := HM.frame m2 (o' := o1) (fun _ _ => rfl) h2
  obtain ⟨o2', g1, g2, g3, g4, _⟩ := HM.frame m2 (o' := o) (fun n hn => (e5 n (fun hc => (p1 n hc).1 hn)).symm) h2
  obtain ⟨o3, k1, k2, k3, k4, _⟩ := HM.frame m1 (o' := o2') (fun n hn => g4 n (fun hc => p2 n hc hn)) h1
  refine ⟨o2', g1, g2, ?_, k2⟩
  rw [k1]
  congr 2
  funext n
  by_cases hn : n ∈ (m1.log o).2
  · rw [k3 n hn, d5 n (p1 n hn).2]
  · rw [k4 n hn]
    by_cases hn2 : n ∈ (m2.log o1).2
    · exact g3 n hn2
    · rw [g4 n hn2, d5 n hn2, e5 n hn]
def odT : Od → List Nat
  | .t n => [n]
  | _ => []
def odO : Option Od → List Nat
  | some x => odT x
  | none => []
def reads : Opx → List Nat
  | .mv x | .nilck x | .un _ x | .conv _ x | .len _ x | .faddr _ x | .fld _ _ _ x | .load _ _ x | .box _ _ x | .ext x _ | .bytes x => odT x
  | .pick c a b => odT c ++ (odT a ++ odT b)
  | .bin _ x y | .eqs _ _ _ x y | .iaddr _ x y | .sidx x y | .store _ x y | .mks _ _ x y | .app _ _ x y => odT x ++ odT y
  | .ssl x l h | .sls _ x l h => odT x ++ (odO l ++ odO h)
  | .alloc .. => []
  | .lit _ _ _ _ ps => ps.flatMap fun p => odT p.2
  | .build _ ps => ps.flatMap fun p => odT p.2.2
  | .call _ xs => xs.flatMap fun p => odT p.2
  | .calld f xs => odT f ++ xs.flatMap fun p => odT p.2
  | .mkf _ xs => xs.flatMap odT
  | .frz io => reads io
  | .ren _ _ io => reads io
theorem ev_same {t t' : Tm} {x : Od} (h : ∀ i, i ∈ odT x → t' i = t i) : ev t' x = ev t x := by
  cases x with
  | t n => exact h n (by simp [odT])
  | _ => rfl
theorem evo_same {t t' : Tm} {x : Option Od} (h : ∀ i, i ∈ odO x → t' i = t i) : x.map (ev t') = x.map (ev t) := by
  cases x with
  | some x => simp only [Option.map_some]; rw [ev_same h]
  | none => rfl
theorem bld_same {t t' : Tm} : ∀ {ps : List (Nat × Nat × Od)} {cs : List AV}, (∀ i, i ∈ ps.flatMap (fun p => odT p.2.2) → t' i = t i) → bld t' ps cs = bld t ps cs
  | [], cs, h => rfl
  | (off, sz, x) :: ps, cs, h => by
    have h1 : ev t' x = ev t x := ev_same fun i hi => h i (by simp [hi])
    simp only [bld, h1]
    split
    · exact bld_same fun i hi => h i (by simp only [List.flatMap_cons, List.mem_append]; exact .inr hi)
    · rfl
theorem parts_same {host : Nat} {ks : List (Option Nat)} {t t' : Tm} : ∀ {ps : List (Nat × Od)} {rows : Rows}, (∀ i, i ∈ ps.flatMap (fun p => odT p.2) → t' i = t i) → parts host ks t' ps rows = parts host ks t ps rows
  | [], cs, h => rfl
  | (j, x) :: ps, cs, h => by
    have h1 : ev t' x = ev t x := ev_same fun i hi => h i (by simp [hi])
    simp only [parts, h1]
    congr 1
    funext _
    congr 1
    funext _
    exact parts_same fun i hi => h i (by simp only [List.flatMap_cons, List.mem_append]; exact .inr hi)
theorem gives_same {t t' : Tm} : ∀ {i : Nat} {xs : List (Bool × Od)}, (∀ i, i ∈ xs.flatMap (fun p => odT p.2) → t' i = t i) → gives t' i xs = gives t i xs
  | _, [], h => rfl
  | j, (m, x) :: xs, h => by
    have h1 : ev t' x = ev t x := ev_same fun i hi => h i (by simp [hi])
    have h2 : ∀ j, gives t' j xs = gives t j xs := fun j => gives_same fun i hi => h i (by simp only [List.flatMap_cons, List.mem_append]; exact .inr hi)
    simp only [gives, h1, h2]
theorem lends_same {t t' : Tm} : ∀ {xs : List (Bool × Od)} {ys : List (Option AV)}, (∀ i, i ∈ xs.flatMap (fun p => odT p.2) → t' i = t i) → lends t' xs ys = lends t xs ys
  | [], [], h => rfl
  | (m, x) :: xs, y :: ys, h => by
    have h1 : ev t' x = ev t x := ev_same fun i hi => h i (by simp [hi])
    have h2 : lends t' xs ys = lends t xs ys := lends_same fun i hi => h i (by simp only [List.flatMap_cons, List.mem_append]; exact .inr hi)
    simp only [lends, h1, h2]
  | [], _ :: _, h => rfl
  | _ :: _, [], h => rfl
theorem args_same {t t' : Tm} {xs : List (Bool × Od)} (h : ∀ i, i ∈ xs.flatMap (fun p => odT p.2) → t' i = t i) : args t' xs = args t xs := by
  unfold args
  rw [gives_same h]
  congr 1
  funext p
  obtain ⟨ys, ins⟩ := p
  simp only
  rw [lends_same h]
theorem frzA_same {t t' : Tm} : ∀ {xs : List (Bool × Od)}, (∀ i, i ∈ xs.flatMap (fun p => odT p.2) → t' i = t i) → frzA t' xs = frzA t xs
  | [], h => rfl
  | (m, x) :: xs, h => by
    have h1 : ev t' x = ev t x := ev_same fun i hi => h i (by simp [hi])
    have h2 : frzA t' xs = frzA t xs := frzA_same fun i hi => h i (by simp only [List.flatMap_cons, List.mem_append]; exact .inr hi)
    simp only [frzA, List.all_cons, h1] at h2 ⊢
    rw [h2]
theorem mkf_same {t t' : Tm} : ∀ {xs : List Od}, (∀ i, i ∈ xs.flatMap odT → t' i = t i) → xs.map (ev t') = xs.map (ev t)
  | [], h => rfl
  | x :: xs, h => by
    have h1 : ev t' x = ev t x := ev_same fun i hi => h i (by simp [hi])
    have h2 := mkf_same (t := t) (t' := t') (xs := xs) fun i hi => h i (by simp only [List.flatMap_cons, List.mem_append]; exact .inr hi)
    simp only [List.map_cons, h1, h2]
theorem evp_same {t t' : Tm} {op : Opx} (h : ∀ i, i ∈ reads op → t' i = t i) : evp t' op = evp t op := by
  cases op with
  | pick c a b =>
    simp only [reads, List.mem_append] at h
    simp only [evp]
    rw [ev_same (x := c) fun i hi => h i (.inl hi), ev_same (x := a) fun i hi => h i (.inr (.inl hi)), ev_same (x := b) fun i hi => h i (.inr (.inr hi))]
  | ssl x l u =>
    simp only [reads, List.mem_append] at h
    simp only [evp]
    rw [ev_same (x := x) fun i hi => h i (.inl hi), evo_same (x := l) fun i hi => h i (.inr (.inl hi)), evo_same (x := u) fun i hi => h i (.inr (.inr hi))]
  | sls e x l u =>
    simp only [reads, List.mem_append] at h
    simp only [evp]
    rw [ev_same (x := x) fun i hi => h i (.inl hi), evo_same (x := l) fun i hi => h i (.inr (.inl hi)), evo_same (x := u) fun i hi => h i (.inr (.inr hi))]
  | build z ps => simp only [evp]; rw [bld_same h]
  | mkf f xs => simp only [evp]; rw [mkf_same h]
  | _ => first
    | rfl
    | (simp only [reads] at h; simp only [evp]; rw [ev_same h]; done)
    | (simp only [reads, List.mem_append] at h; simp only [evp]; rw [ev_same fun i hi => h i (.inl hi), ev_same fun i hi => h i (.inr hi)])
theorem opSem_same {G : Gam} {d : Nat} {ch : Ch} {t t' : Tm} {op : Opx} (h : ∀ i, i ∈ reads op → t' i = t i) : opSem G d ch t' op = opSem G d ch t op := by
  have he := evp_same h
  induction op with
  | frz io ih => simp only [reads] at h; simp only [opSem]; rw [ih h (evp_same h)]
  | ren m k io ih => simp only [reads] at h; simp only [opSem]; rw [ih h (evp_same h)]
  | lit k ks z n ps => simp only [opSem]; rw [parts_same h]
  | call f xs => simp only [opSem]; rw [args_same h, frzA_same h]
  | calld f xs =>
    simp only [reads, List.mem_append] at h
    simp only [opSem]
    rw [ev_same (x := f) fun i hi => h i (.inl hi), args_same fun i hi => h i (.inr hi), frzA_same fun i hi => h i (.inr hi)]
  | load sz agg x => simp only [reads] at h; simp only [opSem]; rw [ev_same h]
  | box k ks x => simp only [reads] at h; simp only [opSem]; rw [ev_same h]
  | alloc k z => rfl
  | store ks x y => simp only [reads, List.mem_append] at h; simp only [opSem]; rw [ev_same (x := x) fun i hi => h i (.inl hi), ev_same (x := y) fun i hi => h i (.inr hi)]
  | mks k z x y => simp only [reads, List.mem_append] at h; simp only [opSem]; rw [ev_same (x := x) fun i hi => h i (.inl hi), ev_same (x := y) fun i hi => h i (.inr hi)]
  | app k mv x y => simp only [reads, List.mem_append] at h; simp only [opSem]; rw [ev_same (x := x) fun i hi => h i (.inl hi), ev_same (x := y) fun i hi => h i (.inr hi)]
  | _ => simp only [opSem]; rw [he]
def prog (G : Gam) (ch : Ch) (t : Tm) (io : IOp) : HM AV := match wantd t io.g with
  | some true => match evp t io.op with
    | some x => .ret x
    | none => opSem G (io.dst.getD 0) ch t io.op
  | some false => .ret unv
  | none => .fail
def looks (io : IOp) : List Nat := reads io.op ++ (match io.g with | some (g, _) => [g] | none => [])
theorem prog_same {G : Gam} {ch : Ch} {t t' : Tm} {io : IOp} (h : ∀ i, i ∈ looks io → t' i = t i) : prog G ch t' io = prog G ch t io := by
  have h1 : wantd t' io.g = wantd t io.g := by
    unfold wantd
    cases hg : io.g with
    | none => rfl
    | some p =>
      obtain ⟨g, b⟩ := p
      simp only
      rw [h g (by simp [looks, hg])]
  have h2 : ∀ i, i ∈ reads io.op → t' i = t i := fun i hi => h i (by simp [looks, hi])
  unfold prog
  rw [h1, evp_same h2, opSem_same h2]
abbrev Log := List Nat × List Nat
def exec1 (G : Gam) (chs : Nat → Ch) (x : Nat × IOp) (s : St) : Option (St × Log) := match (prog G (chs x.1) s.t x.2).run s.o with
  | some (v, o) => some (⟨updT s.t x.2.dst v, o⟩, (prog G (chs x.1) s.t x.2).log s.o)
  | none => none
def execs (G : Gam) (chs : Nat → Ch) : List (Nat × IOp) → St → Option (St × List (Nat × Log))
  | [], s => some (s, [])
  | x :: xs, s => match exec1 G chs x s with
    | some (s1, l) => match execs G chs xs s1 with
      | some (s2, ls) => some (s2, (x.1, l) :: ls)
      | none => none
    | none => none
def tapart (x y : IOp) : Bool := (match x.dst with
  | some d => !(looks y).contains d && y.dst != some d
  | none => true) && (match y.dst with
  | some d => !(looks x).contains d
  | none => true)
theorem updT_ne {t : Tm} {d : Option Nat} {v : AV} {i : Nat} (h : d ≠ some i) : updT t d v i = t i := by
  cases d with
  | none => rfl
  | some d =>
    simp only [updT]
    rw [if_neg]
    exact fun e => h (by rw [e])
theorem updT_comm {t : Tm} {d e : Option Nat} {v u : AV} (h : ∀ i, d = some i → e ≠ some i) : updT (updT t d v) e u = updT (updT t e u) d v := by
  cases d with
  | none => rfl
  | some d =>
    cases e with
    | none => rfl
    | some e =>
      funext i
      have := h d rfl
      simp only [updT]
      split
      · rename_i h1
        rw [if_neg]
        exact fun h2 => this (by rw [← h1, ← h2])
      · rfl
theorem exec_swap {G : Gam} {chs : Nat → Ch} {x y : Nat × IOp} {s s1 s2 : St} {lx ly : Log} (h1 : exec1 G chs x s = some (s1, lx)) (h2 : exec1 G chs y s1 = some (s2, ly)) (ht : tapart x.2 y.2 = true) (ha : apartL lx ly = true) :
    ∃ s1', exec1 G chs y s = some (s1', ly) ∧ exec1 G chs x s1' = some (s2, lx) := by
  unfold tapart at ht
  simp only [Bool.and_eq_true] at ht
  obtain ⟨t1, t2⟩ := ht
  unfold exec1 at h1 h2
  split at h1
  · rename_i v o1 hr1
    cases h1
    have hsame : ∀ v, prog G (chs y.1) (updT s.t x.2.dst v) y.2 = prog G (chs y.1) s.t y.2 := fun v => prog_same fun i hi => updT_ne fun e => by
      rw [e] at t1
      simp only [Bool.and_eq_true, Bool.not_eq_true'] at t1
      have := t1.1
      simp at this
      exact this hi
    have hsame' : ∀ v, prog G (chs x.1) (updT s.t y.2.dst v) x.2 = prog G (chs x.1) s.t x.2 := fun v => prog_same fun i hi => updT_ne fun e => by
      rw [e] at t2
      simp at t2
      exact t2 hi
    simp only [hsame] at h2
    split at h2
    · rename_i u o2 hr2
      cases h2
      obtain ⟨o2', g1, g2, g3, g4⟩ := HM.swap hr1 hr2 ha
      refine ⟨⟨updT s.t y.2.dst u, o2'⟩, ?_, ?_⟩
      · unfold exec1
        rw [g1, g2]
      · unfold exec1
        simp only [hsame']
        rw [g3, g4]
        simp only [Option.some.injEq, Prod.mk.injEq, and_true, St.mk.injEq]
        refine (updT_comm fun i hi => ?_).symm
        rw [hi] at t1
        simp only [Bool.and_eq_true] at t1
        simpa using t1.2
    · cases h2
  · cases h1
end Go.Proofs.AM
