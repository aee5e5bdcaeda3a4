/- A part of the proof of 'FnExactPackSizeSaid' (HOps): lemmas on an abstract machine for the program's functions. Conditions: none. -/
import Derived.Test.YthimhbjbpeheoaaHRel
set_option linter.unusedVariables false
set_option linter.unusedSimpArgs false
namespace Go.Proofs.AM
open Go.RowKit
variable {P : Program} {tb : Tab} {F K : Nat → Prop} {w : World}
theorem nodup_count : ∀ {l : List Nat}, l.Nodup ↔ ∀ a, l.count a ≤ 1
  | [] => by simp
  | x :: xs => by
    rw [List.nodup_cons, nodup_count (l := xs)]
    constructor
    · rintro ⟨h1, h2⟩ a
      rw [List.count_cons]
      have := h2 a
      by_cases hx : x = a
      · subst hx
        rw [List.count_eq_zero.2 h1]
        simp
      · simp [hx]; exact this
    · intro h
      refine ⟨fun hm => ?_, fun a => ?_⟩
      · have := h x
        rw [List.count_cons] at this
        have hp := List.count_pos_iff.2 hm
        simp at this
        omega
      · have := h a
        rw [List.count_cons] at this
        split at this <;> omega
theorem mem_split_at {α : Type} [Inhabited α] (l : List α) (i : Nat) (d : α) (h : i < l.length) : l = l.take i ++ [l.getD i d] ++ l.drop (i + 1) := by
  have : l.getD i d = l[i] := by simp [List.getD_eq_getElem?_getD, h]
  rw [this]
  simp
theorem OWl_keep {w' : World} {F' : Nat → Prop} (h : ∀ k, F k → w'.heap[k]? = w.heap[k]?) (hF : ∀ k, F k → F' k) : ∀ {cs : List T} {us : List Value} {fp : List Nat}, (∀ k ∈ fp, w'.heap[k]? = w.heap[k]?) → OWl tb F w cs us fp → OWl tb F' w' cs us fp
  | [], us, fp, hf, r => by simpa only [OWl] using r
  | c :: cs, us, fp, hf, r => by
    simp only [OWl] at r ⊢
    obtain ⟨u, us', f1, f2, rfl, rfl, h1, h2⟩ := r
    exact ⟨u, us', f1, f2, rfl, rfl, OWc_keep h hF c u f1 (fun k hk => hf k (by simp [hk])) h1, OWl_keep h hF (fun k hk => hf k (by simp [hk])) h2⟩
theorem entry_write {e : Ent} {fp f : List Nat} {g : Nat} (hE : OWe tb F w e fp) (hb : e.b = some g) {r c : Nat} {cs : List T} {us : List Value} (hl : OWl tb F w cs us f)
    (hr : r < e.rows.length) (hc : c + cs.length ≤ (e.rows.getD r []).length) (hn : (fp ++ f).Nodup) (hF : ¬ F g) :
    ∃ cur fp', w.heap[g]? = some (.cells cur (tb.ty e.k) (0, 0)) ∧ r * esz e.k + c + us.length ≤ cur.size ∧
      OWe tb F (w.setRow g (cur.toList.take (r * esz e.k + c) ++ us ++ cur.toList.drop (r * esz e.k + c + us.length)).toArray) { e with rows := e.rows.set r (setAt (e.rows.getD r []) c cs) } fp' ∧
      (∀ b, b ∈ fp' → b ∈ fp ∨ b ∈ f) ∧ fp'.Nodup ∧ g ∈ fp := by
  unfold OWe at hE
  rw [hb] at hE
  obtain ⟨cur, f0, h1, h2, h3, h4, rfl, h6⟩ := hE
  have hus := OWl_length hl
  generalize hrow : e.rows.getD r [] = row at hc
  have hsplit := mem_split_at e.rows r [] hr
  rw [hrow] at hsplit
  have h6' := h6
  rw [hsplit] at h6
  rw [List.append_assoc] at h6
  obtain ⟨fA, f1, rfl, hA, h6⟩ := OWrows_append.1 h6
  obtain ⟨fr, fB, rfl, hR, hB⟩ := OWrows_append.1 h6
  simp only [OWrows] at hR
  obtain ⟨fr1, fr2, rfl, hrl, hcells, rfl⟩ := hR
  have hlenA : (e.rows.take r).length = r := by rw [List.length_take]; omega
  rw [hlenA] at hcells hB
  simp only [Nat.zero_add] at hcells hB
  simp only [List.length_singleton] at hB
  have hrow2 : row = row.take c ++ (row.drop c).take cs.length ++ row.drop (c + cs.length) := by
    rw [List.append_assoc, ← List.drop_drop, List.take_append_drop, List.take_append_drop]
  have hcells' := hcells
  rw [hrow2, List.append_assoc] at hcells
  obtain ⟨fa, fm', rfl, ha, hcells⟩ := OWcells_append.1 hcells
  obtain ⟨fm, fb, rfl, hm, hbb⟩ := OWcells_append.1 hcells
  have hla : (row.take c).length = c := by rw [List.length_take]; omega
  have hlm : ((row.drop c).take cs.length).length = cs.length := by rw [List.length_take, List.length_drop]; omega
  rw [hla] at hm hbb
  rw [hlm] at hbb
  have hsz : (r + 1) * esz e.k ≤ cur.size := by
    rw [h2]; exact Nat.mul_le_mul_right _ (by omega)
  have hsz' : r * esz e.k + esz e.k ≤ cur.size := by rw [Nat.add_mul, Nat.one_mul] at hsz; exact hsz
  have hfit : r * esz e.k + c + us.length ≤ cur.size := by rw [hus]; omega
  generalize hp0 : r * esz e.k + c = p0 at *
  have hcur' : ∀ q, (cur.toList.take p0 ++ us ++ cur.toList.drop (p0 + us.length)).toArray[q]? = if q < p0 then cur[q]? else if q < p0 + us.length then us[q - p0]? else cur[q]? := by
    intro q
    simp only [List.getElem?_toArray, List.append_assoc]
    by_cases q1 : q < p0
    · rw [if_pos q1, List.getElem?_append_left (by simp; omega)]
      simp [q1]
    · rw [if_neg q1, List.getElem?_append_right (by simp; omega)]
      have hmin : (cur.toList.take p0).length = p0 := by simp; omega
      rw [hmin]
      by_cases q2 : q < p0 + us.length
      · rw [if_pos q2, List.getElem?_append_left (by omega)]
      · rw [if_neg q2, List.getElem?_append_right (by omega), List.getElem?_drop]
        rw [show p0 + us.length + (q - p0 - us.length) = q by omega]
        simp
  have hsize : (cur.toList.take p0 ++ us ++ cur.toList.drop (p0 + us.length)).toArray.size = cur.size := by
    simp only [List.size_toArray, List.length_append, List.length_take, List.length_drop, Array.length_toList]; omega
  refine ⟨cur, g :: (fA ++ ((fa ++ (f ++ fb)) ++ fB)), h1, hfit, ?_, ?_, ?_, by simp⟩
  rotate_left
  · intro b hb'
    simp only [List.mem_cons, List.mem_append] at hb' ⊢
    rcases hb' with h | h | (h | h | h) | h <;> simp [h]
  · rw [nodup_count] at hn ⊢
    intro a
    have := hn a
    simp only [List.cons_append, List.count_cons, List.count_append, List.append_nil] at this ⊢
    omega
  generalize (cur.toList.take p0 ++ us ++ cur.toList.drop (p0 + us.length)).toArray = cur' at hcur' hsize ⊢
  have hg' := setRow_heap w g cur cur' _ _ h1
  have hot : ∀ k, k ≠ g → (w.setRow g cur').heap[k]? = w.heap[k]? := fun k hk => setRow_other w g k cur' hk
  have kF : ∀ k, F k → (w.setRow g cur').heap[k]? = w.heap[k]? := fun k hk => hot k (fun e => hF (e ▸ hk))
  rw [nodup_count] at hn
  have hng : ∀ k, k ∈ fA ∨ k ∈ fa ∨ k ∈ f ∨ k ∈ fb ∨ k ∈ fB → (w.setRow g cur').heap[k]? = w.heap[k]? := by
    intro k hk
    refine hot k (fun e => ?_)
    subst e
    have h0 := hn k
    have hp : 0 < fA.count k + fa.count k + f.count k + fb.count k + fB.count k := by
      rcases hk with hk | hk | hk | hk | hk <;> (have := List.count_pos_iff.2 hk; omega)
    simp only [List.cons_append, List.count_cons, List.count_append, List.append_nil] at h0
    simp at h0
    omega
  have hA2 := OWrows_keep (w' := w.setRow g cur') kF (fun _ h => h) cur e.k _ 0 fA (fun k hk => hng k (.inl hk)) hA
  have ha2 := OWcells_keep (w' := w.setRow g cur') kF (fun _ h => h) cur _ _ fa (fun k hk => hng k (.inr (.inl hk))) ha
  have hl2 := OWl_keep (w' := w.setRow g cur') kF (fun _ h => h) (fun k hk => hng k (.inr (.inr (.inl hk)))) hl
  have hb2 := OWcells_keep (w' := w.setRow g cur') kF (fun _ h => h) cur _ _ fb (fun k hk => hng k (.inr (.inr (.inr (.inl hk))))) hbb
  have hB2 := OWrows_keep (w' := w.setRow g cur') kF (fun _ h => h) cur e.k _ _ fB (fun k hk => hng k (.inr (.inr (.inr (.inr hk))))) hB
  have hmulr : (r + 1) * esz e.k = r * esz e.k + esz e.k := by rw [Nat.add_mul, Nat.one_mul]
  unfold OWe
  simp only [hb]
  refine ⟨cur', fA ++ ((fa ++ (f ++ fb)) ++ fB), hg', by rw [hsize]; exact h2, by simpa using h3, h4, rfl, ?_⟩
  have hset : e.rows.set r (setAt row c cs) = e.rows.take r ++ ([setAt row c cs] ++ e.rows.drop (r + 1)) := by
    rw [List.set_eq_take_append_cons_drop, if_pos hr]; simp
  rw [hset]
  refine OWrows_append.2 ⟨fA, _, rfl, OWrows_cur (fun q q1 q2 => ?_) hA2, ?_⟩
  · rw [hcur' q, if_pos]
    rw [hlenA] at q2
    simp at q2
    omega
  rw [hlenA]
  simp only [Nat.zero_add]
  refine OWrows_append.2 ⟨_, fB, rfl, ?_, OWrows_cur (fun q q1 q2 => ?_) hB2⟩
  · simp only [OWrows]
    refine ⟨fa ++ (f ++ fb), [], by simp, ?_, ?_, rfl⟩
    · rw [setAt_spec _ _ _ hc]
      simp; omega
    · rw [setAt_spec _ _ _ hc, List.append_assoc]
      refine OWcells_append.2 ⟨fa, _, rfl, OWcells_cur (fun q q1 q2 => ?_) ha2, ?_⟩
      · rw [hcur' q, if_pos]; rw [hla] at q2; omega
      rw [hla]
      rw [hp0]
      refine OWcells_append.2 ⟨f, fb, rfl, OWl_cells hl2 (fun j u hj => ?_), OWcells_cur (fun q q1 q2 => ?_) hb2⟩
      · have hj' : j < us.length := (List.getElem?_eq_some_iff.1 hj).1
        rw [hcur', if_neg (by omega), if_pos (by omega), show p0 + j - p0 = j by omega]
        exact hj
      · rw [hcur' q, if_neg (by omega), if_neg (by omega)]
  · rw [hcur' q, if_neg, if_neg]
    · simp only [List.length_singleton] at q1; omega
    · simp only [List.length_singleton] at q1; omega
theorem run_bind {α β : Type} {m : HM α} {f : α → HM β} {o : Heap} {r : β × Heap} : (m >>= f).run o = some r ↔ ∃ a o1, m.run o = some (a, o1) ∧ (f a).run o1 = some r := by
  show (HM.bind m f).run o = some r ↔ _
  induction m generalizing o with
  | ret a =>
    simp only [HM.bind, HM.run]
    exact ⟨fun h => ⟨a, o, rfl, h⟩, fun ⟨a1, o1, h1, h2⟩ => by cases h1; exact h2⟩
  | get n k ih =>
    simp only [HM.bind, HM.run]
    cases o n with
    | none => simp
    | some e => simpa using ih e
  | put n e k ih => simpa only [HM.bind, HM.run] using ih
  | need b k ih =>
    simp only [HM.bind, HM.run]
    cases b <;> simp [ih]
  | opt x k ih =>
    cases x with
    | none => exact ⟨fun h => (by cases h), fun ⟨a, o1, h, _⟩ => (by cases h)⟩
    | some a => exact ih a
  | fail => simp [HM.bind, HM.run]
section
variable {α β : Type} {o : Heap} {r : β × Heap}
theorem run_ret {a : β} : (HM.ret a).run o = some r ↔ r = (a, o) := by simp [HM.run, eq_comm]
theorem run_ret2 {a b : β} {o' : Heap} : (HM.ret a).run o = some (b, o') ↔ a = b ∧ o = o' := by simp [HM.run]
theorem run_pure {a : β} : (pure a : HM β).run o = some r ↔ r = (a, o) := run_ret
theorem run_askb {n : Nat} {f : Ent → HM β} : (ask n >>= f).run o = some r ↔ ∃ e, o n = some e ∧ (f e).run o = some r := by
  rw [run_bind]
  simp only [ask, HM.run]
  cases o n with
  | none => simp
  | some e => exact ⟨fun ⟨a, o1, h, h'⟩ => by cases h; exact ⟨e, rfl, h'⟩, fun ⟨a, h, h'⟩ => by cases h; exact ⟨e, o, rfl, h'⟩⟩
theorem run_layb {n : Nat} {e : Option Ent} {f : Unit → HM β} : (lay n e >>= f).run o = some r ↔ (f ()).run (upd o n e) = some r := by
  rw [run_bind]
  simp only [lay, HM.run]
  exact ⟨fun ⟨a, o1, h, h'⟩ => by cases h; exact h', fun h => ⟨(), _, rfl, h⟩⟩
theorem run_needb {b : Bool} {f : Unit → HM β} : (need b >>= f).run o = some r ↔ b = true ∧ (f ()).run o = some r := by
  rw [run_bind]
  cases b
  · simp [need, HM.run]
  · simp only [need, if_true, HM.run]
    exact ⟨fun ⟨a, o1, h, h'⟩ => by cases h; exact ⟨trivial, h'⟩, fun h => ⟨(), _, rfl, h.2⟩⟩
theorem run_orFailb {x : Option α} {f : α → HM β} : (orFail x >>= f).run o = some r ↔ ∃ a, x = some a ∧ (f a).run o = some r := by
  rw [run_bind]
  cases x with
  | none => simp [orFail, HM.run]
  | some y =>
    simp only [orFail, HM.run]
    exact ⟨fun ⟨a, o1, h, h'⟩ => by cases h; exact ⟨y, rfl, h'⟩, fun ⟨a, h, h'⟩ => by cases h; exact ⟨y, o, rfl, h'⟩⟩
theorem run_orFail {x : Option β} {b : β} {o' : Heap} : (orFail x).run o = some (b, o') ↔ x = some b ∧ o = o' := by
  cases x <;> simp [orFail, HM.run]
theorem run_fail : (HM.fail : HM β).run o = some r ↔ False := by simp [HM.run]
end
theorem move_sound {o : Heap} {fps : Nat → List Nat} {fl : List Nat} (hr : HRel tb F K o fps fl w) {n : Nat} {e : Ent} (he : o n = some e) {b : Option Nat} {cap len k : Nat} (h1 : e.b = b) (h2 : e.cap = cap) (h3 : e.k = k) (h4 : len ≤ e.rows.length) {u : Value}
    (hu : Hdr b k 0 len cap u) : ∃ f, OWc tb F w (.sl true k (e.rows.take len)) u f ∧ HRel tb F K (upd o n none) (updF fps n []) (f ++ fl) w ∧ (∀ b, b ∈ f → b ∈ fps n) := by
  have hE := hr.ents n e he
  have ht := hr.take n
  subst h1
  subst h2
  subst h3
  unfold OWe at hE
  obtain ⟨A, rfl, hc, hb, hA⟩ := hu
  have hA' : A = e.b.map (fun g => (⟨g, 0, none⟩ : Addr)) := by
    rcases hA with hA | hA
    · simpa using hA
    · omega
  cases heb : e.b with
  | none =>
    rw [heb] at hE
    obtain ⟨e1, e2, e3, e4⟩ := hE
    have hlen : len = 0 := by rw [e1] at h4; simpa using h4
    subst hlen
    refine ⟨[], ?_, ht.sub (fun b hb => by simp at hb; exact List.mem_append_right _ hb) hr.fnd, by simp⟩
    simp only [OWc]
    left
    rw [hA', heb, e2]
    simp
  | some g =>
    rw [heb] at hE
    obtain ⟨cur, f0, e1, e2, e3, e4, e5, e6⟩ := hE
    obtain ⟨f1, f2, rfl, e7⟩ := OWrows_take len e6
    refine ⟨g :: f1, ?_, ht.sub (fun b hb => ?_) ?_, ?_⟩
    · simp only [OWc]
      right
      refine ⟨g, e.cap, cur, f1, ?_, e1, e2, by rw [List.length_take]; omega, e4, rfl, e7⟩
      rw [hA', heb, List.length_take, Nat.min_eq_left h4]
      simp
    · rw [e5]
      simp only [List.cons_append, List.mem_cons, List.mem_append] at hb ⊢
      rcases hb with h | h | h <;> simp [h]
    · have := ht.fnd
      rw [e5, nodup_count] at this
      rw [nodup_count]
      intro a
      have := this a
      simp only [List.cons_append, List.count_cons, List.count_append] at this ⊢
      omega
    · intro b hb
      rw [e5]
      simp only [List.mem_cons, List.mem_append] at hb ⊢
      rcases hb with h | h <;> simp [h]
def Sub (fps' fps : Nat → List Nat) : Prop := ∀ n b, b ∈ fps' n → ∃ m, b ∈ fps m
theorem Sub.refl (fps : Nat → List Nat) : Sub fps fps := fun n b h => ⟨n, h⟩
theorem Sub.trans {a b c : Nat → List Nat} (h : Sub a b) (k : Sub b c) : Sub a c := fun n x hx => by
  obtain ⟨m, hm⟩ := h n x hx
  exact k m x hm
theorem Sub.take (fps : Nat → List Nat) (n : Nat) : Sub (updF fps n []) fps := fun m b hb => by
  by_cases hm : m = n
  · subst hm; rw [updF_same] at hb; cases hb
  · rw [updF_ne _ _ hm] at hb; exact ⟨m, hb⟩
theorem cn_ne (host j : Nat) : cn host j ≠ host := by unfold cn; omega
theorem toT_sound {o o' : Heap} {fps : Nat → List Nat} {fl : List Nat} {box : Bool} {host j : Nat} {kk : Option Nat} {x : AV} {c : T} (h : (toT box host j kk x).run o = some (c, o')) (hr : HRel tb F K o fps fl w) {u : Value} (hx : RelV tb F w x u) :
    isCell x = true ∧ ∃ f fps', OWc tb F w c u f ∧ HRel tb F K o' fps' (f ++ fl) w ∧ o' host = o host ∧ fps' host = fps host ∧ Sub fps' fps ∧ (∀ b, b ∈ f → ∃ n, b ∈ fps n) := by
  unfold toT at h
  split at h
  · rename_i y
    simp only [run_needb, run_ret2] at h
    obtain ⟨h1, rfl, rfl⟩ := h
    simp only [RelV] at hx
    exact ⟨by simpa [isCell] using h1, [], fps, by simp only [OWc]; exact ⟨hx, h1, trivial⟩, by simpa using hr, rfl, rfl, Sub.refl _, by simp⟩
  · rename_i k rows
    simp only [run_ret2] at h
    obtain ⟨rfl, rfl⟩ := h
    simp only [RelV] at hx
    exact ⟨rfl, [], fps, by simp only [OWc]; exact ⟨trivial, hx⟩, by simpa using hr, rfl, rfl, Sub.refl _, by simp⟩
  · rename_i k
    cases box with
    | true =>
      simp only [run_layb, run_ret2] at h
      obtain ⟨rfl, rfl⟩ := h
      simp only [RelV] at hx
      have hp := HRel.put (f := []) (by simpa using hr) (cn host j) (e := ⟨none, 0, k, false, []⟩) (by simp [OWe])
      refine ⟨rfl, [], _, by simp only [OWc]; exact ⟨trivial, none, by rw [hx], Nat.le_refl _, fun _ => rfl, .inl rfl⟩, by simpa using hp, upd_ne _ _ (Ne.symm (cn_ne host j)), updF_ne _ _ (Ne.symm (cn_ne host j)), fun m b hb => ?_, by simp⟩
      by_cases hm : m = cn host j
      · subst hm; rw [updF_same] at hb; cases hb
      · rw [updF_ne _ _ hm] at hb; exact ⟨m, hb⟩
    | false =>
      simp only [run_ret2] at h
      obtain ⟨rfl, rfl⟩ := h
      simp only [RelV] at hx
      exact ⟨rfl, [], fps, by simp only [OWc]; exact .inl ⟨trivial, hx, trivial⟩, by simpa using hr, rfl, rfl, Sub.refl _, by simp⟩
  · rename_i k' n b cap off len k
    cases box with
    | true =>
      simp only [run_askb, run_needb, run_layb, run_ret2, Bool.and_eq_true, decide_eq_true_eq, Bool.not_eq_true'] at h
      obtain ⟨e, h1, ⟨⟨⟨⟨q1, q2⟩, q3⟩, q4⟩, q5⟩, rfl, rfl⟩ := h
      simp only [RelV] at hx
      have ht := hr.take n
      have hE := hr.ents n e h1
      have hp := HRel.put ht (cn host j) hE
      refine ⟨rfl, [], _, by simp only [OWc]; exact ⟨trivial, hx⟩, by simpa using hp, ?_, ?_, fun m b hb => ?_, by simp⟩
      · rw [upd_ne _ _ (Ne.symm (cn_ne host j)), upd_ne _ _ (Ne.symm q4)]
      · rw [updF_ne _ _ (Ne.symm (cn_ne host j)), updF_ne _ _ (Ne.symm q4)]
      · by_cases hm : m = cn host j
        · subst hm; rw [updF_same] at hb; exact ⟨n, hb⟩
        · rw [updF_ne _ _ hm] at hb; exact Sub.take fps n m b hb
    | false =>
      simp only [run_askb, run_needb, run_layb, run_ret2, Bool.and_eq_true, decide_eq_true_eq, Bool.not_eq_true'] at h
      obtain ⟨e, h1, ⟨⟨⟨⟨⟨⟨⟨q1, q2⟩, q3⟩, q4⟩, q5⟩, q6⟩, q7⟩, q8⟩, rfl, rfl⟩ := h
      subst q3
      simp only [RelV] at hx
      obtain ⟨f, g1, g2, g3⟩ := move_sound hr h1 q1 q2 q7 q4 hx
      exact ⟨rfl, f, _, g1, g2, upd_ne _ _ (Ne.symm q6), updF_ne _ _ (Ne.symm q6), Sub.take _ _, fun b hb => ⟨n, g3 b hb⟩⟩
  · simp only [run_fail] at h
theorem toTs_sound {box : Bool} {host : Nat} : ∀ {j : Nat} {ks : List (Option Nat)} {xs : List AV} {cs : List T} {o o' : Heap} {fps : Nat → List Nat} {fl : List Nat} {us : List Value}, (toTs box host j ks xs).run o = some (cs, o') → HRel tb F K o fps fl w → RelL tb F w xs us →
    xs.all isCell = true ∧ cs.length = ks.length ∧ ∃ f fps', OWl tb F w cs us f ∧ HRel tb F K o' fps' (f ++ fl) w ∧ o' host = o host ∧ fps' host = fps host ∧ Sub fps' fps ∧ (∀ b, b ∈ f → ∃ n, b ∈ fps n)
  | j, [], [], cs, o, o', fps, fl, us, h, hr, hx => by
    simp only [toTs, run_ret2] at h
    obtain ⟨rfl, rfl⟩ := h
    simp only [RelL] at hx
    exact ⟨rfl, rfl, [], fps, by simp only [OWl]; exact ⟨hx, trivial⟩, by simpa using hr, rfl, rfl, Sub.refl _, by simp⟩
  | j, k :: ks, x :: xs, cs, o, o', fps, fl, us, h, hr, hx => by
    simp only [toTs] at h
    obtain ⟨c, o1, h1, h2⟩ := run_bind.1 h
    obtain ⟨cs', o2, h3, h4⟩ := run_bind.1 h2
    simp only [run_ret2] at h4
    obtain ⟨rfl, rfl⟩ := h4
    simp only [RelL] at hx
    obtain ⟨u, us', rfl, hx1, hx2⟩ := hx
    obtain ⟨i1, f1, fps1, g1, g2, g3, g4, g5, g6⟩ := toT_sound h1 hr hx1
    obtain ⟨i2, i3, f2, fps2, k1, k2, k3, k4, k5, k6⟩ := toTs_sound h3 g2 hx2
    refine ⟨by simp [i1, i2], by simp [i3], f1 ++ f2, fps2, ⟨u, us', f1, f2, rfl, rfl, g1, k1⟩, k2.perm ?_, k3.trans g3, k4.trans g4, k5.trans g5, fun b hb => ?_⟩
    · rw [← List.append_assoc]
      exact List.Perm.append_right _ List.perm_append_comm
    · rcases List.mem_append.1 hb with hb | hb
      · exact g6 b hb
      · obtain ⟨n, hn⟩ := k6 b hb
        exact g5 n b hn
  | j, [], _ :: _, cs, o, o', fps, fl, us, h, hr, hx => by simp [toTs, run_fail] at h
  | j, _ :: _, [], cs, o, o', fps, fl, us, h, hr, hx => by simp [toTs, run_fail] at h
theorem toT_cell {o o' : Heap} {box : Bool} {host j : Nat} {kk : Option Nat} {x : AV} {c : T} (h : (toT box host j kk x).run o = some (c, o')) : isCell x = true := by
  unfold toT at h
  split at h
  · simp only [run_needb] at h
    simpa [isCell] using h.1
  · rfl
  · rfl
  · rfl
  · simp only [run_fail] at h
theorem toTs_cell {box : Bool} {host : Nat} : ∀ {j : Nat} {ks : List (Option Nat)} {xs : List AV} {cs : List T} {o o' : Heap}, (toTs box host j ks xs).run o = some (cs, o') → xs.all isCell = true
  | j, [], [], cs, o, o', h => rfl
  | j, k :: ks, x :: xs, cs, o, o', h => by
    simp only [toTs] at h
    obtain ⟨c, o1, h1, h2⟩ := run_bind.1 h
    obtain ⟨cs', o2, h3, h4⟩ := run_bind.1 h2
    simp [toT_cell h1, toTs_cell h3]
  | j, [], _ :: _, cs, o, o', h => by simp [toTs, run_fail] at h
  | j, _ :: _, [], cs, o, o', h => by simp [toTs, run_fail] at h
structure Stp (fps : Nat → List Nat) (w w' : World) : Prop where
  os : w'.os = w.os
  tape : w'.tape = w.tape
  output : w'.output = w.output
  size : w.heap.size ≤ w'.heap.size
  blk : ∀ k, k < w.heap.size → (∀ n, k ∉ fps n) → w'.heap[k]? = w.heap[k]?
theorem Stp.refl (fps : Nat → List Nat) (w : World) : Stp fps w w := ⟨rfl, rfl, rfl, Nat.le_refl _, fun _ _ _ => rfl⟩
theorem Stp.alloc (fps : Nat → List Nat) (w : World) (ob : Obj) : Stp fps w (w.alloc ob) := ⟨rfl, rfl, rfl, by simp, fun k hk _ => Below.heap_alloc w ob k hk⟩
theorem Stp.setRow {fps : Nat → List Nat} {w : World} {g n : Nat} (h : g ∈ fps n) (cs : Array Value) : Stp fps w (w.setRow g cs) := ⟨rfl, rfl, rfl, by simp, fun k hk hn => setRow_other w g k cs (fun e => hn n (e ▸ h))⟩
def HRun (P : Program) (tb : Tab) (F K : Nat → Prop) (w : World) (fps : Nat → List Nat) (o : Oper) (a : Act) (x : AV) (o' : Heap) : Prop :=
  ∃ nx w' fps', (execOp a.eval o).run P w = .ok nx w' ∧ ((∃ u, nx = .value u ∧ RelV tb F w' x u) ∨ (nx = .skip ∧ x = .junk)) ∧ HRel tb F K o' fps' [] w' ∧ Stp fps w w'
theorem storeVar_run {t : TypeId} {n : Nat} (hs : szOf P t = some n) {u : Value} {us : List Value} (hu : u.cells = us.toArray) (hl : us.length = n) (h1 : ∀ v ∈ us, v.oneCell' = true) {g off : Nat} {cur : Array Value} {ty : TypeId} (hg : w.heap[g]? = some (.cells cur ty (0, 0))) (hfit : off + us.length ≤ cur.size) :
    (storeVar t ⟨g, off, none⟩ u).run P w = .ok () (w.setRow g (cur.toList.take off ++ us ++ cur.toList.drop (off + us.length)).toArray) := by
  have := run_storeCells_at P g off ty us 0 cur w hg (by simpa using hfit) h1
  simp only [Nat.add_zero] at this
  simp [storeVar, sizeOf_run hs, hu, hl, this]
theorem s_store {G : Gam} {d : Nat} {ch : Ch} {o : Oper} {t : Tm} {a : Act} {ks : List (Option Nat)} {p y : Od} (hc : chkOp P tb o.op (.store ks p y) = true) (r : RelT tb F w t a) {hp hp' : Heap} {fps : Nat → List Nat} (hr : HRel tb F K hp fps [] w) {x : AV}
    (h : (opSem G d ch t (.store ks p y)).run hp = some (x, hp')) : HRun P tb F K w fps o a x hp' := by
  unfold HRun execOp
  cases ho : o.op <;> rw [ho] at hc <;> simp only [chkOp, Bool.false_eq_true, Bool.and_eq_true, decide_eq_true_eq] at hc
  rename_i ty p' y'
  obtain ⟨⟨hsz, h1⟩, h2⟩ := hc
  have r1 := od_sound r h1
  have r2 := od_sound r h2
  simp only [opSem] at h
  split at h
  · rename_i n b k rr c hx
    rw [hx] at r1
    simp only [RelV] at r1
    obtain ⟨g, rfl, hpv⟩ := r1
    simp only [run_askb] at h
    obtain ⟨e0, he0, h⟩ := h
    obtain ⟨cs, o1, h3, h⟩ := run_bind.1 h
    simp only [run_askb, run_needb, run_layb, run_ret2, Bool.and_eq_true, decide_eq_true_eq] at h
    obtain ⟨e, he, ⟨⟨⟨q1, q2⟩, q3⟩, q4⟩, rfl, rfl⟩ := h
    obtain ⟨us, hus, hrl⟩ := flat_sound r2 (toTs_cell h3)
    obtain ⟨_, i2, f, fps1, k1, k2, k3, k4, k5, k6⟩ := toTs_sound h3 hr hrl
    have hlen := OWl_length k1
    have hE := k2.ents n e he
    have ht := k2.take n
    simp only [List.append_nil] at ht k2
    subst q2
    rw [i2] at hlen
    obtain ⟨cur, fp', w1, w2, w3, w4, w5, w6⟩ := entry_write hE q1 k1 q3 (by rw [i2]; exact q4) ht.fnd (fun hf => (k2.lv n g (by
      unfold OWe at hE; rw [q1] at hE; obtain ⟨_, _, _, _, _, _, e5, _⟩ := hE; rw [e5]; simp)).2 (k2.kp _ hf))
    have hst : Stp fps w (w.setRow g (cur.toList.take (rr * esz e.k + c) ++ us ++ cur.toList.drop (rr * esz e.k + c + us.length)).toArray) := by
      obtain ⟨m, hm⟩ := k5 n g w6
      exact Stp.setRow hm _
    have hgF : ¬ F g := fun hf => (k2.lv n g w6).2 (k2.kp _ hf)
    refine ⟨.skip, _, updF (updF fps1 n []) n fp', ?_, .inr ⟨rfl, rfl⟩, ?_, hst⟩
    · have := storeVar_run (P := P) hsz hus hlen (OWl_one k1) w1 w2
      simp only [hpv, Instr.storeAt, Instr.sureAddr, Sem.run_bind, Sem.run_pure, Result.andThen_ok, this]
    · have ht2 : HRel tb F K (upd o1 n none) (updF fps1 n []) (fp' ++ []) w := by
        refine ht.sub (fun b hb => ?_) (by simpa using w5)
        simp only [List.append_nil] at hb
        rcases w4 b hb with h | h <;> simp [h]
      have ht3 := ht2.step (w' := w.setRow g (cur.toList.take (rr * esz e.k + c) ++ us ++ cur.toList.drop (rr * esz e.k + c + us.length)).toArray) (by simp) (fun q hq => setRow_other w g q _ (fun e => hgF (e ▸ hq)))
        (fun m q hq => setRow_other w g q _ (fun e => by
          subst e
          by_cases hm : m = n
          · subst hm; rw [updF_same] at hq; cases hq
          · rw [updF_ne _ _ hm] at hq; exact k2.dj n m q (Ne.symm hm) w6 hq))
      have := ht3.put n w3
      have e1 : upd (upd o1 n none) n (some { e with rows := e.rows.set rr (setAt (e.rows.getD rr []) c cs) }) = upd o1 n (some { e with rows := e.rows.set rr (setAt (e.rows.getD rr []) c cs) }) := by
        funext m; simp only [upd]; split <;> rfl
      rwa [e1] at this
  · simp only [run_fail] at h
end Go.Proofs.AM
