/- Lemmas of the proof (Row), on an abstract machine. Conditions: none. -/
import Derived.Test.YtnnfdbdheoajgaaGreatRd
import Derived.ProofKit
set_option linter.unusedVariables false
namespace Go.Proofs.AM
open Go.RowKit Go.ChangeShapes
def okL {α : Type} (ok : α → Prop) (xs : List α) : Prop := xs.length ≤ maxLen ∧ ∀ x ∈ xs, ok x
def Dec {α : Type} (t : Ty) (f : α → List T) (ok : α → Prop) : Prop := ∀ cs, lF7 t cs → ∃ x, cs = f x ∧ ok x
theorem Rq7 : Dec .u8 eU8 (fun _ => True) := fun cs h => by
 simp only [lF7] at h
 obtain ⟨n, rfl, h1, h2⟩ := h
 refine ⟨UInt8.ofNat n.toNat, ?_, trivial⟩
 have : (UInt8.ofNat n.toNat).toNat = n.toNat := by rw [UInt8.toNat_ofNat']; omega
 simp only [eU8, this]
 rw [Int.toNat_of_nonneg h1]
theorem t77 {α : Type} {f : α → List T} {ok : α → Prop} : ∀ {rows : List (List T)}, (∀ r ∈ rows, ∃ x, r = f x ∧ ok x) → ∃ xs : List α, rows = xs.map f ∧ ∀ x ∈ xs, ok x
 | [], h => ⟨[], rfl, by simp⟩
 | r :: rs, h => by
  obtain ⟨x, rfl, hx⟩ := h r (by simp)
  obtain ⟨xs, rfl, hxs⟩ := t77 (rows := rs) fun r hr => h r (by simp [hr])
  refine ⟨x :: xs, rfl, fun y hy => ?_⟩
  rcases List.mem_cons.1 hy with rfl | hy
  ·exact hx
  ·exact hxs y hy
theorem Rr7 {α : Type} {t : Ty} {f : α → List T} {ok : α → Prop} (k : Nat) (hk : k % 16 = t.size) (hd : Dec t f ok) : Dec (.sl t) (eSl false k f) (okL ok) := fun cs h => by
 simp only [lF7] at h
 obtain ⟨rows, rfl, h1, h2⟩ := h
 obtain ⟨xs, rfl, hx⟩ := t77 fun r hr => hd r (h2 r hr)
 exact ⟨xs, by simp only [eSl, sl, hk], by simpa using h1, hx⟩
theorem Hl7 {tb : Tab} {F : Nat → Prop} {w : World} {rows : Rows} {u : Value} (h : ay7 tb F w (.ro rows) u) : ∃ A cap, ay7 tb F w (.raw A cap rows) u := by
 simp only [ay7] at h ⊢
 obtain ⟨A, cap, e, h1, h2, h3⟩ := h
 exact ⟨A, cap, h1, h2, e, h3⟩
def cAV : T → AV
 | .v x => .v x
 | .sl _ _ rows => .ro rows
 | _ => .junk
section
variable {P : Program} {tb : Tab} {w : World} {F : Nat → Prop} {H : Type} {enc : TypeId × Value → H} {base : Nat} {t : TypeId} {v : Value} {d : DataW H} {ps : List MemPlace}
theorem xF7 : ∀ {cs : List T} {us : List Value}, RCs F w cs us → aW7 tb F w (cs.map cAV) us
 | [], us, h => by simpa [RCs, aW7] using h
 | c :: cs, us, h => by
  simp only [RCs] at h
  obtain ⟨u, us', rfl, h1, h2⟩ := h
  simp only [List.map_cons, aW7]
  refine ⟨u, us', rfl, ?_, xF7 h2⟩
  cases c with
  | v x => simp only [ROc] at h1; simpa only [cAV, ay7] using h1.1
  | sl o k rows => simpa only [ROc, cAV, ay7] using h1
  | al n b cap off len k => simp only [ROc] at h1
  | bx k row => simp only [ROc] at h1
  | rw A cap rows => simp only [ROc] at h1
  | junk => simp [cAV, ay7]
theorem xG7 {v : Value} (h : ∀ cs, v ≠ .agg cs) : v.cells.toList = [v] := by
 cases v <;> first | rfl | exact absurd rfl (h _)
theorem Hm7 {α : Type} {e : Ty} {f : α → List T} {ok : α → Prop} (k : Nat) (he : k % 16 = e.size) (hd : Dec e f ok) (hk : xB7 P (.sl e) t = true) (hv : Value.okWide P w .any base t v) (h : DataW.Trod enc P w 0 (fun _ => true) true t v d ps) (hlt : ∀ x, x ∈ ps → F x.block) : ∃ xs : List α, okL ok xs ∧ ay7 tb F w (.ro (xs.map f)) v := by
 obtain ⟨n, hn⟩ := h
 have hs : ∀ cs, v ≠ .agg cs := by
  simp only [xB7] at hk
  split at hk
  ·rename_i gs ht
   unfold Value.okWide at hv
   rw [ht] at hv
   intro cs hc
   subst hc
   simp [Cell.okWide, Cell.ok, ht] at hv
  ·cases hk
 obtain ⟨ts, h1, h2⟩ := NO7 (F := F) (.sl e) hk hn hlt
 obtain ⟨xs, rfl, hx⟩ := Rr7 k he hd ts h1
 refine ⟨xs, hx, ?_⟩
 have := xF7 (tb := tb) h2
 rw [xG7 hs] at this
 simp only [eSl, sl, List.map_cons, List.map_nil, cAV, aW7] at this
 obtain ⟨u, us', h3, h4, _⟩ := this
 cases h3
 exact h4
theorem qA7 {W W' : World} (hl : laidOutB P = true) (hb : Below W.heap.size W W') {sp : Nat → Bool} : ∀ {ts : List TypeId} {vs : List Value} {ds : List (DataW H)} {ps : List MemPlace}, (∀ t, t ∈ ts → P.readableRec t = true ∧ t < P.types.size) → DataW.TrodAll enc P W 0 (fun _ => true) true ts vs ds ps → (∀ x ∈ ps, x.block < W.heap.size) → (∀ x ∈ ps, sp x.block = true) → DataW.TrodAll enc P W' 0 sp true ts vs ds ps
 | [], vs, ds, ps, hr, h, hlt, hs => by
  obtain ⟨rfl, rfl, rfl⟩ := trodAll_nil h
  exact rfl
 | t :: ts, vs, ds, ps, hr, h, hlt, hs => by
  obtain ⟨v, vs', d, ds', p, q, rfl, rfl, rfl, h1, h2⟩ := trodAll_cons h
  refine ⟨p, q, ?_, qA7 hl hb (fun t ht => hr t (by simp [ht])) h2 (fun x hx => hlt x (by simp [hx])) (fun x hx => hs x (by simp [hx])), rfl⟩
  exact WideElems.Trod_stays hl (hr t (by simp)).1 (hr t (by simp)).2 h1 (fun x hx => hb.same (hlt x (by simp [hx]))) (fun x hx => hs x (by simp [hx]))
theorem xH7 {c : Con} (hg : ah7 P tb c) (a : c.A) (b : c.B) (hv : c.val a = some b) (ha : c.ans a b = ⟨[(false, [.v (.bool true)])], []⟩) (hi : c.ins a = []) {W : World} {us : List Value} (hgl : GlOk tb (fun k => k < W.heap.size) W) (hrel : aW7 tb (fun k => k < W.heap.size) W ((c.args a).map (ow7 fun _ => (none, 0))) us) :
  Calls P (tb.fn c.f) us.toArray W fun e W' => e = .returned (.bool true) ∧ Below W.heap.size W W' := by
 have hg2 := hg.2 a b hv
 rw [hi] at hg2
 have h := hg2.2 (fun k => k < W.heap.size) W us [] [] (fun _ => (none, 0)) rfl (by simp) hrel rfl List.nodup_nil (by simp) (fun k h => h) hgl
 refine h.mono fun e W' he => ?_
 cases e with
 | returned v =>
  have he' : Mx7 tb (fun k => k < W.heap.size) W [] [] (c.ans a b) v W' := he
  obtain ⟨F1, vs, us, f1, f2, _, _, _, _, q2, rfl, _, _⟩ := he'.rel
  rw [ha] at q2
  simp only [sv7, F57, OWl, OWc] at q2
  obtain ⟨v, vs', u1, u2, g1, g2, rfl, rfl, rfl, ⟨⟨u, us', _, _, rfl, _, ⟨rfl, _⟩, rfl, _⟩, h5⟩, rfl, _⟩ := q2
  simp at h5
  subst h5
  exact ⟨rfl, he'.os, he'.tape, he'.output, he'.size, fun k hk => he'.blk k hk (by simp)⟩
 | _ => exact he.elim
theorem Aa7 {f : Func} {s : ChangeSpec} {apart fresh : Bool} {W W' : World} {args : Array Value} {ds gs : List (DataW H)} {before : List MemPlace} {t : TypeId} (ht : P.underlying t = some .bool) (hr : f.resultTypes = #[t])
  (hW : DataW.Whole enc P f.params.toList s.vars apart W args.toList ds gs before) (hb : Below W.heap.size W W') (hvars : s.vars = [])
  (hres : (s.fn H (ds ++ gs)).results = [.lit (.bool true)]) (hargs : (s.fn H (ds ++ gs)).args = ds) (hsv : (s.fn H (ds ++ gs)).vars = [])
  (hl : laidOutB P = true) (hp : ∀ t, t ∈ f.params.toList → P.readableRec t = true ∧ t < P.types.size) : s.post enc P f apart fresh false false W args (.bool true) W' := by
 have hlt : ∀ p ∈ before, p.block < W.heap.size := fun p hp => hW.lt p hp
 obtain ⟨p, q, hA, hV, rfl, hz, hn⟩ := hW
 have hq : q = [] := by
  rw [hvars] at hV
  exact (trodVars_none hV).2
 subst hq
 refine ⟨ds, gs, p ++ [], [], p, [], ⟨p, [], hA, hV, rfl, hz, hn⟩, ?_, ?_, ?_, World.keptBut_mono (fun x hx => ⟨hx, .inr (.inl (by simpa using hx))⟩) (hb.frame (· ∈ p ++ [])), fun h => by cases h⟩
 ·rw [hres, hr]
  exact trodAll_mk1 (shut_bool ht true)
 ·rw [hargs]
  exact qA7 hl hb hp hA (fun x hx => hlt x (by simp [hx])) (fun x hx => by simpa using hlt x (by simp [hx]))
 ·rw [hvars, hsv]
  exact rfl
end
end Go.Proofs.AM
