/- Lemmas of the proof (Row), on an abstract machine. Conditions: none. -/
import Derived.Test.YtnnfdbdheoajgabGreatRd
import Derived.ProofKit
set_option linter.unusedVariables false
namespace Go.Proofs.AM
open Go.RowKit Go.ChangeShapes
def rI (n : Int) : Prop := -9223372036854775808 ≤ n ∧ n ≤ 9223372036854775807
def okS (s : Str) : Prop := s.size ≤ maxLen
def okL {α : Type} (ok : α → Prop) (xs : List α) : Prop := xs.length ≤ maxLen ∧ ∀ x ∈ xs, ok x
def QH7 (p : Pt) : Prop := rI p.x ∧ rI p.y
def AX7 (t : Tag) : Prop := okS t.key ∧ okS t.val
def s07 (s : aR7) : Prop := rI s.kind ∧ okL QH7 s.pts
def uo7 (f : Feat) : Prop := okS f.id ∧ s07 f.shape ∧ okL AX7 f.tags
def kA7 (c : Commit) : Prop := okL rI c.up ∧ okL uo7 c.sheet ∧ okS c.note
def up7 (h : bg7) : Prop := okS h.name ∧ rI h.at_
def yq7 (r : az7) : Prop := okL kA7 r.commits ∧ okL up7 r.heads
def tPt : Ty := .st [.int, .int]
def Uk7 : Ty := .st [.str, .str]
def Dj7 : Ty := .st [.int, .sl tPt]
def Jg7 : Ty := .st [.str, Dj7, .sl Uk7]
def yr7 : Ty := .st [.sl .int, .sl Jg7, .str]
def Jh7 : Ty := .st [.str, .int]
def QI7 : Ty := .st [.sl yr7, .sl Jh7]
def Dec {α : Type} (t : Ty) (f : α → List T) (ok : α → Prop) : Prop := ∀ cs, g57 t cs → ∃ x, cs = f x ∧ ok x
theorem ys7 : Dec .int be7 rI := fun cs h => by
 simp only [g57] at h
 obtain ⟨n, rfl, h1, h2⟩ := h
 exact ⟨n, rfl, h1, h2⟩
theorem wi7 : Dec .str ca7 okS := fun cs h => by
 simp only [g57] at h
 obtain ⟨n, rfl, h1⟩ := h
 exact ⟨n, rfl, h1⟩
theorem uq7 {α : Type} {f : α → List T} {ok : α → Prop} : ∀ {rows : List (List T)}, (∀ r ∈ rows, ∃ x, r = f x ∧ ok x) → ∃ xs : List α, rows = xs.map f ∧ ∀ x ∈ xs, ok x
 | [], h => ⟨[], rfl, by simp⟩
 | r :: rs, h => by
  obtain ⟨x, rfl, hx⟩ := h r (by simp)
  obtain ⟨xs, rfl, hxs⟩ := uq7 (rows := rs) fun r hr => h r (by simp [hr])
  refine ⟨x :: xs, rfl, fun y hy => ?_⟩
  rcases List.mem_cons.1 hy with rfl | hy
  ·exact hx
  ·exact hxs y hy
theorem HC7 {α : Type} {t : Ty} {f : α → List T} {ok : α → Prop} (k : Nat) (hk : k % 16 = t.size) (hd : Dec t f ok) : Dec (.sl t) (eSl false k f) (okL ok) := fun cs h => by
 simp only [g57] at h
 obtain ⟨rows, rfl, h1, h2⟩ := h
 obtain ⟨xs, rfl, hx⟩ := uq7 fun r hr => hd r (h2 r hr)
 exact ⟨xs, by simp only [eSl, sl, hk], by simpa using h1, hx⟩
theorem Ji7 {a b : Ty} {cs : List T} (h : g57 (.st [a, b]) cs) : ∃ x y, cs = x ++ y ∧ g57 a x ∧ g57 b y := by
 simp only [g57, z27] at h
 obtain ⟨x, _, rfl, h1, y, _, rfl, h2, rfl⟩ := h
 exact ⟨x, y, by simp, h1, h2⟩
theorem Ul7 {a b c : Ty} {cs : List T} (h : g57 (.st [a, b, c]) cs) : ∃ x y z, cs = x ++ (y ++ z) ∧ g57 a x ∧ g57 b y ∧ g57 c z := by
 simp only [g57, z27] at h
 obtain ⟨x, _, rfl, h1, y, _, rfl, h2, z, _, rfl, h3, rfl⟩ := h
 exact ⟨x, y, z, by simp, h1, h2, h3⟩
theorem UP7 : Dec tPt ePt QH7 := fun cs h => by
 obtain ⟨x, y, rfl, h1, h2⟩ := Ji7 h
 obtain ⟨a, rfl, ha⟩ := ys7 _ h1
 obtain ⟨b, rfl, hb⟩ := ys7 _ h2
 exact ⟨⟨a, b⟩, rfl, ha, hb⟩
theorem QJ7 : Dec Uk7 aX7 AX7 := fun cs h => by
 obtain ⟨x, y, rfl, h1, h2⟩ := Ji7 h
 obtain ⟨a, rfl, ha⟩ := wi7 _ h1
 obtain ⟨b, rfl, hb⟩ := wi7 _ h2
 exact ⟨⟨a, b⟩, rfl, ha, hb⟩
theorem Jj7 : Dec Jh7 aw7 up7 := fun cs h => by
 obtain ⟨x, y, rfl, h1, h2⟩ := Ji7 h
 obtain ⟨a, rfl, ha⟩ := wi7 _ h1
 obtain ⟨b, rfl, hb⟩ := ys7 _ h2
 exact ⟨⟨a, b⟩, rfl, ha, hb⟩
theorem EZ7 : Dec Dj7 (hZ7 false) s07 := fun cs h => by
 obtain ⟨x, y, rfl, h1, h2⟩ := Ji7 h
 obtain ⟨a, rfl, ha⟩ := ys7 _ h1
 obtain ⟨b, rfl, hb⟩ := HC7 66 rfl UP7 _ h2
 exact ⟨⟨a, b⟩, rfl, ha, hb⟩
theorem Jk7 : Dec Jg7 (am7 false) uo7 := fun cs h => by
 obtain ⟨x, y, z, rfl, h1, h2, h3⟩ := Ul7 h
 obtain ⟨a, rfl, ha⟩ := wi7 _ h1
 obtain ⟨b, rfl, hb⟩ := EZ7 _ h2
 obtain ⟨c, rfl, hc⟩ := HC7 82 rfl QJ7 _ h3
 exact ⟨⟨a, b, c⟩, rfl, ha, hb, hc⟩
theorem AY7 : Dec yr7 (af7 false) kA7 := fun cs h => by
 obtain ⟨x, y, z, rfl, h1, h2, h3⟩ := Ul7 h
 obtain ⟨a, rfl, ha⟩ := HC7 17 rfl ys7 _ h1
 obtain ⟨b, rfl, hb⟩ := HC7 100 rfl Jk7 _ h2
 obtain ⟨c, rfl, hc⟩ := wi7 _ h3
 exact ⟨⟨a, b, c⟩, rfl, ha, hb, hc⟩
theorem Jl7 : Dec QI7 (j47 false) yq7 := fun cs h => by
 obtain ⟨x, y, rfl, h1, h2⟩ := Ji7 h
 obtain ⟨a, rfl, ha⟩ := HC7 115 rfl AY7 _ h1
 obtain ⟨b, rfl, hb⟩ := HC7 130 rfl Jj7 _ h2
 exact ⟨⟨a, b⟩, rfl, ha, hb⟩
def cAV : T → AV
 | .v x => .v x
 | .sl _ _ rows => .ro rows
 | _ => .junk
section
variable {P : Program} {tb : Tab} {w : World} {F : Nat → Prop} {H : Type} {enc : TypeId × Value → H} {base : Nat} {t : TypeId} {v : Value} {d : DataW H} {ps : List MemPlace}
theorem s17 : ∀ {cs : List T} {us : List Value}, RCs F w cs us → aS7 tb F w (cs.map cAV) us
 | [], us, h => by simpa [RCs, aS7] using h
 | c :: cs, us, h => by
  simp only [RCs] at h
  obtain ⟨u, us', rfl, h1, h2⟩ := h
  simp only [List.map_cons, aS7]
  refine ⟨u, us', rfl, ?_, s17 h2⟩
  cases c with
  | v x => simp only [ROc] at h1; simpa only [cAV, ax7] using h1.1
  | sl o k rows => simpa only [ROc, cAV, ax7] using h1
  | al n b cap off len k => simp only [ROc] at h1
  | bx k row => simp only [ROc] at h1
  | rw A cap rows => simp only [ROc] at h1
  | junk => simp [cAV, ax7]
theorem yt7 {v : Value} (h : ∀ cs, v ≠ .agg cs) : v.cells.toList = [v] := by
 cases v <;> first | rfl | exact absurd rfl (h _)
theorem Jm7 {α : Type} {fs : List Ty} {f : α → List T} {ok : α → Prop} (hd : Dec (.st fs) f ok) (hk : um7 P (.st fs) t = true) (hv : Value.okWide P w .any base t v) (h : DataW.Trod enc P w 0 (fun _ => true) true t v d ps) (hlt : ∀ x, x ∈ ps → F x.block) : ∃ x, ok x ∧ ax7 tb F w (.agg ((f x).map cAV)) v := by
 obtain ⟨n, hn⟩ := h
 obtain ⟨ts, h1, h2⟩ := Pr7 (F := F) (.st fs) hk hn hlt
 obtain ⟨x, rfl, hx⟩ := hd ts h1
 have hs : ∃ cs, v = .agg cs := by
  simp only [um7] at hk
  split at hk
  ·rename_i gs ht
   unfold Value.okWide at hv
   rw [ht] at hv
   obtain ⟨cs, h, _⟩ := hv
   exact ⟨cs, h⟩
  ·cases hk
 obtain ⟨cs, rfl⟩ := hs
 refine ⟨x, hx, ?_⟩
 simp only [ax7]
 exact ⟨cs.toList, by simp, s17 h2⟩
theorem QK7 {α : Type} {e : Ty} {f : α → List T} {ok : α → Prop} (hd : Dec e f ok) (he : e = .int ∨ e = .bool ∨ e = .str) (hk : um7 P e t = true) (hv : Value.okWide P w .any base t v) (h : DataW.Trod enc P w 0 (fun _ => true) true t v d ps) (hlt : ∀ x, x ∈ ps → F x.block) : ∃ x : α, ok x ∧ aS7 tb F w ((f x).map cAV) [v] := by
 obtain ⟨n, hn⟩ := h
 have hs : ∀ cs, v ≠ .agg cs := by
  intro cs hc
  subst hc
  unfold Value.okWide at hv
  rcases he with rfl | rfl | rfl <;>
  ·simp only [um7] at hk
   split at hk
   ·rename_i ht
    rw [ht] at hv
    simp [Cell.okWide, Cell.ok, ht] at hv
   ·cases hk
 obtain ⟨ts, h1, h2⟩ := Pr7 (F := F) e hk hn hlt
 obtain ⟨x, rfl, hx⟩ := hd ts h1
 refine ⟨x, hx, ?_⟩
 have := s17 (tb := tb) h2
 rwa [yt7 hs] at this
theorem s27 (hk : um7 P .str t = true) (hv : Value.okWide P w .any base t v) (h : DataW.Trod enc P w 0 (fun _ => true) true t v d ps) (hlt : ∀ x, x ∈ ps → F x.block) : ∃ n, okS n ∧ ax7 tb F w (.v (.string n)) v := by
 obtain ⟨x, h1, h2⟩ := QK7 (tb := tb) wi7 (.inr (.inr rfl)) hk hv h hlt
 simp only [ca7, List.map_cons, List.map_nil, cAV, aS7] at h2
 obtain ⟨u, us', h3, h4, _⟩ := h2
 cases h3
 exact ⟨x, h1, h4⟩
theorem qv7 {W W' : World} (hl : laidOutB P = true) (hb : Below W.heap.size W W') {sp : Nat → Bool} : ∀ {ts : List TypeId} {vs : List Value} {ds : List (DataW H)} {ps : List MemPlace}, (∀ t, t ∈ ts → P.readableRec t = true ∧ t < P.types.size) → DataW.TrodAll enc P W 0 (fun _ => true) true ts vs ds ps → (∀ x ∈ ps, x.block < W.heap.size) → (∀ x ∈ ps, sp x.block = true) → DataW.TrodAll enc P W' 0 sp true ts vs ds ps
 | [], vs, ds, ps, hr, h, hlt, hs => by
  obtain ⟨rfl, rfl, rfl⟩ := trodAll_nil h
  exact rfl
 | t :: ts, vs, ds, ps, hr, h, hlt, hs => by
  obtain ⟨v, vs', d, ds', p, q, rfl, rfl, rfl, h1, h2⟩ := trodAll_cons h
  refine ⟨p, q, ?_, qv7 hl hb (fun t ht => hr t (by simp [ht])) h2 (fun x hx => hlt x (by simp [hx])) (fun x hx => hs x (by simp [hx])), rfl⟩
  exact WideElems.Trod_stays hl (hr t (by simp)).1 (hr t (by simp)).2 h1 (fun x hx => hb.same (hlt x (by simp [hx]))) (fun x hx => hs x (by simp [hx]))
theorem yu7 {c : Con} (hg : ag7 P tb c) (a : c.A) (b : c.B) (hv : c.val a = some b) (ha : c.ans a b = ⟨[(false, [.v (.bool true)])], []⟩) (hi : c.ins a = []) {W : World} {us : List Value} (hgl : GlOk tb (fun k => k < W.heap.size) W) (hrel : aS7 tb (fun k => k < W.heap.size) W ((c.args a).map (on7 fun _ => (none, 0))) us) :
  Calls P (tb.fn c.f) us.toArray W fun e W' => e = .returned (.bool true) ∧ Below W.heap.size W W' := by
 have hg2 := hg.2 a b hv
 rw [hi] at hg2
 have h := hg2.2 (fun k => k < W.heap.size) W us [] [] (fun _ => (none, 0)) rfl (by simp) hrel rfl List.nodup_nil (by simp) (fun k h => h) hgl
 refine h.mono fun e W' he => ?_
 cases e with
 | returned v =>
  have he' : Pj7 tb (fun k => k < W.heap.size) W [] [] (c.ans a b) v W' := he
  obtain ⟨F1, vs, us, f1, f2, _, _, _, _, q2, rfl, _, _⟩ := he'.rel
  rw [ha] at q2
  simp only [sG7, HT7, OWl, OWc] at q2
  obtain ⟨v, vs', u1, u2, g1, g2, rfl, rfl, rfl, ⟨⟨u, us', _, _, rfl, _, ⟨rfl, _⟩, rfl, _⟩, h5⟩, rfl, _⟩ := q2
  simp at h5
  subst h5
  exact ⟨rfl, he'.os, he'.tape, he'.output, he'.size, fun k hk => he'.blk k hk (by simp)⟩
 | _ => exact he.elim
theorem AZ7 {f : Func} {s : ChangeSpec} {apart fresh : Bool} {W W' : World} {args : Array Value} {ds gs : List (DataW H)} {before : List MemPlace} {t : TypeId} (ht : P.underlying t = some .bool) (hr : f.resultTypes = #[t])
  (hW : DataW.Whole enc P f.params.toList s.vars apart W args.toList ds gs before) (hb : Below W.heap.size W W') (hvars : s.vars = [])
  (hres : (s.fn H (ds ++ gs)).results = [.lit (.bool true)]) (hargs : (s.fn H (ds ++ gs)).args = ds) (hsv : (s.fn H (ds ++ gs)).vars = [])
  (hl : laidOutB P = true) (hp : ∀ t, t ∈ f.params.toList → P.readableRec t = true ∧ t < P.types.size) : s.post enc P f apart fresh false false W args (.bool true) W' := by
 have hlt : ∀ p ∈ before, p.block < W.heap.size := fun p hp => hW.lt p hp
 obtain ⟨p, q, hA, hV, rfl, hz, hn⟩ := hW
 have hq : q = [] := by
  rw [hvars] at hV
  exact (trodVars_none hV).2
 subst hq
 refine ⟨ds, gs, p ++ [], [], p, [], ⟨p, [], hA, hV, rfl, hz, hn⟩, ?_, ?_, ?_, World.keptBut_mono (fun x hx => ⟨hx, .inr (.inl (by simpa using hx))⟩) (hb.frame (· ∈ p ++ [])), fun h => by cases h⟩
 ·rw [hres, hr]
  exact trodAll_mk1 (shut_bool ht true)
 ·rw [hargs]
  exact qv7 hl hb hp hA (fun x hx => hlt x (by simp [hx])) (fun x hx => by simpa using hlt x (by simp [hx]))
 ·rw [hvars, hsv]
  exact rfl
end
end Go.Proofs.AM
