/- A part of the proof of 'FnExactPackSizeSaid' (Row): lemmas on an abstract machine for the program's functions. Conditions: none. -/
import Derived.Test.YthimhbjbpeheoaaRd
import Derived.ProofKit
set_option linter.unusedVariables false
namespace Go.Proofs.AM
open Go.RowKit Go.ChangeShapes
def rI (n : Int) : Prop := -9223372036854775808 ≤ n ∧ n ≤ 9223372036854775807
def okS (s : Str) : Prop := s.size ≤ maxLen
def okL {α : Type} (ok : α → Prop) (xs : List α) : Prop := xs.length ≤ maxLen ∧ ∀ x ∈ xs, ok x
def okPt (p : Pt) : Prop := rI p.x ∧ rI p.y
def okTag (t : Tag) : Prop := okS t.key ∧ okS t.val
def okShape (s : Shape) : Prop := rI s.kind ∧ okL okPt s.pts
def okFeat (f : Feat) : Prop := okS f.id ∧ okShape f.shape ∧ okL okTag f.tags
def okChange (c : Change) : Prop := okS c.id ∧ okFeat c.was ∧ okFeat c.now
def okEntry (e : Entry) : Prop := okL rI e.up ∧ okS e.note ∧ okL okChange e.diff
def okCommit (c : Commit) : Prop := okL rI c.up ∧ okL okFeat c.sheet ∧ okS c.note
def okHead (h : Head) : Prop := okS h.name ∧ rI h.at_
def okRepo (r : Repo) : Prop := okL okCommit r.commits ∧ okL okHead r.heads
def tPt : Ty := .st [.int, .int]
def tTag : Ty := .st [.str, .str]
def tShape : Ty := .st [.int, .sl tPt]
def tFeat : Ty := .st [.str, tShape, .sl tTag]
def tChange : Ty := .st [.str, .bool, tFeat, .bool, tFeat]
def tEntry : Ty := .st [.sl .int, .str, .sl tChange]
def tCommit : Ty := .st [.sl .int, .sl tFeat, .str]
def tHead : Ty := .st [.str, .int]
def tRepo : Ty := .st [.sl tCommit, .sl tHead]
def Dec {α : Type} (t : Ty) (f : α → List T) (ok : α → Prop) : Prop := ∀ cs, FitT t cs → ∃ x, cs = f x ∧ ok x
theorem d_int : Dec .int eInt rI := fun cs h => by
  simp only [FitT] at h
  obtain ⟨n, rfl, h1, h2⟩ := h
  exact ⟨n, rfl, h1, h2⟩
theorem d_bool : Dec .bool eBool (fun _ => True) := fun cs h => by
  simp only [FitT] at h
  obtain ⟨n, rfl⟩ := h
  exact ⟨n, rfl, trivial⟩
theorem d_str : Dec .str eStr okS := fun cs h => by
  simp only [FitT] at h
  obtain ⟨n, rfl, h1⟩ := h
  exact ⟨n, rfl, h1⟩
theorem list_dec {α : Type} {f : α → List T} {ok : α → Prop} : ∀ {rows : List (List T)}, (∀ r ∈ rows, ∃ x, r = f x ∧ ok x) → ∃ xs : List α, rows = xs.map f ∧ ∀ x ∈ xs, ok x
  | [], h => ⟨[], rfl, by simp⟩
  | r :: rs, h => by
    obtain ⟨x, rfl, hx⟩ := h r (by simp)
    obtain ⟨xs, rfl, hxs⟩ := list_dec (rows := rs) fun r hr => h r (by simp [hr])
    refine ⟨x :: xs, rfl, fun y hy => ?_⟩
    rcases List.mem_cons.1 hy with rfl | hy
    · exact hx
    · exact hxs y hy
theorem d_sl {α : Type} {t : Ty} {f : α → List T} {ok : α → Prop} (k : Nat) (hk : k % 16 = t.size) (hd : Dec t f ok) : Dec (.sl t) (eSl false k f) (okL ok) := fun cs h => by
  simp only [FitT] at h
  obtain ⟨rows, rfl, h1, h2⟩ := h
  obtain ⟨xs, rfl, hx⟩ := list_dec fun r hr => hd r (h2 r hr)
  exact ⟨xs, by simp only [eSl, sl, hk], by simpa using h1, hx⟩
theorem fit2 {a b : Ty} {cs : List T} (h : FitT (.st [a, b]) cs) : ∃ x y, cs = x ++ y ∧ FitT a x ∧ FitT b y := by
  simp only [FitT, FitF] at h
  obtain ⟨x, _, rfl, h1, y, _, rfl, h2, rfl⟩ := h
  exact ⟨x, y, by simp, h1, h2⟩
theorem fit3 {a b c : Ty} {cs : List T} (h : FitT (.st [a, b, c]) cs) : ∃ x y z, cs = x ++ (y ++ z) ∧ FitT a x ∧ FitT b y ∧ FitT c z := by
  simp only [FitT, FitF] at h
  obtain ⟨x, _, rfl, h1, y, _, rfl, h2, z, _, rfl, h3, rfl⟩ := h
  exact ⟨x, y, z, by simp, h1, h2, h3⟩
theorem d_Pt : Dec tPt ePt okPt := fun cs h => by
  obtain ⟨x, y, rfl, h1, h2⟩ := fit2 h
  obtain ⟨a, rfl, ha⟩ := d_int _ h1
  obtain ⟨b, rfl, hb⟩ := d_int _ h2
  exact ⟨⟨a, b⟩, rfl, ha, hb⟩
theorem d_Tag : Dec tTag eTag okTag := fun cs h => by
  obtain ⟨x, y, rfl, h1, h2⟩ := fit2 h
  obtain ⟨a, rfl, ha⟩ := d_str _ h1
  obtain ⟨b, rfl, hb⟩ := d_str _ h2
  exact ⟨⟨a, b⟩, rfl, ha, hb⟩
theorem d_Head : Dec tHead eHead okHead := fun cs h => by
  obtain ⟨x, y, rfl, h1, h2⟩ := fit2 h
  obtain ⟨a, rfl, ha⟩ := d_str _ h1
  obtain ⟨b, rfl, hb⟩ := d_int _ h2
  exact ⟨⟨a, b⟩, rfl, ha, hb⟩
theorem d_Shape : Dec tShape (eShape false) okShape := fun cs h => by
  obtain ⟨x, y, rfl, h1, h2⟩ := fit2 h
  obtain ⟨a, rfl, ha⟩ := d_int _ h1
  obtain ⟨b, rfl, hb⟩ := d_sl 66 rfl d_Pt _ h2
  exact ⟨⟨a, b⟩, rfl, ha, hb⟩
theorem d_Feat : Dec tFeat (eFeat false) okFeat := fun cs h => by
  obtain ⟨x, y, z, rfl, h1, h2, h3⟩ := fit3 h
  obtain ⟨a, rfl, ha⟩ := d_str _ h1
  obtain ⟨b, rfl, hb⟩ := d_Shape _ h2
  obtain ⟨c, rfl, hc⟩ := d_sl 82 rfl d_Tag _ h3
  exact ⟨⟨a, b, c⟩, rfl, ha, hb, hc⟩
theorem d_Change : Dec tChange (eChange false) okChange := fun cs h => by
  simp only [tChange, FitT, FitF] at h
  obtain ⟨x, _, rfl, h1, y, _, rfl, h2, z, _, rfl, h3, u, _, rfl, h4, v, _, rfl, h5, rfl⟩ := h
  obtain ⟨a, rfl, ha⟩ := d_str x (by simp only [FitT]; exact h1)
  obtain ⟨b, rfl, hb⟩ := d_bool y (by simp only [FitT]; exact h2)
  obtain ⟨c, rfl, hc⟩ := d_Feat _ h3
  obtain ⟨d, rfl, hd⟩ := d_bool u (by simp only [FitT]; exact h4)
  obtain ⟨e, rfl, he⟩ := d_Feat _ h5
  exact ⟨⟨a, b, c, d, e⟩, rfl, ha, hc, he⟩
theorem d_Entry : Dec tEntry (eEntry false) okEntry := fun cs h => by
  obtain ⟨x, y, z, rfl, h1, h2, h3⟩ := fit3 h
  obtain ⟨a, rfl, ha⟩ := d_sl 17 rfl d_int _ h1
  obtain ⟨b, rfl, hb⟩ := d_str _ h2
  obtain ⟨c, rfl, hc⟩ := d_sl 155 rfl d_Change _ h3
  exact ⟨⟨a, b, c⟩, rfl, ha, hb, hc⟩
theorem d_Commit : Dec tCommit (eCommit false) okCommit := fun cs h => by
  obtain ⟨x, y, z, rfl, h1, h2, h3⟩ := fit3 h
  obtain ⟨a, rfl, ha⟩ := d_sl 17 rfl d_int _ h1
  obtain ⟨b, rfl, hb⟩ := d_sl 100 rfl d_Feat _ h2
  obtain ⟨c, rfl, hc⟩ := d_str _ h3
  exact ⟨⟨a, b, c⟩, rfl, ha, hb, hc⟩
theorem d_Repo : Dec tRepo (eRepo false) okRepo := fun cs h => by
  obtain ⟨x, y, rfl, h1, h2⟩ := fit2 h
  obtain ⟨a, rfl, ha⟩ := d_sl 115 rfl d_Commit _ h1
  obtain ⟨b, rfl, hb⟩ := d_sl 130 rfl d_Head _ h2
  exact ⟨⟨a, b⟩, rfl, ha, hb⟩
def cAV : T → AV
  | .v x => .v x
  | .sl _ _ rows => .ro rows
  | _ => .junk
section
variable {P : Program} {tb : Tab} {w : World} {F : Nat → Prop} {H : Type} {enc : TypeId × Value → H} {base : Nat} {t : TypeId} {v : Value} {d : DataW H} {ps : List MemPlace}
theorem rcs_rel : ∀ {cs : List T} {us : List Value}, RCs F w cs us → RelL tb F w (cs.map cAV) us
  | [], us, h => by simpa [RCs, RelL] using h
  | c :: cs, us, h => by
    simp only [RCs] at h
    obtain ⟨u, us', rfl, h1, h2⟩ := h
    simp only [List.map_cons, RelL]
    refine ⟨u, us', rfl, ?_, rcs_rel h2⟩
    cases c with
    | v x => simp only [ROc] at h1; simpa only [cAV, RelV] using h1.1
    | sl o k rows => simpa only [ROc, cAV, RelV] using h1
    | al n b cap off len k => simp only [ROc] at h1
    | junk => simp [cAV, RelV]
theorem cells_one {v : Value} (h : ∀ cs, v ≠ .agg cs) : v.cells.toList = [v] := by
  cases v <;> first | rfl | exact absurd rfl (h _)
theorem arg_st {α : Type} {fs : List Ty} {f : α → List T} {ok : α → Prop} (hd : Dec (.st fs) f ok) (hk : tyOk P (.st fs) t = true) (hv : Value.okWide P w .any base t v) (h : DataW.Trod enc P w 0 (fun _ => true) true t v d ps) (hlt : ∀ x, x ∈ ps → F x.block) : ∃ x, ok x ∧ RelV tb F w (.agg ((f x).map cAV)) v := by
  obtain ⟨n, hn⟩ := h
  obtain ⟨ts, h1, h2⟩ := read (F := F) (.st fs) hk hn hlt
  obtain ⟨x, rfl, hx⟩ := hd ts h1
  have hs : ∃ cs, v = .agg cs := by
    simp only [tyOk] at hk
    split at hk
    · rename_i gs ht
      unfold Value.okWide at hv
      rw [ht] at hv
      obtain ⟨cs, h, _⟩ := hv
      exact ⟨cs, h⟩
    · cases hk
  obtain ⟨cs, rfl⟩ := hs
  refine ⟨x, hx, ?_⟩
  simp only [RelV]
  exact ⟨cs.toList, by simp, rcs_rel h2⟩
theorem arg_sl {α : Type} {e : Ty} {f : α → List T} {ok : α → Prop} (k : Nat) (he : k % 16 = e.size) (hd : Dec e f ok) (hk : tyOk P (.sl e) t = true) (hv : Value.okWide P w .any base t v) (h : DataW.Trod enc P w 0 (fun _ => true) true t v d ps) (hlt : ∀ x, x ∈ ps → F x.block) : ∃ xs : List α, okL ok xs ∧ RelV tb F w (.ro (xs.map f)) v := by
  obtain ⟨n, hn⟩ := h
  have hs : ∀ cs, v ≠ .agg cs := by
    simp only [tyOk] at hk
    split at hk
    · rename_i gs ht
      unfold Value.okWide at hv
      rw [ht] at hv
      intro cs hc
      subst hc
      simp [Cell.okWide, Cell.ok, ht] at hv
    · cases hk
  obtain ⟨ts, h1, h2⟩ := read (F := F) (.sl e) hk hn hlt
  obtain ⟨xs, rfl, hx⟩ := d_sl k he hd ts h1
  refine ⟨xs, hx, ?_⟩
  have := rcs_rel (tb := tb) h2
  rw [cells_one hs] at this
  simp only [eSl, sl, List.map_cons, List.map_nil, cAV, RelL] at this
  obtain ⟨u, us', h3, h4, _⟩ := this
  cases h3
  exact h4
theorem arg_1 {α : Type} {e : Ty} {f : α → List T} {ok : α → Prop} (hd : Dec e f ok) (he : e = .int ∨ e = .bool ∨ e = .str) (hk : tyOk P e t = true) (hv : Value.okWide P w .any base t v) (h : DataW.Trod enc P w 0 (fun _ => true) true t v d ps) (hlt : ∀ x, x ∈ ps → F x.block) : ∃ x : α, ok x ∧ RelL tb F w ((f x).map cAV) [v] := by
  obtain ⟨n, hn⟩ := h
  have hs : ∀ cs, v ≠ .agg cs := by
    intro cs hc
    subst hc
    unfold Value.okWide at hv
    rcases he with rfl | rfl | rfl <;>
    · simp only [tyOk] at hk
      split at hk
      · rename_i ht
        rw [ht] at hv
        simp [Cell.okWide, Cell.ok, ht] at hv
      · cases hk
  obtain ⟨ts, h1, h2⟩ := read (F := F) e hk hn hlt
  obtain ⟨x, rfl, hx⟩ := hd ts h1
  refine ⟨x, hx, ?_⟩
  have := rcs_rel (tb := tb) h2
  rwa [cells_one hs] at this
theorem arg_int (hk : tyOk P .int t = true) (hv : Value.okWide P w .any base t v) (h : DataW.Trod enc P w 0 (fun _ => true) true t v d ps) (hlt : ∀ x, x ∈ ps → F x.block) : ∃ n, rI n ∧ RelV tb F w (.v (.int .i64 n)) v := by
  obtain ⟨x, h1, h2⟩ := arg_1 (tb := tb) d_int (.inl rfl) hk hv h hlt
  simp only [eInt, List.map_cons, List.map_nil, cAV, RelL] at h2
  obtain ⟨u, us', h3, h4, _⟩ := h2
  cases h3
  exact ⟨x, h1, h4⟩
theorem arg_str (hk : tyOk P .str t = true) (hv : Value.okWide P w .any base t v) (h : DataW.Trod enc P w 0 (fun _ => true) true t v d ps) (hlt : ∀ x, x ∈ ps → F x.block) : ∃ n, okS n ∧ RelV tb F w (.v (.string n)) v := by
  obtain ⟨x, h1, h2⟩ := arg_1 (tb := tb) d_str (.inr (.inr rfl)) hk hv h hlt
  simp only [eStr, List.map_cons, List.map_nil, cAV, RelL] at h2
  obtain ⟨u, us', h3, h4, _⟩ := h2
  cases h3
  exact ⟨x, h1, h4⟩
theorem args_stay {W W' : World} (hl : laidOutB P = true) (hb : Below W.heap.size W W') {sp : Nat → Bool} : ∀ {ts : List TypeId} {vs : List Value} {ds : List (DataW H)} {ps : List MemPlace}, (∀ t, t ∈ ts → P.readableRec t = true ∧ t < P.types.size) → DataW.TrodAll enc P W 0 (fun _ => true) true ts vs ds ps → (∀ x ∈ ps, x.block < W.heap.size) → (∀ x ∈ ps, sp x.block = true) → DataW.TrodAll enc P W' 0 sp true ts vs ds ps
  | [], vs, ds, ps, hr, h, hlt, hs => by
    obtain ⟨rfl, rfl, rfl⟩ := trodAll_nil h
    exact rfl
  | t :: ts, vs, ds, ps, hr, h, hlt, hs => by
    obtain ⟨v, vs', d, ds', p, q, rfl, rfl, rfl, h1, h2⟩ := trodAll_cons h
    refine ⟨p, q, ?_, args_stay hl hb (fun t ht => hr t (by simp [ht])) h2 (fun x hx => hlt x (by simp [hx])) (fun x hx => hs x (by simp [hx])), rfl⟩
    exact WideElems.Trod_stays hl (hr t (by simp)).1 (hr t (by simp)).2 h1 (fun x hx => hb.same (hlt x (by simp [hx]))) (fun x hx => hs x (by simp [hx]))
theorem law_calls {c : Con} (hg : GoodC P tb c) (a : c.A) (b : c.B) (hv : c.val a = some b) (ha : c.ans b = ⟨[(false, [.v (.bool true)])], []⟩) {W : World} {us : List Value} (hrel : RelL tb (fun k => k < W.heap.size) W ((c.args a).map (parA fun _ => (none, 0))) us) :
    Calls P (tb.fn c.f) us.toArray W fun e W' => e = .returned (.bool true) ∧ Below W.heap.size W W' := by
  have h := (hg.2 a b hv).2 (fun k => k < W.heap.size) W us [] [] (fun _ => (none, 0)) rfl (by simp) hrel rfl List.nodup_nil (by simp) (fun k h => h)
  refine h.mono fun e W' he => ?_
  cases e with
  | returned v =>
    have he' : Post tb (fun k => k < W.heap.size) W [] [] (c.ans b) v W' := he
    obtain ⟨F1, vs, us, f1, f2, _, _, _, _, q2, rfl, _, _⟩ := he'.rel
    rw [ha] at q2
    simp only [ResL, ResV, OWl, OWc] at q2
    obtain ⟨v, vs', u1, u2, g1, g2, rfl, rfl, rfl, ⟨⟨u, us', _, _, rfl, _, ⟨rfl, _⟩, rfl, _⟩, h5⟩, rfl, _⟩ := q2
    simp at h5
    subst h5
    exact ⟨rfl, he'.os, he'.tape, he'.output, he'.size, fun k hk => he'.blk k hk (by simp)⟩
  | _ => exact he.elim
theorem law_post {f : Func} {s : ChangeSpec} {apart fresh : Bool} {W W' : World} {args : Array Value} {ds gs : List (DataW H)} {before : List MemPlace} {t : TypeId} (ht : P.underlying t = some .bool) (hr : f.resultTypes = #[t])
    (hW : DataW.Whole enc P f.params.toList s.vars apart W args.toList ds gs before) (hb : Below W.heap.size W W') (hvars : s.vars = [])
    (hres : (s.fn H (ds ++ gs)).results = [.lit (.bool true)]) (hargs : (s.fn H (ds ++ gs)).args = ds) (hsv : (s.fn H (ds ++ gs)).vars = [])
    (hl : laidOutB P = true) (hp : ∀ t, t ∈ f.params.toList → P.readableRec t = true ∧ t < P.types.size) : s.post enc P f apart fresh false false W args (.bool true) W' := by
  have hlt : ∀ p ∈ before, p.block < W.heap.size := fun p hp => hW.lt p hp
  obtain ⟨p, q, hA, hV, rfl, hz, hn⟩ := hW
  have hq : q = [] := by
    rw [hvars] at hV
    exact (trodVars_none hV).2
  subst hq
  refine ⟨ds, gs, p ++ [], [], p, [], ⟨p, [], hA, hV, rfl, hz, hn⟩, ?_, ?_, ?_, World.keptBut_mono (fun x hx => ⟨hx, .inr (.inl (by simpa using hx))⟩) (hb.frame (· ∈ p ++ [])), fun h => by cases h⟩
  · rw [hres, hr]
    exact trodAll_mk1 (shut_bool ht true)
  · rw [hargs]
    exact args_stay hl hb hp hA (fun x hx => hlt x (by simp [hx])) (fun x hx => by simpa using hlt x (by simp [hx]))
  · rw [hvars, hsv]
    exact rfl
end
end Go.Proofs.AM
