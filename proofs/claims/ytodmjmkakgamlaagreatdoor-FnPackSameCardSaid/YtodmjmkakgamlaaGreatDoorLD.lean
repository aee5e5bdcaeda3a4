/- Lemmas of the proof (LD), on an abstract machine. Conditions: none. -/
import Derived.Test.YtodmjmkakgamlaaGreatDoorRow
import Derived.LaidMore
import Derived.LaidHandle
import Derived.Lib.LaidTab
/-! Variables of the program that a row lists: from the row's condition to what the walks ask; read again behind the call. -/
set_option linter.unusedVariables false
namespace Go.Proofs.AM
open Go.RowKit Go.ChangeShapes
variable {P : Program} {tb : Tab} {H : Type} {enc : TypeId × Value → H}
theorem var_obj {W : World} {n : String} {g : Nat} {cs : Array Value} (hg : P.globalNamed n = some g) (hv : W.var? P n = some cs) : g < W.heap.size ∧ ∃ t o, W.heap[g]? = some (.cells cs t o) := by
 unfold World.var? at hv
 rw [hg, Option.bind_some] at hv
 split at hv
 ·rename_i cs' t o h
  cases hv
  exact ⟨(Array.getElem?_eq_some_iff.1 h).1, t, o, h⟩
 ·cases hv
theorem cell_lt {W : World} {a : Addr} {v : Value} (h : W.cell? a = some v) : a.block < W.heap.size := by
 cases hh : W.heap[a.block]? with
 | none =>
  have : W.cell? a = none := by
   unfold World.cell?
   rw [hh]
  rw [this] at h
  cases h
 | some o => exact (Array.getElem?_eq_some_iff.1 hh).1
theorem gl_names {W : World} {n : String} {g : Nat} {t e : TypeId} {cs : Array Value} {ss : List ByteArray} {sp : Nat → Bool} {held : Bool} {fuel base : Nat} {p : List MemPlace} (hne : ss ≠ [])
  (hg : P.globalNamed n = some g) (hv : W.var? P n = some cs) (ht : P.underlying t = some (.slice e)) (he : P.underlying e = some .string) (hc : P.cellsOf e = 1)
  (h : DataW.trod enc P W base sp held fuel t cs.toList = some (.slice (ss.map fun s => .lit (.string s.data.toList)) [], p)) : g < W.heap.size ∧ ROcells (fun k => k < W.heap.size) W ⟨g, 0, none⟩ 0 [.sl false 1 (ss.map eStr)] := by
 obtain ⟨h1, t', o, h2⟩ := var_obj hg hv
 refine ⟨h1, ?_⟩
 obtain ⟨a, cap, k1, k2, k3⟩ := open_row ht hc h
 have hcell : W.cell? ((⟨g, 0, none⟩ : Addr).add 0) = some (.slice (some a) ss.length cap) := by
  have := World.var?_cell hg hv 0
  rw [← Array.getElem?_toList, k1] at this
  simpa [Addr.add] using this
 have key : ∀ (l : List ByteArray) (i : Nat), ss.drop i = l → ROrows (fun k => k < W.heap.size) W 1 (some a) i (l.map eStr) := by
  intro l
  induction l with
  | nil => intro i _; simp [ROrows]
  | cons x l ih =>
   intro i hi
   have hx : ss[i]? = some x := by
    have := congrArg List.head? hi
    simpa [List.head?_drop] using this
   obtain ⟨v, m, q, g1, g2⟩ := k3 i (.lit (.string x.data.toList)) (by rw [List.getElem?_map, hx]; rfl)
   obtain ⟨s, g3, g4, _⟩ := DataW.trod_string he g2
   cases g3
   simp only [Prod.mk.injEq, DataW.lit.injEq, Lit.string.injEq] at g4
   have hs : s = x := ByteArray.ext (Array.ext' g4.1.symm)
   subst hs
   have hb := cell_lt g1
   rw [add_block] at hb
   simp only [List.map_cons, ROrows]
   refine ⟨rfl, ⟨a, rfl, hb, ?_⟩, ih (i + 1) (by rw [← List.drop_drop, hi]; rfl)⟩
   simp only [eStr, ROcells, ROc, Nat.mul_one]
   exact ⟨⟨_, g1, rfl, rfl⟩, trivial⟩
 simp only [ROcells, ROc, List.length_map]
 exact ⟨⟨_, hcell, some a, cap, 1, rfl, by simpa using k2, key ss 0 rfl⟩, trivial⟩
theorem law_postV {f : Func} {s : ChangeSpec} {apart fresh : Bool} {W W' : World} {args : Array Value} {ds gs : List (DataW H)} {before : List MemPlace} {t : TypeId} {n : String} {g : Nat} {tv : TypeId} (ht : P.underlying t = some .bool) (hr : f.resultTypes = #[t])
  (hW : DataW.Whole enc P f.params.toList s.vars apart W args.toList ds gs before) (hb : Below W.heap.size W W') (hvars : s.vars = [n]) (hgn : P.globalNamed n = some g) (htv : (P.globals[g]?).map (·.type) = some tv) (hrv : P.readableRec tv = true ∧ tv < P.types.size)
  (hres : (s.fn H (ds ++ gs)).results = [.lit (.bool true)]) (hargs : (s.fn H (ds ++ gs)).args = ds) (hsv : (s.fn H (ds ++ gs)).vars = gs)
  (hl : laidOutB P = true) (hp : ∀ t, t ∈ f.params.toList → P.readableRec t = true ∧ t < P.types.size) : s.post enc P f apart fresh false false W args (.bool true) W' := by
 have hlt : ∀ p ∈ before, p.block < W.heap.size := fun p hp => hW.lt p hp
 obtain ⟨p, q, hA, hV, rfl, hz, hn⟩ := hW
 refine ⟨ds, gs, p ++ q, [], p, q, ⟨p, q, hA, hV, rfl, hz, hn⟩, ?_, ?_, ?_, World.keptBut_mono (fun x hx => ⟨hx, ?_⟩) (hb.frame (· ∈ p ++ q)), fun h => by cases h⟩
 ·rw [hres, hr]
  exact trodAll_mk1 (shut_bool ht true)
 ·rw [hargs]
  exact args_stay hl hb hp hA (fun x hx => hlt x (by simp [hx])) (fun x hx => by simpa using hlt x (by simp [hx]))
 ·rw [hvars] at hV ⊢
  rw [hsv]
  cases gs with
  | nil => simp [DataW.TrodVars] at hV
  | cons d gs =>
   simp only [DataW.TrodVars] at hV ⊢
   obtain ⟨g', t', cs, fuel, p', q', h1, h2, h3, h4, h5, h6⟩ := hV
   cases gs with
   | cons _ _ => simp [DataW.TrodVars] at h5
   | nil =>
    simp only [DataW.TrodVars] at h5
    subst h5
    rw [hgn] at h1
    cases h1
    rw [htv] at h2
    cases h2
    subst h6
    refine ⟨g, tv, cs, fuel, p', [], hgn, htv, ?_, ?_, rfl, rfl⟩
    ·obtain ⟨g1, _, _, g2⟩ := var_obj hgn h3
     unfold World.var? at h3 ⊢
     rw [hgn, Option.bind_some] at h3 ⊢
     rw [hb.block g g1]
     exact h3
    ·exact DataW.trod_stays (kids_book hl hrv.1) (book_sized hrv.1) (fun h => by cases h) ⟨hrv.2, book_self tv⟩ h4 (fun x hx => hb.same (hlt x (by simp [hx]))) (fun x hx => by simpa using hlt x (by simp [hx]))
 ·rcases List.mem_append.1 hx with h | h
  ·exact .inr (.inl h)
  ·exact .inr (.inr h)
end Go.Proofs.AM
