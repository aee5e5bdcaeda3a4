/- A part of the proof of 'FnExactPackSizeSaid' (Lk): lemmas on an abstract machine for the program's functions. Conditions: none. -/
import Derived.Test.YthimhbjbpeheoaaG2
import Derived.Test.YthimhbjbpeheoaaHFn
set_option linter.unusedVariables false
namespace Go.Proofs.AM
variable {P : Program} {tb : Tab}
def lk : List (Nat × Nat) → Nat → Nat
  | [], _ => 0
  | (a, b) :: r, k => if a = k then b else lk r k
def GoodC (P : Program) (tb : Tab) (c : Con) : Prop := (∀ a a', c.args a = c.args a' → a = a') ∧ ∀ a b, c.val a = some b → Good P tb c.f (c.args a) [] (c.ans b)
open Classical in
noncomputable def gamL : List Con → Gam
  | [], _, _, _ => none
  | c :: cs, f, xs, ins => if h : c.f = f ∧ ins = [] ∧ ∃ p : c.A × c.B, c.args p.1 = xs ∧ c.val p.1 = some p.2 then some (c.ans (Classical.choose h.2.2).2) else gamL cs f xs ins
theorem gamL_good : ∀ {cs : List Con}, (∀ c, c ∈ cs → GoodC P tb c) → AllGood P tb (gamL cs)
  | [], h, f, xs, ins, ans, hg => by cases hg
  | c :: cs, h, f, xs, ins, ans, hg => by
    simp only [gamL] at hg
    split at hg
    · rename_i hh
      obtain ⟨rfl, rfl, hex⟩ := hh
      have h1 := Classical.choose_spec hex
      simp only [Option.some.injEq] at hg
      subst hg
      generalize Classical.choose hex = p at h1
      obtain ⟨a, b⟩ := p
      obtain ⟨rfl, h2⟩ := h1
      exact (h c (by simp)).2 _ _ h2
    · exact gamL_good (fun c hc => h c (by simp [hc])) f xs ins ans hg
def fsOf (cs : List Con) : List Nat := cs.map (·.f)
def noDup : List Nat → Bool
  | [] => true
  | x :: xs => !xs.contains x && noDup xs
theorem gamL_has : ∀ {cs : List Con}, noDup (fsOf cs) = true → (∀ c, c ∈ cs → ∀ a a', c.args a = c.args a' → a = a') → ∀ c, c ∈ cs → Has (gamL cs) c
  | [], hn, hi, c, hc => by cases hc
  | c0 :: cs, hn, hi, c, hc => by
    intro a b hv
    simp only [fsOf, List.map_cons, noDup, Bool.and_eq_true, Bool.not_eq_true'] at hn
    rcases List.mem_cons.1 hc with rfl | hc
    · have hex : ∃ p : c.A × c.B, c.args p.1 = c.args a ∧ c.val p.1 = some p.2 := ⟨(a, b), rfl, hv⟩
      simp only [gamL]
      rw [dif_pos ⟨rfl, rfl, hex⟩]
      have h1 := Classical.choose_spec hex
      generalize Classical.choose hex = p at h1
      obtain ⟨a', b'⟩ := p
      have h2 := hi c (by simp) _ _ h1.1
      have h3 := h1.2
      simp only at h2 h3
      subst h2
      rw [hv] at h3
      rw [← Option.some.inj h3]
    · simp only [gamL]
      rw [dif_neg]
      · exact gamL_has hn.2 (fun c hc => hi c (by simp [hc])) c hc a b hv
      · rintro ⟨h1, _⟩
        have : (cs.map (·.f)).contains c0.f = true := by
          rw [List.contains_iff_mem, List.mem_map]
          exact ⟨c, hc, h1.symm⟩
        rw [this] at hn
        exact absurd hn.1 (by simp)
theorem all_nil : ∀ c, c ∈ ([] : List Con) → GoodC P tb c := fun c hc => by cases hc
theorem all_cons {c0 : Con} {cs : List Con} (h : GoodC P tb c0) (hs : ∀ c, c ∈ cs → GoodC P tb c) : ∀ c, c ∈ c0 :: cs → GoodC P tb c := fun c hc => by
  rcases List.mem_cons.1 hc with rfl | hc
  · exact h
  · exact hs c hc
section
variable {α : Type} {f : α → List T}
theorem map_iff (hf : ∀ a b, f a = f b → a = b) {xs ys : List α} : xs.map f = ys.map f ↔ xs = ys := ⟨ext_map hf, fun h => by rw [h]⟩
theorem sl_iff {m : Bool} {k : Nat} {a b : Rows} : sl m k a = sl m k b ↔ a = b := ⟨sl_inj, fun h => by rw [h]⟩
theorem ij_Int (a b : Int) (h : eInt a = eInt b) : a = b := by simpa [eInt] using h
theorem ij_Bool (a b : Bool) (h : eBool a = eBool b) : a = b := by simpa [eBool] using h
theorem ij_Str (a b : Str) (h : eStr a = eStr b) : a = b := by simpa [eStr] using h
theorem ij_U8 (a b : UInt8) (h : eU8 a = eU8 b) : a = b := by
  have : (a.toNat : Int) = b.toNat := by simpa [eU8] using h
  exact UInt8.toNat_inj.1 (by omega)
theorem ij_Pt (a b : Pt) (h : ePt a = ePt b) : a = b := by cases a; cases b; simpa [ePt] using h
theorem ij_Tag (a b : Tag) (h : eTag a = eTag b) : a = b := by cases a; cases b; simpa [eTag] using h
theorem ij_Head (a b : Head) (h : eHead a = eHead b) : a = b := by cases a; cases b; simpa [eHead] using h
theorem ij_Clash (a b : Clash) (h : eClash a = eClash b) : a = b := by cases a; cases b; simpa [eClash] using h
theorem ij_Pair (a b : Pair) (h : ePair a = ePair b) : a = b := by cases a; cases b; simpa [ePair] using h
theorem ij_Val (a b : Val) (h : eVal a = eVal b) : a = b := by cases a; cases b; simpa [eVal] using h
theorem ij_Sl {m : Bool} {k : Nat} (hf : ∀ a b, f a = f b → a = b) (a b : List α) (h : eSl m k f a = eSl m k f b) : a = b := by
  simp only [eSl, List.cons.injEq, and_true, sl_iff, map_iff hf] at h
  exact h
theorem ij_Shape {m : Bool} (a b : Shape) (h : eShape m a = eShape m b) : a = b := by
  cases a; cases b; simpa [eShape, sl_iff, map_iff ij_Pt] using h
theorem ij_Feat {m : Bool} (a b : Feat) (h : eFeat m a = eFeat m b) : a = b := by
  obtain ⟨i, ⟨k, p⟩, t⟩ := a; obtain ⟨i', ⟨k', p'⟩, t'⟩ := b
  simp only [eFeat, List.cons.injEq, T.v.injEq, Value.string.injEq, Value.int.injEq, sl_iff, map_iff ij_Pt, map_iff ij_Tag, true_and, and_true] at h
  obtain ⟨rfl, rfl, rfl, rfl⟩ := h
  rfl
theorem ij_Change {m : Bool} (a b : Change) (h : eChange m a = eChange m b) : a = b := by
  obtain ⟨i, h1, ⟨a1, ⟨k1, p1⟩, t1⟩, h2, ⟨a2, ⟨k2, p2⟩, t2⟩⟩ := a; obtain ⟨i', h1', ⟨a1', ⟨k1', p1'⟩, t1'⟩, h2', ⟨a2', ⟨k2', p2'⟩, t2'⟩⟩ := b
  simp only [eChange, List.cons.injEq, T.v.injEq, Value.string.injEq, Value.int.injEq, Value.bool.injEq, sl_iff, map_iff ij_Pt, map_iff ij_Tag, true_and, and_true] at h
  obtain ⟨rfl, rfl, rfl, rfl, rfl, rfl, rfl, rfl, rfl, rfl, rfl⟩ := h
  rfl
theorem ij_Entry {m : Bool} (a b : Entry) (h : eEntry m a = eEntry m b) : a = b := by
  cases a; cases b
  simp only [eEntry, List.cons.injEq, T.v.injEq, Value.string.injEq, sl_iff, map_iff ij_Int, map_iff ij_Change, and_true] at h
  obtain ⟨rfl, rfl, rfl⟩ := h
  rfl
theorem ij_Commit {m : Bool} (a b : Commit) (h : eCommit m a = eCommit m b) : a = b := by
  cases a; cases b
  simp only [eCommit, List.cons.injEq, T.v.injEq, Value.string.injEq, sl_iff, map_iff ij_Int, map_iff ij_Feat, and_true] at h
  obtain ⟨rfl, rfl, rfl⟩ := h
  rfl
theorem aj_Pt {a b : Pt} : AV.agg [.v (.int .i64 a.x), .v (.int .i64 a.y)] = AV.agg [.v (.int .i64 b.x), .v (.int .i64 b.y)] ↔ a = b := by
  cases a; cases b; simp
theorem aj_Tag {a b : Tag} : AV.agg [.v (.string a.key), .v (.string a.val)] = AV.agg [.v (.string b.key), .v (.string b.val)] ↔ a = b := by
  cases a; cases b; simp
theorem aj_Head {a b : Head} : AV.agg [.v (.string a.name), .v (.int .i64 a.at_)] = AV.agg [.v (.string b.name), .v (.int .i64 b.at_)] ↔ a = b := by
  cases a; cases b; simp
theorem aj_Clash {a b : Clash} : AV.agg [.v (.string a.id), .v (.string a.what)] = AV.agg [.v (.string b.id), .v (.string b.what)] ↔ a = b := by
  cases a; cases b; simp
theorem aj_Pair {a b : Pair} : AV.agg [.v (.int .i64 a.a), .v (.int .i64 a.b)] = AV.agg [.v (.int .i64 b.a), .v (.int .i64 b.b)] ↔ a = b := by
  cases a; cases b; simp
theorem aj_Val {a b : Val} : AV.agg [.v (.bool a.has), .v (.string a.val)] = AV.agg [.v (.bool b.has), .v (.string b.val)] ↔ a = b := by
  cases a; cases b; simp
theorem aj_Shape {a b : Shape} : AV.agg [.v (.int .i64 a.kind), .ro (List.map ePt a.pts)] = AV.agg [.v (.int .i64 b.kind), .ro (List.map ePt b.pts)] ↔ a = b := by
  cases a; cases b; simp [map_iff ij_Pt]
theorem aj_Feat {a b : Feat} : AV.agg [.v (.string a.id), .v (.int .i64 a.shape.kind), .ro (List.map ePt a.shape.pts), .ro (List.map eTag a.tags)] = AV.agg [.v (.string b.id), .v (.int .i64 b.shape.kind), .ro (List.map ePt b.shape.pts), .ro (List.map eTag b.tags)] ↔ a = b := by
  obtain ⟨i, ⟨k, p⟩, t⟩ := a; obtain ⟨i', ⟨k', p'⟩, t'⟩ := b
  simp [map_iff ij_Pt, map_iff ij_Tag, and_assoc]
theorem aj_Thing {a b : Thing} : AV.agg [.v (.bool a.has), .v (.string a.f.id), .v (.int .i64 a.f.shape.kind), .ro (List.map ePt a.f.shape.pts), .ro (List.map eTag a.f.tags)] = AV.agg [.v (.bool b.has), .v (.string b.f.id), .v (.int .i64 b.f.shape.kind), .ro (List.map ePt b.f.shape.pts), .ro (List.map eTag b.f.tags)] ↔ a = b := by
  obtain ⟨h, i, ⟨k, p⟩, t⟩ := a; obtain ⟨h', i', ⟨k', p'⟩, t'⟩ := b
  simp [map_iff ij_Pt, map_iff ij_Tag, and_assoc]
theorem aj_Change {a b : Change} : AV.agg [.v (.string a.id), .v (.bool a.had), .v (.string a.was.id), .v (.int .i64 a.was.shape.kind), .ro (List.map ePt a.was.shape.pts), .ro (List.map eTag a.was.tags), .v (.bool a.has), .v (.string a.now.id), .v (.int .i64 a.now.shape.kind), .ro (List.map ePt a.now.shape.pts), .ro (List.map eTag a.now.tags)] = AV.agg [.v (.string b.id), .v (.bool b.had), .v (.string b.was.id), .v (.int .i64 b.was.shape.kind), .ro (List.map ePt b.was.shape.pts), .ro (List.map eTag b.was.tags), .v (.bool b.has), .v (.string b.now.id), .v (.int .i64 b.now.shape.kind), .ro (List.map ePt b.now.shape.pts), .ro (List.map eTag b.now.tags)] ↔ a = b := by
  obtain ⟨i, h1, ⟨a1, ⟨k1, p1⟩, t1⟩, h2, ⟨a2, ⟨k2, p2⟩, t2⟩⟩ := a; obtain ⟨i', h1', ⟨a1', ⟨k1', p1'⟩, t1'⟩, h2', ⟨a2', ⟨k2', p2'⟩, t2'⟩⟩ := b
  simp [map_iff ij_Pt, map_iff ij_Tag, and_assoc]
theorem aj_Entry {a b : Entry} : AV.agg [.ro (List.map eInt a.up), .v (.string a.note), .ro (List.map (eChange false) a.diff)] = AV.agg [.ro (List.map eInt b.up), .v (.string b.note), .ro (List.map (eChange false) b.diff)] ↔ a = b := by
  cases a; cases b; simp [map_iff ij_Int, map_iff ij_Change]
theorem aj_Commit {a b : Commit} : AV.agg [.ro (List.map eInt a.up), .ro (List.map (eFeat false) a.sheet), .v (.string a.note)] = AV.agg [.ro (List.map eInt b.up), .ro (List.map (eFeat false) b.sheet), .v (.string b.note)] ↔ a = b := by
  cases a; cases b; simp [map_iff ij_Int, map_iff ij_Feat]
theorem aj_Repo {a b : Repo} : AV.agg [.ro (List.map (eCommit false) a.commits), .ro (List.map eHead a.heads)] = AV.agg [.ro (List.map (eCommit false) b.commits), .ro (List.map eHead b.heads)] ↔ a = b := by
  cases a; cases b; simp [map_iff ij_Commit, map_iff ij_Head]
end
theorem goodC (hmix : P.follows .mixedOrders = true) {c : Con} (cs : List Con) {ir : IFn} {kss : List (List (Option Nat))} (hcs : ∀ c, c ∈ cs → GoodC P tb c) (hk : chkFn P tb c.f ir = true)
    (hd : ∀ G, (∀ c, c ∈ cs → Has G c) → ∀ a b, c.val a = some b → Does G ir kss (c.args a) [] (c.ans b)) (hn : noDup (fsOf cs) = true := by exact rfl) (hl : ∀ a, (c.args a).length ≤ ir.ntmps := by exact fun _ => Nat.le_of_ble_eq_true rfl)
    (hi : ∀ a a', c.args a = c.args a' → a = a' := by (intro a a' h; (conv at h => lhs; whnf); (conv at h => rhs; whnf); (try simp only [List.cons.injEq, and_true, AV.v.injEq, AV.ro.injEq, Value.int.injEq, Value.string.injEq, Value.bool.injEq, true_and, map_iff ij_Int, map_iff ij_Str, map_iff ij_Bool, map_iff ij_Pt, map_iff ij_Tag, map_iff ij_Head, map_iff ij_Clash, map_iff ij_Pair, map_iff ij_Feat, map_iff ij_Change, map_iff ij_Entry, map_iff ij_Commit, aj_Pt, aj_Tag, aj_Head, aj_Clash, aj_Pair, aj_Val, aj_Shape, aj_Feat, aj_Thing, aj_Change, aj_Entry, aj_Commit, aj_Repo] at h); first | exact h | exact rfl | exact (map_iff ij_Int).1 h | exact (map_iff ij_Str).1 h | exact (map_iff ij_Bool).1 h | exact (map_iff ij_Pt).1 h | exact (map_iff ij_Tag).1 h | exact (map_iff ij_Head).1 h | exact (map_iff ij_Clash).1 h | exact (map_iff ij_Pair).1 h | exact (map_iff ij_Feat).1 h | exact (map_iff ij_Change).1 h | exact (map_iff ij_Entry).1 h | exact (map_iff ij_Commit).1 h | exact aj_Pt.1 h | exact aj_Tag.1 h | exact aj_Head.1 h | exact aj_Clash.1 h | exact aj_Pair.1 h | exact aj_Val.1 h | exact aj_Shape.1 h | exact aj_Feat.1 h | exact aj_Thing.1 h | exact aj_Change.1 h | exact aj_Entry.1 h | exact aj_Commit.1 h | exact aj_Repo.1 h | exact Prod.ext h.1 h.2 | exact Prod.ext h.1 (Prod.ext h.2.1 h.2.2) | exact Prod.ext h.1 (Prod.ext h.2.1 (Prod.ext h.2.2.1 h.2.2.2)) | exact Prod.ext h.1 (Prod.ext h.2.1 (Prod.ext h.2.2.1 (Prod.ext h.2.2.2.1 h.2.2.2.2))))) : GoodC P tb c :=
  ⟨hi, fun a b hv => fn_good hmix (gamL_good hcs) hk (hl a) (hd _ (gamL_has hn fun c hc => (hcs c hc).1) a b hv)⟩
end Go.Proofs.AM
