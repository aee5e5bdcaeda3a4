/- Lemmas of the proof (Lk), on an abstract machine. Conditions: none. -/
import Derived.Test.YtnnfdbdheoajgaaGreatG3
import Derived.Test.YtnnfdbdheoajgaaGreatHFn
set_option linter.unusedVariables false
namespace Go.Proofs.AM
variable {P : Program} {tb : Tab}
def lk : List (Nat × Nat) → Nat → Nat
 | [], _ => 0
 | (a, b) :: r, k => if a = k then b else lk r k
def ah7 (P : Program) (tb : Tab) (c : Con) : Prop := (∀ a a', c.args a = c.args a' → c.ins a = c.ins a' → a = a') ∧ ∀ a b, c.val a = some b → FZ7 P tb c.f (c.args a) (c.ins a) (c.ans a b)
open Classical in
noncomputable def FK7 : List Con → Gam
 | [], _, _, _ => none
 | c :: cs, f, xs, ins => if h : c.f = f ∧ ∃ p : c.A × c.B, c.args p.1 = xs ∧ c.ins p.1 = ins ∧ c.val p.1 = some p.2 then some (c.ans (Classical.choose h.2).1 (Classical.choose h.2).2) else FK7 cs f xs ins
theorem qm7 : ∀ {cs : List Con}, (∀ c, c ∈ cs → ah7 P tb c) → dQ7 P tb (FK7 cs)
 | [], h, f, xs, ins, ans, hg => by cases hg
 | c :: cs, h, f, xs, ins, ans, hg => by
  simp only [FK7] at hg
  split at hg
  ·rename_i hh
   obtain ⟨rfl, hex⟩ := hh
   have h1 := Classical.choose_spec hex
   simp only [Option.some.injEq] at hg
   subst hg
   generalize Classical.choose hex = p at h1
   obtain ⟨a, b⟩ := p
   obtain ⟨rfl, rfl, h2⟩ := h1
   exact (h c (by simp)).2 _ _ h2
  ·exact qm7 (fun c hc => h c (by simp [hc])) f xs ins ans hg
def Ha7 (cs : List Con) : List Nat := cs.map (·.f)
def vA7 : List Nat → Bool
 | [] => true
 | x :: xs => !xs.contains x && vA7 xs
theorem t37 : ∀ {cs : List Con}, vA7 (Ha7 cs) = true → (∀ c, c ∈ cs → ∀ a a', c.args a = c.args a' → c.ins a = c.ins a' → a = a') → ∀ c, c ∈ cs → Has (FK7 cs) c
 | [], hn, hi, c, hc => by cases hc
 | c0 :: cs, hn, hi, c, hc => by
  intro a b hv
  simp only [Ha7, List.map_cons, vA7, Bool.and_eq_true, Bool.not_eq_true'] at hn
  rcases List.mem_cons.1 hc with rfl | hc
  ·have hex : ∃ p : c.A × c.B, c.args p.1 = c.args a ∧ c.ins p.1 = c.ins a ∧ c.val p.1 = some p.2 := ⟨(a, b), rfl, rfl, hv⟩
   simp only [FK7]
   rw [dif_pos ⟨rfl, hex⟩]
   have h1 := Classical.choose_spec hex
   generalize Classical.choose hex = p at h1
   obtain ⟨a', b'⟩ := p
   have h2 := hi c (by simp) _ _ h1.1 h1.2.1
   have h3 := h1.2.2
   simp only at h2 h3
   subst h2
   rw [hv] at h3
   cases Option.some.inj h3
   rfl
  ·simp only [FK7]
   rw [dif_neg]
   ·exact t37 hn.2 (fun c hc => hi c (by simp [hc])) c hc a b hv
   ·rintro ⟨h1, _⟩
    have : (cs.map (·.f)).contains c0.f = true := by
     rw [List.contains_iff_mem, List.mem_map]
     exact ⟨c, hc, h1.symm⟩
    rw [this] at hn
    exact absurd hn.1 (by simp)
theorem all_nil : ∀ c, c ∈ ([] : List Con) → ah7 P tb c := fun c hc => by cases hc
theorem all_cons {c0 : Con} {cs : List Con} (h : ah7 P tb c0) (hs : ∀ c, c ∈ cs → ah7 P tb c) : ∀ c, c ∈ c0 :: cs → ah7 P tb c := fun c hc => by
 rcases List.mem_cons.1 hc with rfl | hc
 ·exact h
 ·exact hs c hc
section
variable {α : Type} {f : α → List T}
theorem ad7 (hf : ∀ a b, f a = f b → a = b) {xs ys : List α} : xs.map f = ys.map f ↔ xs = ys := ⟨w47 hf, fun h => by rw [h]⟩
theorem qn7 {m : Bool} {k : Nat} {a b : Rows} : sl m k a = sl m k b ↔ a = b := ⟨Ge7, fun h => by rw [h]⟩
theorem eX7 (a b : Int) (h : bn7 a = bn7 b) : a = b := by simpa [bn7] using h
theorem eI7 (a b : Bool) (h : bK7 a = bK7 b) : a = b := by simpa [bK7] using h
theorem jY7 (a b : Str) (h : cI7 a = cI7 b) : a = b := by simpa [cI7] using h
theorem Hb7 (a b : UInt8) (h : eU8 a = eU8 b) : a = b := by
 have : (a.toNat : Int) = b.toNat := by simpa [eU8] using h
 exact UInt8.toNat_inj.1 (by omega)
theorem in7 (a b : Pt) (h : ePt a = ePt b) : a = b := by cases a; cases b; simpa [ePt] using h
theorem eY7 (a b : Tag) (h : be7 a = be7 b) : a = b := by cases a; cases b; simpa [be7] using h
theorem gu7 (a b : Head) (h : av7 a = av7 b) : a = b := by cases a; cases b; simpa [av7] using h
theorem gR7 (a b : aw7) (h : bg7 a = bg7 b) : a = b := by cases a; cases b; simpa [bg7] using h
theorem jl7 (a b : cK7) (h : fi7 a = fi7 b) : a = b := by cases a; cases b; simpa [fi7] using h
theorem sM7 {m : Bool} {k : Nat} (hf : ∀ a b, f a = f b → a = b) (a b : List α) (h : eSl m k f a = eSl m k f b) : a = b := by
 simp only [eSl, List.cons.injEq, and_true, qn7, ad7 hf] at h
 exact h
theorem eJ7 {m : Bool} (a b : Feat) (h : ak7 m a = ak7 m b) : a = b := by
 obtain ⟨i, ⟨k, p⟩, t⟩ := a; obtain ⟨i', ⟨k', p'⟩, t'⟩ := b
 simp only [ak7, List.cons.injEq, T.v.injEq, Value.string.injEq, Value.int.injEq, qn7, ad7 in7, ad7 eY7, true_and, and_true] at h
 obtain ⟨rfl, rfl, rfl, rfl⟩ := h
 rfl
theorem do7 {m : Bool} (a b : jV7) (h : cB7 m a = cB7 m b) : a = b := by
 obtain ⟨i, h1, ⟨a1, ⟨k1, p1⟩, t1⟩, h2, ⟨a2, ⟨k2, p2⟩, t2⟩⟩ := a; obtain ⟨i', h1', ⟨a1', ⟨k1', p1'⟩, t1'⟩, h2', ⟨a2', ⟨k2', p2'⟩, t2'⟩⟩ := b
 simp only [cB7, List.cons.injEq, T.v.injEq, Value.string.injEq, Value.int.injEq, Value.bool.injEq, qn7, ad7 in7, ad7 eY7, true_and, and_true] at h
 obtain ⟨rfl, rfl, rfl, rfl, rfl, rfl, rfl, rfl, rfl, rfl, rfl⟩ := h
 rfl
theorem gS7 {m : Bool} (a b : mP7) (h : f67 m a = f67 m b) : a = b := by
 cases a; cases b
 simp only [f67, List.cons.injEq, T.v.injEq, Value.string.injEq, qn7, ad7 eX7, ad7 do7, and_true] at h
 obtain ⟨rfl, rfl, rfl⟩ := h
 rfl
theorem dp7 {m : Bool} (a b : Commit) (h : af7 m a = af7 m b) : a = b := by
 cases a; cases b
 simp only [af7, List.cons.injEq, T.v.injEq, Value.string.injEq, qn7, ad7 eX7, ad7 eJ7, and_true] at h
 obtain ⟨rfl, rfl, rfl⟩ := h
 rfl
theorem z07 {a b : Pt} : AV.agg [.v (.int .i64 a.x), .v (.int .i64 a.y)] = AV.agg [.v (.int .i64 b.x), .v (.int .i64 b.y)] ↔ a = b := by
 cases a; cases b; simp
theorem t47 {a b : Tag} : AV.agg [.v (.string a.key), .v (.string a.val)] = AV.agg [.v (.string b.key), .v (.string b.val)] ↔ a = b := by
 cases a; cases b; simp
theorem oL7 {a b : Head} : AV.agg [.v (.string a.name), .v (.int .i64 a.at_)] = AV.agg [.v (.string b.name), .v (.int .i64 b.at_)] ↔ a = b := by
 cases a; cases b; simp
theorem kG7 {a b : aw7} : AV.agg [.v (.string a.id), .v (.string a.what)] = AV.agg [.v (.string b.id), .v (.string b.what)] ↔ a = b := by
 cases a; cases b; simp
theorem oM7 {a b : cK7} : AV.agg [.v (.int .i64 a.a), .v (.int .i64 a.b)] = AV.agg [.v (.int .i64 b.a), .v (.int .i64 b.b)] ↔ a = b := by
 cases a; cases b; simp
theorem t57 {a b : Val} : AV.agg [.v (.bool a.has), .v (.string a.val)] = AV.agg [.v (.bool b.has), .v (.string b.val)] ↔ a = b := by
 cases a; cases b; simp
theorem kH7 {a b : aI7} : AV.agg [.v (.int .i64 a.kind), .ro (List.map ePt a.pts)] = AV.agg [.v (.int .i64 b.kind), .ro (List.map ePt b.pts)] ↔ a = b := by
 cases a; cases b; simp [ad7 in7]
theorem oN7 {a b : Feat} : AV.agg [.v (.string a.id), .v (.int .i64 a.shape.kind), .ro (List.map ePt a.shape.pts), .ro (List.map be7 a.tags)] = AV.agg [.v (.string b.id), .v (.int .i64 b.shape.kind), .ro (List.map ePt b.shape.pts), .ro (List.map be7 b.tags)] ↔ a = b := by
 obtain ⟨i, ⟨k, p⟩, t⟩ := a; obtain ⟨i', ⟨k', p'⟩, t'⟩ := b
 simp [ad7 in7, ad7 eY7, and_assoc]
theorem kI7 {a b : dl7} : AV.agg [.v (.bool a.has), .v (.string a.f.id), .v (.int .i64 a.f.shape.kind), .ro (List.map ePt a.f.shape.pts), .ro (List.map be7 a.f.tags)] = AV.agg [.v (.bool b.has), .v (.string b.f.id), .v (.int .i64 b.f.shape.kind), .ro (List.map ePt b.f.shape.pts), .ro (List.map be7 b.f.tags)] ↔ a = b := by
 obtain ⟨h, i, ⟨k, p⟩, t⟩ := a; obtain ⟨h', i', ⟨k', p'⟩, t'⟩ := b
 simp [ad7 in7, ad7 eY7, and_assoc]
theorem io7 {a b : jV7} : AV.agg [.v (.string a.id), .v (.bool a.had), .v (.string a.was.id), .v (.int .i64 a.was.shape.kind), .ro (List.map ePt a.was.shape.pts), .ro (List.map be7 a.was.tags), .v (.bool a.has), .v (.string a.now.id), .v (.int .i64 a.now.shape.kind), .ro (List.map ePt a.now.shape.pts), .ro (List.map be7 a.now.tags)] = AV.agg [.v (.string b.id), .v (.bool b.had), .v (.string b.was.id), .v (.int .i64 b.was.shape.kind), .ro (List.map ePt b.was.shape.pts), .ro (List.map be7 b.was.tags), .v (.bool b.has), .v (.string b.now.id), .v (.int .i64 b.now.shape.kind), .ro (List.map ePt b.now.shape.pts), .ro (List.map be7 b.now.tags)] ↔ a = b := by
 obtain ⟨i, h1, ⟨a1, ⟨k1, p1⟩, t1⟩, h2, ⟨a2, ⟨k2, p2⟩, t2⟩⟩ := a; obtain ⟨i', h1', ⟨a1', ⟨k1', p1'⟩, t1'⟩, h2', ⟨a2', ⟨k2', p2'⟩, t2'⟩⟩ := b
 simp [ad7 in7, ad7 eY7, and_assoc]
theorem kJ7 {a b : mP7} : AV.agg [.ro (List.map bn7 a.up), .v (.string a.note), .ro (List.map (cB7 false) a.diff)] = AV.agg [.ro (List.map bn7 b.up), .v (.string b.note), .ro (List.map (cB7 false) b.diff)] ↔ a = b := by
 cases a; cases b; simp [ad7 eX7, ad7 do7]
theorem ip7 {a b : Commit} : AV.agg [.ro (List.map bn7 a.up), .ro (List.map (ak7 false) a.sheet), .v (.string a.note)] = AV.agg [.ro (List.map bn7 b.up), .ro (List.map (ak7 false) b.sheet), .v (.string b.note)] ↔ a = b := by
 cases a; cases b; simp [ad7 eX7, ad7 eJ7]
theorem qo7 {a b : Commit} : AV.rptr [.sl false 1 (List.map bn7 a.up), .sl false 4 (List.map (ak7 false) a.sheet), .v (.string a.note)] = AV.rptr [.sl false 1 (List.map bn7 b.up), .sl false 4 (List.map (ak7 false) b.sheet), .v (.string b.note)] ↔ a = b := by
 cases a; cases b; simp [ad7 eX7, ad7 eJ7]
theorem xx7 {a b : am7} : AV.rptr [.sl false 3 (List.map (af7 false) a.commits), .sl false 2 (List.map av7 a.heads)] = AV.rptr [.sl false 3 (List.map (af7 false) b.commits), .sl false 2 (List.map av7 b.heads)] ↔ a = b := by
 cases a; cases b; simp [ad7 dp7, ad7 gu7]
theorem xy7 {a b : Feat} : AV.rptr [.v (.string a.id), .v (.int .i64 a.shape.kind), .sl false 2 (List.map ePt a.shape.pts), .sl false 2 (List.map be7 a.tags)] = AV.rptr [.v (.string b.id), .v (.int .i64 b.shape.kind), .sl false 2 (List.map ePt b.shape.pts), .sl false 2 (List.map be7 b.tags)] ↔ a = b := by
 obtain ⟨i, ⟨k, p⟩, t⟩ := a; obtain ⟨i', ⟨k', p'⟩, t'⟩ := b
 simp [ad7 in7, ad7 eY7, and_assoc]
theorem oO7 {a b : am7} : AV.agg [.ro (List.map (af7 false) a.commits), .ro (List.map av7 a.heads)] = AV.agg [.ro (List.map (af7 false) b.commits), .ro (List.map av7 b.heads)] ↔ a = b := by
 cases a; cases b; simp [ad7 dp7, ad7 gu7]
end
theorem DN7 (hmix : P.follows .mixedOrders = true) {c : Con} (cs : List Con) {ir : IFn} {kss : List (List (Option Nat))} (hcs : ∀ c, c ∈ cs → ah7 P tb c) (hk : vo7 P tb c.f ir = true)
  (hd : ∀ G, (∀ c, c ∈ cs → Has G c) → ∀ a b, c.val a = some b → BF7 G ir kss (c.args a) (c.ins a) (c.ans a b)) (hn : vA7 (Ha7 cs) = true := by exact rfl) (hl : ∀ a, (c.args a).length ≤ ir.ntmps := by exact fun _ => Nat.le_of_ble_eq_true rfl)
  (hi : ∀ a a', c.args a = c.args a' → c.ins a = c.ins a' → a = a' := by (intro a a' h _; (conv at h => lhs; whnf); (conv at h => rhs; whnf); (try simp only [List.cons.injEq, and_true, AV.v.injEq, AV.ro.injEq, Value.int.injEq, Value.string.injEq, Value.bool.injEq, true_and, ad7 eX7, ad7 jY7, ad7 eI7, ad7 in7, ad7 eY7, ad7 gu7, ad7 gR7, ad7 jl7, ad7 eJ7, ad7 do7, ad7 gS7, ad7 dp7, ad7 (sM7 eI7), ad7 (sM7 eX7), z07, t47, oL7, kG7, oM7, t57, kH7, oN7, kI7, io7, kJ7, ip7, oO7, AV.fn.injEq, qo7, xx7, xy7] at h); (try simp only [AV.rptr.injEq, T.v.injEq, List.cons.injEq, and_true, Value.int.injEq, Value.string.injEq, Value.bool.injEq, true_and] at h); first | exact h | exact rfl | exact (Value.int.inj h).2 | exact Value.string.inj h | exact Value.bool.inj h | exact (ad7 eX7).1 h | exact (ad7 jY7).1 h | exact (ad7 eI7).1 h | exact (ad7 in7).1 h | exact (ad7 eY7).1 h | exact (ad7 gu7).1 h | exact (ad7 gR7).1 h | exact (ad7 jl7).1 h | exact (ad7 eJ7).1 h | exact (ad7 do7).1 h | exact (ad7 gS7).1 h | exact (ad7 dp7).1 h | exact (ad7 (sM7 eI7)).1 h | exact z07.1 h | exact t47.1 h | exact oL7.1 h | exact kG7.1 h | exact oM7.1 h | exact t57.1 h | exact kH7.1 h | exact oN7.1 h | exact kI7.1 h | exact io7.1 h | exact kJ7.1 h | exact ip7.1 h | exact oO7.1 h | exact Prod.ext h.1 h.2 | exact Prod.ext h.1 (Prod.ext h.2.1 h.2.2) | exact Prod.ext h.1 (Prod.ext h.2.1 (Prod.ext h.2.2.1 h.2.2.2)) | exact Prod.ext h.1 (Prod.ext h.2.1 (Prod.ext h.2.2.1 (Prod.ext h.2.2.2.1 h.2.2.2.2))))) : ah7 P tb c :=
 ⟨hi, fun a b hv => CL7 hmix (qm7 hcs) hk (hl a) (hd _ (t37 hn fun c hc => (hcs c hc).1) a b hv)⟩
theorem Hc7 {a b : am7} (h0 : a.commits = b.commits) (h1 : a.heads = b.heads) : a = b := by cases a; cases b; simp_all
theorem Rj7 {a b : Pt} (h0 : a.x = b.x) (h1 : a.y = b.y) : a = b := by cases a; cases b; simp_all
theorem NK7 {a b : Tag} (h0 : a.key = b.key) (h1 : a.val = b.val) : a = b := by cases a; cases b; simp_all
theorem Hd7 {a b : Head} (h0 : a.name = b.name) (h1 : a.at_ = b.at_) : a = b := by cases a; cases b; simp_all
theorem DO7 {a b : aI7} (h0 : a.kind = b.kind) (h1 : a.pts = b.pts) : a = b := by cases a; cases b; simp_all
theorem He7 {a b : Feat} (h0 : a.id = b.id) (h1 : a.shape = b.shape) (h2 : a.tags = b.tags) : a = b := by cases a; cases b; simp_all
theorem z17 {a b : jV7} (h0 : a.id = b.id) (h1 : a.had = b.had) (h2 : a.was = b.was) (h3 : a.has = b.has) (h4 : a.now = b.now) : a = b := by cases a; cases b; simp_all
theorem DP7 {a b : mP7} (h0 : a.up = b.up) (h1 : a.note = b.note) (h2 : a.diff = b.diff) : a = b := by cases a; cases b; simp_all
theorem z27 {a b : Commit} (h0 : a.up = b.up) (h1 : a.sheet = b.sheet) (h2 : a.note = b.note) : a = b := by cases a; cases b; simp_all
theorem DQ7 {a b : aw7} (h0 : a.id = b.id) (h1 : a.what = b.what) : a = b := by cases a; cases b; simp_all
theorem Hf7 {a b : cK7} (h0 : a.a = b.a) (h1 : a.b = b.b) : a = b := by cases a; cases b; simp_all
theorem NL7 {a b : Val} (h0 : a.has = b.has) (h1 : a.val = b.val) : a = b := by cases a; cases b; simp_all
theorem DR7 {a b : dl7} (h0 : a.has = b.has) (h1 : a.f = b.f) : a = b := by cases a; cases b; simp_all
theorem Rk7 {a b : Rd} (h0 : a.b = b.b) (h1 : a.p = b.p) : a = b := by cases a; cases b; simp_all
theorem as7 {c : Con} {cs : List Con} {ir : IFn} {kss : List (List (Option Nat))} (hmix : P.follows .mixedOrders = true) (hd : OkC cs c ir kss) (hcs : ∀ c, c ∈ cs → ah7 P tb c) (hk : vo7 P tb c.f ir = true := by kernel_rfl) (hn : vA7 (Ha7 cs) = true := by exact rfl) (hl : ∀ a, (c.args a).length ≤ ir.ntmps := by exact fun _ => Nat.le_of_ble_eq_true rfl)
  (hi : ∀ a a', c.args a = c.args a' → c.ins a = c.ins a' → a = a' := by (intro a a' h _; (conv at h => lhs; whnf); (conv at h => rhs; whnf); (try simp only [List.cons.injEq, and_true, AV.v.injEq, AV.ro.injEq, Value.int.injEq, Value.string.injEq, Value.bool.injEq, true_and, ad7 eX7, ad7 jY7, ad7 eI7, ad7 in7, ad7 eY7, ad7 gu7, ad7 gR7, ad7 jl7, ad7 eJ7, ad7 do7, ad7 gS7, ad7 dp7, ad7 (sM7 eI7), ad7 (sM7 eX7), z07, t47, oL7, kG7, oM7, t57, kH7, oN7, kI7, io7, kJ7, ip7, oO7, AV.fn.injEq, qo7, xx7, xy7] at h); (try simp only [AV.rptr.injEq, T.v.injEq, List.cons.injEq, and_true, Value.int.injEq, Value.string.injEq, Value.bool.injEq, true_and] at h); first | exact h | exact rfl | exact (Value.int.inj h).2 | exact Value.string.inj h | exact Value.bool.inj h | exact (ad7 eX7).1 h | exact (ad7 jY7).1 h | exact (ad7 eI7).1 h | exact (ad7 in7).1 h | exact (ad7 eY7).1 h | exact (ad7 gu7).1 h | exact (ad7 gR7).1 h | exact (ad7 jl7).1 h | exact (ad7 eJ7).1 h | exact (ad7 do7).1 h | exact (ad7 gS7).1 h | exact (ad7 dp7).1 h | exact (ad7 (sM7 eI7)).1 h | exact z07.1 h | exact t47.1 h | exact oL7.1 h | exact kG7.1 h | exact oM7.1 h | exact t57.1 h | exact kH7.1 h | exact oN7.1 h | exact kI7.1 h | exact io7.1 h | exact kJ7.1 h | exact ip7.1 h | exact oO7.1 h | exact Prod.ext h.1 h.2 | exact Prod.ext h.1 (Prod.ext h.2.1 h.2.2) | exact Prod.ext h.1 (Prod.ext h.2.1 (Prod.ext h.2.2.1 h.2.2.2)) | exact Prod.ext h.1 (Prod.ext h.2.1 (Prod.ext h.2.2.1 (Prod.ext h.2.2.2.1 h.2.2.2.2))))) : ah7 P tb c := DN7 hmix cs hcs hk hd hn hl hi
theorem c97 {c : Con} {cs : List Con} {ir : IFn} {kss : List (List (Option Nat))} (hmix : P.follows .mixedOrders = true) (hd : OkC cs c ir kss) (hcs : ∀ c, c ∈ cs → ah7 P tb c) (hk : vo7 P tb c.f ir = true := by kernel_rfl) (hn : vA7 (Ha7 cs) = true := by exact rfl) (hl : ∀ a, (c.args a).length ≤ ir.ntmps := by exact fun _ => Nat.le_of_ble_eq_true rfl)
  (hi : ∀ a a', c.args a = c.args a' → c.ins a = c.ins a' → a = a' := by (intro a a' h1 h2; (conv at h1 => lhs; whnf); (conv at h1 => rhs; whnf); (conv at h2 => lhs; whnf); (conv at h2 => rhs; whnf); (try simp only [AV.agg.injEq, AV.io.injEq, AV.pio.injEq, T.sl.injEq, T.v.injEq, T.rw.injEq, AV.raw.injEq, AV.v.injEq, AV.ro.injEq, List.cons.injEq, Value.int.injEq, Value.string.injEq, Value.bool.injEq, Prod.mk.injEq, ad7 eX7, ad7 jY7, ad7 eI7, ad7 Hb7, ad7 in7, ad7 eY7, ad7 gu7, ad7 gR7, ad7 jl7, ad7 eJ7, ad7 do7, ad7 gS7, ad7 dp7, true_and, and_true] at h1); (try simp only [AV.agg.injEq, AV.io.injEq, AV.pio.injEq, T.sl.injEq, T.v.injEq, T.rw.injEq, AV.raw.injEq, AV.v.injEq, AV.ro.injEq, List.cons.injEq, Value.int.injEq, Value.string.injEq, Value.bool.injEq, Prod.mk.injEq, ad7 eX7, ad7 jY7, ad7 eI7, ad7 Hb7, ad7 in7, ad7 eY7, ad7 gu7, ad7 gR7, ad7 jl7, ad7 eJ7, ad7 do7, ad7 gS7, ad7 dp7, true_and, and_true] at h2); (repeat' (first | apply Prod.ext | apply Hc7 | apply Rj7 | apply NK7 | apply Hd7 | apply DO7 | apply He7 | apply z17 | apply DP7 | apply z27 | apply DQ7 | apply Hf7 | apply NL7 | apply DR7 | apply Rk7)) <;> first | exact rfl | (simp_all; done))) : ah7 P tb c := DN7 hmix cs hcs hk hd hn hl hi
end Go.Proofs.AM
