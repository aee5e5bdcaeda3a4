/- Lemmas of the proof (Lk), on an abstract machine. Conditions: none. -/
import Derived.Test.YtnnfdbdheoajgaaGreatG3
import Derived.Test.YtnnfdbdheoajgaaGreatHFn
set_option linter.unusedVariables false
namespace Go.Proofs.AM
variable {P : Program} {tb : Tab}
def lk : List (Nat × Nat) → Nat → Nat
 | [], _ => 0
 | (a, b) :: r, k => if a = k then b else lk r k
def ah7 (P : Program) (tb : Tab) (c : Con) : Prop := (∀ a a', c.args a = c.args a' → c.ins a = c.ins a' → a = a') ∧ ∀ a b, c.val a = some b → FN7 P tb c.f (c.args a) (c.ins a) (c.ans a b)
open Classical in
noncomputable def Fy7 : List Con → Gam
 | [], _, _, _ => none
 | c :: cs, f, xs, ins => if h : c.f = f ∧ ∃ p : c.A × c.B, c.args p.1 = xs ∧ c.ins p.1 = ins ∧ c.val p.1 = some p.2 then some (c.ans (Classical.choose h.2).1 (Classical.choose h.2).2) else Fy7 cs f xs ins
theorem qo7 : ∀ {cs : List Con}, (∀ c, c ∈ cs → ah7 P tb c) → dS7 P tb (Fy7 cs)
 | [], h, f, xs, ins, ans, hg => by cases hg
 | c :: cs, h, f, xs, ins, ans, hg => by
  simp only [Fy7] at hg
  split at hg
  ·rename_i hh
   obtain ⟨rfl, hex⟩ := hh
   have h1 := Classical.choose_spec hex
   simp only [Option.some.injEq] at hg
   subst hg
   generalize Classical.choose hex = p at h1
   obtain ⟨a, b⟩ := p
   obtain ⟨rfl, rfl, h2⟩ := h1
   exact (h c (by simp)).2 _ _ h2
  ·exact qo7 (fun c hc => h c (by simp [hc])) f xs ins ans hg
def GY7 (cs : List Con) : List Nat := cs.map (·.f)
def vv7 : List Nat → Bool
 | [] => true
 | x :: xs => !xs.contains x && vv7 xs
theorem tX7 : ∀ {cs : List Con}, vv7 (GY7 cs) = true → (∀ c, c ∈ cs → ∀ a a', c.args a = c.args a' → c.ins a = c.ins a' → a = a') → ∀ c, c ∈ cs → Has (Fy7 cs) c
 | [], hn, hi, c, hc => by cases hc
 | c0 :: cs, hn, hi, c, hc => by
  intro a b hv
  simp only [GY7, List.map_cons, vv7, Bool.and_eq_true, Bool.not_eq_true'] at hn
  rcases List.mem_cons.1 hc with rfl | hc
  ·have hex : ∃ p : c.A × c.B, c.args p.1 = c.args a ∧ c.ins p.1 = c.ins a ∧ c.val p.1 = some p.2 := ⟨(a, b), rfl, rfl, hv⟩
   simp only [Fy7]
   rw [dif_pos ⟨rfl, hex⟩]
   have h1 := Classical.choose_spec hex
   generalize Classical.choose hex = p at h1
   obtain ⟨a', b'⟩ := p
   have h2 := hi c (by simp) _ _ h1.1 h1.2.1
   have h3 := h1.2.2
   simp only at h2 h3
   subst h2
   rw [hv] at h3
   cases Option.some.inj h3
   rfl
  ·simp only [Fy7]
   rw [dif_neg]
   ·exact tX7 hn.2 (fun c hc => hi c (by simp [hc])) c hc a b hv
   ·rintro ⟨h1, _⟩
    have : (cs.map (·.f)).contains c0.f = true := by
     rw [List.contains_iff_mem, List.mem_map]
     exact ⟨c, hc, h1.symm⟩
    rw [this] at hn
    exact absurd hn.1 (by simp)
theorem all_nil : ∀ c, c ∈ ([] : List Con) → ah7 P tb c := fun c hc => by cases hc
theorem all_cons {c0 : Con} {cs : List Con} (h : ah7 P tb c0) (hs : ∀ c, c ∈ cs → ah7 P tb c) : ∀ c, c ∈ c0 :: cs → ah7 P tb c := fun c hc => by
 rcases List.mem_cons.1 hc with rfl | hc
 ·exact h
 ·exact hs c hc
section
variable {α : Type} {f : α → List T}
theorem ad7 (hf : ∀ a b, f a = f b → a = b) {xs ys : List α} : xs.map f = ys.map f ↔ xs = ys := ⟨wY7 hf, fun h => by rw [h]⟩
theorem qp7 {m : Bool} {k : Nat} {a b : Rows} : sl m k a = sl m k b ↔ a = b := ⟨F27, fun h => by rw [h]⟩
theorem eZ7 (a b : Int) (h : bm7 a = bm7 b) : a = b := by simpa [bm7] using h
theorem eM7 (a b : Bool) (h : bH7 a = bH7 b) : a = b := by simpa [bH7] using h
theorem jV7 (a b : Str) (h : cL7 a = cL7 b) : a = b := by simpa [cL7] using h
theorem GZ7 (a b : UInt8) (h : eU8 a = eU8 b) : a = b := by
 have : (a.toNat : Int) = b.toNat := by simpa [eU8] using h
 exact UInt8.toNat_inj.1 (by omega)
theorem il7 (a b : Pt) (h : ePt a = ePt b) : a = b := by cases a; cases b; simpa [ePt] using h
theorem e07 (a b : Tag) (h : be7 a = be7 b) : a = b := by cases a; cases b; simpa [be7] using h
theorem gt7 (a b : Head) (h : aw7 a = aw7 b) : a = b := by cases a; cases b; simpa [aw7] using h
theorem gO7 (a b : aE7) (h : bw7 a = bw7 b) : a = b := by cases a; cases b; simpa [bw7] using h
theorem jh7 (a b : cN7) (h : fk7 a = fk7 b) : a = b := by cases a; cases b; simpa [fk7] using h
theorem sJ7 {m : Bool} {k : Nat} (hf : ∀ a b, f a = f b → a = b) (a b : List α) (h : eSl m k f a = eSl m k f b) : a = b := by
 simp only [eSl, List.cons.injEq, and_true, qp7, ad7 hf] at h
 exact h
theorem eN7 {m : Bool} (a b : Feat) (h : ak7 m a = ak7 m b) : a = b := by
 obtain ⟨i, ⟨k, p⟩, t⟩ := a; obtain ⟨i', ⟨k', p'⟩, t'⟩ := b
 simp only [ak7, List.cons.injEq, T.v.injEq, Value.string.injEq, Value.int.injEq, qp7, ad7 il7, ad7 e07, true_and, and_true] at h
 obtain ⟨rfl, rfl, rfl, rfl⟩ := h
 rfl
theorem dr7 {m : Bool} (a b : jR7) (h : cC7 m a = cC7 m b) : a = b := by
 obtain ⟨i, h1, ⟨a1, ⟨k1, p1⟩, t1⟩, h2, ⟨a2, ⟨k2, p2⟩, t2⟩⟩ := a; obtain ⟨i', h1', ⟨a1', ⟨k1', p1'⟩, t1'⟩, h2', ⟨a2', ⟨k2', p2'⟩, t2'⟩⟩ := b
 simp only [cC7, List.cons.injEq, T.v.injEq, Value.string.injEq, Value.int.injEq, Value.bool.injEq, qp7, ad7 il7, ad7 e07, true_and, and_true] at h
 obtain ⟨rfl, rfl, rfl, rfl, rfl, rfl, rfl, rfl, rfl, rfl, rfl⟩ := h
 rfl
theorem gP7 {m : Bool} (a b : mO7) (h : f87 m a = f87 m b) : a = b := by
 cases a; cases b
 simp only [f87, List.cons.injEq, T.v.injEq, Value.string.injEq, qp7, ad7 eZ7, ad7 dr7, and_true] at h
 obtain ⟨rfl, rfl, rfl⟩ := h
 rfl
theorem ds7 {m : Bool} (a b : Commit) (h : af7 m a = af7 m b) : a = b := by
 cases a; cases b
 simp only [af7, List.cons.injEq, T.v.injEq, Value.string.injEq, qp7, ad7 eZ7, ad7 eN7, and_true] at h
 obtain ⟨rfl, rfl, rfl⟩ := h
 rfl
theorem zV7 {a b : Pt} : AV.agg [.v (.int .i64 a.x), .v (.int .i64 a.y)] = AV.agg [.v (.int .i64 b.x), .v (.int .i64 b.y)] ↔ a = b := by
 cases a; cases b; simp
theorem tY7 {a b : Tag} : AV.agg [.v (.string a.key), .v (.string a.val)] = AV.agg [.v (.string b.key), .v (.string b.val)] ↔ a = b := by
 cases a; cases b; simp
theorem oJ7 {a b : Head} : AV.agg [.v (.string a.name), .v (.int .i64 a.at_)] = AV.agg [.v (.string b.name), .v (.int .i64 b.at_)] ↔ a = b := by
 cases a; cases b; simp
theorem kD7 {a b : aE7} : AV.agg [.v (.string a.id), .v (.string a.what)] = AV.agg [.v (.string b.id), .v (.string b.what)] ↔ a = b := by
 cases a; cases b; simp
theorem oK7 {a b : cN7} : AV.agg [.v (.int .i64 a.a), .v (.int .i64 a.b)] = AV.agg [.v (.int .i64 b.a), .v (.int .i64 b.b)] ↔ a = b := by
 cases a; cases b; simp
theorem tZ7 {a b : Val} : AV.agg [.v (.bool a.has), .v (.string a.val)] = AV.agg [.v (.bool b.has), .v (.string b.val)] ↔ a = b := by
 cases a; cases b; simp
theorem kE7 {a b : aJ7} : AV.agg [.v (.int .i64 a.kind), .ro (List.map ePt a.pts)] = AV.agg [.v (.int .i64 b.kind), .ro (List.map ePt b.pts)] ↔ a = b := by
 cases a; cases b; simp [ad7 il7]
theorem oL7 {a b : Feat} : AV.agg [.v (.string a.id), .v (.int .i64 a.shape.kind), .ro (List.map ePt a.shape.pts), .ro (List.map be7 a.tags)] = AV.agg [.v (.string b.id), .v (.int .i64 b.shape.kind), .ro (List.map ePt b.shape.pts), .ro (List.map be7 b.tags)] ↔ a = b := by
 obtain ⟨i, ⟨k, p⟩, t⟩ := a; obtain ⟨i', ⟨k', p'⟩, t'⟩ := b
 simp [ad7 il7, ad7 e07, and_assoc]
theorem kF7 {a b : dp7} : AV.agg [.v (.bool a.has), .v (.string a.f.id), .v (.int .i64 a.f.shape.kind), .ro (List.map ePt a.f.shape.pts), .ro (List.map be7 a.f.tags)] = AV.agg [.v (.bool b.has), .v (.string b.f.id), .v (.int .i64 b.f.shape.kind), .ro (List.map ePt b.f.shape.pts), .ro (List.map be7 b.f.tags)] ↔ a = b := by
 obtain ⟨h, i, ⟨k, p⟩, t⟩ := a; obtain ⟨h', i', ⟨k', p'⟩, t'⟩ := b
 simp [ad7 il7, ad7 e07, and_assoc]
theorem im7 {a b : jR7} : AV.agg [.v (.string a.id), .v (.bool a.had), .v (.string a.was.id), .v (.int .i64 a.was.shape.kind), .ro (List.map ePt a.was.shape.pts), .ro (List.map be7 a.was.tags), .v (.bool a.has), .v (.string a.now.id), .v (.int .i64 a.now.shape.kind), .ro (List.map ePt a.now.shape.pts), .ro (List.map be7 a.now.tags)] = AV.agg [.v (.string b.id), .v (.bool b.had), .v (.string b.was.id), .v (.int .i64 b.was.shape.kind), .ro (List.map ePt b.was.shape.pts), .ro (List.map be7 b.was.tags), .v (.bool b.has), .v (.string b.now.id), .v (.int .i64 b.now.shape.kind), .ro (List.map ePt b.now.shape.pts), .ro (List.map be7 b.now.tags)] ↔ a = b := by
 obtain ⟨i, h1, ⟨a1, ⟨k1, p1⟩, t1⟩, h2, ⟨a2, ⟨k2, p2⟩, t2⟩⟩ := a; obtain ⟨i', h1', ⟨a1', ⟨k1', p1'⟩, t1'⟩, h2', ⟨a2', ⟨k2', p2'⟩, t2'⟩⟩ := b
 simp [ad7 il7, ad7 e07, and_assoc]
theorem kG7 {a b : mO7} : AV.agg [.ro (List.map bm7 a.up), .v (.string a.note), .ro (List.map (cC7 false) a.diff)] = AV.agg [.ro (List.map bm7 b.up), .v (.string b.note), .ro (List.map (cC7 false) b.diff)] ↔ a = b := by
 cases a; cases b; simp [ad7 eZ7, ad7 dr7]
theorem in7 {a b : Commit} : AV.agg [.ro (List.map bm7 a.up), .ro (List.map (ak7 false) a.sheet), .v (.string a.note)] = AV.agg [.ro (List.map bm7 b.up), .ro (List.map (ak7 false) b.sheet), .v (.string b.note)] ↔ a = b := by
 cases a; cases b; simp [ad7 eZ7, ad7 eN7]
theorem qq7 {a b : Commit} : AV.rptr [.sl false 1 (List.map bm7 a.up), .sl false 4 (List.map (ak7 false) a.sheet), .v (.string a.note)] = AV.rptr [.sl false 1 (List.map bm7 b.up), .sl false 4 (List.map (ak7 false) b.sheet), .v (.string b.note)] ↔ a = b := by
 cases a; cases b; simp [ad7 eZ7, ad7 eN7]
theorem xr7 {a b : ao7} : AV.rptr [.sl false 3 (List.map (af7 false) a.commits), .sl false 2 (List.map aw7 a.heads)] = AV.rptr [.sl false 3 (List.map (af7 false) b.commits), .sl false 2 (List.map aw7 b.heads)] ↔ a = b := by
 cases a; cases b; simp [ad7 ds7, ad7 gt7]
theorem xs7 {a b : Feat} : AV.rptr [.v (.string a.id), .v (.int .i64 a.shape.kind), .sl false 2 (List.map ePt a.shape.pts), .sl false 2 (List.map be7 a.tags)] = AV.rptr [.v (.string b.id), .v (.int .i64 b.shape.kind), .sl false 2 (List.map ePt b.shape.pts), .sl false 2 (List.map be7 b.tags)] ↔ a = b := by
 obtain ⟨i, ⟨k, p⟩, t⟩ := a; obtain ⟨i', ⟨k', p'⟩, t'⟩ := b
 simp [ad7 il7, ad7 e07, and_assoc]
theorem oM7 {a b : ao7} : AV.agg [.ro (List.map (af7 false) a.commits), .ro (List.map aw7 a.heads)] = AV.agg [.ro (List.map (af7 false) b.commits), .ro (List.map aw7 b.heads)] ↔ a = b := by
 cases a; cases b; simp [ad7 ds7, ad7 gt7]
end
theorem DC7 (hmix : P.follows .mixedOrders = true) {c : Con} (cs : List Con) {ir : IFn} {kss : List (List (Option Nat))} (hcs : ∀ c, c ∈ cs → ah7 P tb c) (hk : vj7 P tb c.f ir = true)
  (hd : ∀ G, (∀ c, c ∈ cs → Has G c) → ∀ a b, c.val a = some b → Bw7 G ir kss (c.args a) (c.ins a) (c.ans a b)) (hn : vv7 (GY7 cs) = true := by exact rfl) (hl : ∀ a, (c.args a).length ≤ ir.ntmps := by exact fun _ => Nat.le_of_ble_eq_true rfl)
  (hi : ∀ a a', c.args a = c.args a' → c.ins a = c.ins a' → a = a' := by (intro a a' h _; (conv at h => lhs; whnf); (conv at h => rhs; whnf); (try simp only [List.cons.injEq, and_true, AV.v.injEq, AV.ro.injEq, Value.int.injEq, Value.string.injEq, Value.bool.injEq, true_and, ad7 eZ7, ad7 jV7, ad7 eM7, ad7 il7, ad7 e07, ad7 gt7, ad7 gO7, ad7 jh7, ad7 eN7, ad7 dr7, ad7 gP7, ad7 ds7, ad7 (sJ7 eM7), ad7 (sJ7 eZ7), zV7, tY7, oJ7, kD7, oK7, tZ7, kE7, oL7, kF7, im7, kG7, in7, oM7, AV.fn.injEq, qq7, xr7, xs7] at h); (try simp only [AV.rptr.injEq, T.v.injEq, List.cons.injEq, and_true, Value.int.injEq, Value.string.injEq, Value.bool.injEq, true_and] at h); first | exact h | exact rfl | exact (Value.int.inj h).2 | exact Value.string.inj h | exact Value.bool.inj h | exact (ad7 eZ7).1 h | exact (ad7 jV7).1 h | exact (ad7 eM7).1 h | exact (ad7 il7).1 h | exact (ad7 e07).1 h | exact (ad7 gt7).1 h | exact (ad7 gO7).1 h | exact (ad7 jh7).1 h | exact (ad7 eN7).1 h | exact (ad7 dr7).1 h | exact (ad7 gP7).1 h | exact (ad7 ds7).1 h | exact (ad7 (sJ7 eM7)).1 h | exact zV7.1 h | exact tY7.1 h | exact oJ7.1 h | exact kD7.1 h | exact oK7.1 h | exact tZ7.1 h | exact kE7.1 h | exact oL7.1 h | exact kF7.1 h | exact im7.1 h | exact kG7.1 h | exact in7.1 h | exact oM7.1 h | exact Prod.ext h.1 h.2 | exact Prod.ext h.1 (Prod.ext h.2.1 h.2.2) | exact Prod.ext h.1 (Prod.ext h.2.1 (Prod.ext h.2.2.1 h.2.2.2)) | exact Prod.ext h.1 (Prod.ext h.2.1 (Prod.ext h.2.2.1 (Prod.ext h.2.2.2.1 h.2.2.2.2))))) : ah7 P tb c :=
 ⟨hi, fun a b hv => CC7 hmix (qo7 hcs) hk (hl a) (hd _ (tX7 hn fun c hc => (hcs c hc).1) a b hv)⟩
theorem G07 {a b : ao7} (h0 : a.commits = b.commits) (h1 : a.heads = b.heads) : a = b := by cases a; cases b; simp_all
theorem Q07 {a b : Pt} (h0 : a.x = b.x) (h1 : a.y = b.y) : a = b := by cases a; cases b; simp_all
theorem Ns7 {a b : Tag} (h0 : a.key = b.key) (h1 : a.val = b.val) : a = b := by cases a; cases b; simp_all
theorem G17 {a b : Head} (h0 : a.name = b.name) (h1 : a.at_ = b.at_) : a = b := by cases a; cases b; simp_all
theorem DD7 {a b : aJ7} (h0 : a.kind = b.kind) (h1 : a.pts = b.pts) : a = b := by cases a; cases b; simp_all
theorem G27 {a b : Feat} (h0 : a.id = b.id) (h1 : a.shape = b.shape) (h2 : a.tags = b.tags) : a = b := by cases a; cases b; simp_all
theorem zW7 {a b : jR7} (h0 : a.id = b.id) (h1 : a.had = b.had) (h2 : a.was = b.was) (h3 : a.has = b.has) (h4 : a.now = b.now) : a = b := by cases a; cases b; simp_all
theorem DE7 {a b : mO7} (h0 : a.up = b.up) (h1 : a.note = b.note) (h2 : a.diff = b.diff) : a = b := by cases a; cases b; simp_all
theorem zX7 {a b : Commit} (h0 : a.up = b.up) (h1 : a.sheet = b.sheet) (h2 : a.note = b.note) : a = b := by cases a; cases b; simp_all
theorem DF7 {a b : aE7} (h0 : a.id = b.id) (h1 : a.what = b.what) : a = b := by cases a; cases b; simp_all
theorem G37 {a b : cN7} (h0 : a.a = b.a) (h1 : a.b = b.b) : a = b := by cases a; cases b; simp_all
theorem Nt7 {a b : Val} (h0 : a.has = b.has) (h1 : a.val = b.val) : a = b := by cases a; cases b; simp_all
theorem DG7 {a b : dp7} (h0 : a.has = b.has) (h1 : a.f = b.f) : a = b := by cases a; cases b; simp_all
theorem Q17 {a b : Rd} (h0 : a.b = b.b) (h1 : a.p = b.p) : a = b := by cases a; cases b; simp_all
theorem at7 {c : Con} {cs : List Con} {ir : IFn} {kss : List (List (Option Nat))} (hmix : P.follows .mixedOrders = true) (hd : OkC cs c ir kss) (hcs : ∀ c, c ∈ cs → ah7 P tb c) (hk : vj7 P tb c.f ir = true := by kernel_rfl) (hn : vv7 (GY7 cs) = true := by exact rfl) (hl : ∀ a, (c.args a).length ≤ ir.ntmps := by exact fun _ => Nat.le_of_ble_eq_true rfl)
  (hi : ∀ a a', c.args a = c.args a' → c.ins a = c.ins a' → a = a' := by (intro a a' h _; (conv at h => lhs; whnf); (conv at h => rhs; whnf); (try simp only [List.cons.injEq, and_true, AV.v.injEq, AV.ro.injEq, Value.int.injEq, Value.string.injEq, Value.bool.injEq, true_and, ad7 eZ7, ad7 jV7, ad7 eM7, ad7 il7, ad7 e07, ad7 gt7, ad7 gO7, ad7 jh7, ad7 eN7, ad7 dr7, ad7 gP7, ad7 ds7, ad7 (sJ7 eM7), ad7 (sJ7 eZ7), zV7, tY7, oJ7, kD7, oK7, tZ7, kE7, oL7, kF7, im7, kG7, in7, oM7, AV.fn.injEq, qq7, xr7, xs7] at h); (try simp only [AV.rptr.injEq, T.v.injEq, List.cons.injEq, and_true, Value.int.injEq, Value.string.injEq, Value.bool.injEq, true_and] at h); first | exact h | exact rfl | exact (Value.int.inj h).2 | exact Value.string.inj h | exact Value.bool.inj h | exact (ad7 eZ7).1 h | exact (ad7 jV7).1 h | exact (ad7 eM7).1 h | exact (ad7 il7).1 h | exact (ad7 e07).1 h | exact (ad7 gt7).1 h | exact (ad7 gO7).1 h | exact (ad7 jh7).1 h | exact (ad7 eN7).1 h | exact (ad7 dr7).1 h | exact (ad7 gP7).1 h | exact (ad7 ds7).1 h | exact (ad7 (sJ7 eM7)).1 h | exact zV7.1 h | exact tY7.1 h | exact oJ7.1 h | exact kD7.1 h | exact oK7.1 h | exact tZ7.1 h | exact kE7.1 h | exact oL7.1 h | exact kF7.1 h | exact im7.1 h | exact kG7.1 h | exact in7.1 h | exact oM7.1 h | exact Prod.ext h.1 h.2 | exact Prod.ext h.1 (Prod.ext h.2.1 h.2.2) | exact Prod.ext h.1 (Prod.ext h.2.1 (Prod.ext h.2.2.1 h.2.2.2)) | exact Prod.ext h.1 (Prod.ext h.2.1 (Prod.ext h.2.2.1 (Prod.ext h.2.2.2.1 h.2.2.2.2))))) : ah7 P tb c := DC7 hmix cs hcs hk hd hn hl hi
theorem de7 {c : Con} {cs : List Con} {ir : IFn} {kss : List (List (Option Nat))} (hmix : P.follows .mixedOrders = true) (hd : OkC cs c ir kss) (hcs : ∀ c, c ∈ cs → ah7 P tb c) (hk : vj7 P tb c.f ir = true := by kernel_rfl) (hn : vv7 (GY7 cs) = true := by exact rfl) (hl : ∀ a, (c.args a).length ≤ ir.ntmps := by exact fun _ => Nat.le_of_ble_eq_true rfl)
  (hi : ∀ a a', c.args a = c.args a' → c.ins a = c.ins a' → a = a' := by (intro a a' h1 h2; (conv at h1 => lhs; whnf); (conv at h1 => rhs; whnf); (conv at h2 => lhs; whnf); (conv at h2 => rhs; whnf); (try simp only [AV.agg.injEq, AV.io.injEq, AV.pio.injEq, T.sl.injEq, T.v.injEq, T.rw.injEq, AV.raw.injEq, AV.v.injEq, AV.ro.injEq, List.cons.injEq, Value.int.injEq, Value.string.injEq, Value.bool.injEq, Prod.mk.injEq, ad7 eZ7, ad7 jV7, ad7 eM7, ad7 GZ7, ad7 il7, ad7 e07, ad7 gt7, ad7 gO7, ad7 jh7, ad7 eN7, ad7 dr7, ad7 gP7, ad7 ds7, true_and, and_true] at h1); (try simp only [AV.agg.injEq, AV.io.injEq, AV.pio.injEq, T.sl.injEq, T.v.injEq, T.rw.injEq, AV.raw.injEq, AV.v.injEq, AV.ro.injEq, List.cons.injEq, Value.int.injEq, Value.string.injEq, Value.bool.injEq, Prod.mk.injEq, ad7 eZ7, ad7 jV7, ad7 eM7, ad7 GZ7, ad7 il7, ad7 e07, ad7 gt7, ad7 gO7, ad7 jh7, ad7 eN7, ad7 dr7, ad7 gP7, ad7 ds7, true_and, and_true] at h2); (repeat' (first | apply Prod.ext | apply G07 | apply Q07 | apply Ns7 | apply G17 | apply DD7 | apply G27 | apply zW7 | apply DE7 | apply zX7 | apply DF7 | apply G37 | apply Nt7 | apply DG7 | apply Q17)) <;> first | exact rfl | (simp_all; done))) : ah7 P tb c := DC7 hmix cs hcs hk hd hn hl hi
end Go.Proofs.AM
